import Derived.Test.YtelljijajgiabaaGreatDoorQ17
set_option linter.unusedVariables false
set_option linter.unusedSimpArgs false
set_option maxRecDepth 100000
set_option maxHeartbeats 8000000
namespace Go.Proofs.YtelljijajgiabaaGreatDoor
open Go.RowKit Go.Shelf
end Go.Proofs.YtelljijajgiabaaGreatDoor
namespace Tb
theorem Bw.ex {l:List Int} {w:Int} (hs:So l) (hw:1<=w):∃b a,Bw l w l.length b a:=by
 have h:∀k,k<=l.length->∃b a,Bw l w k b a:=fun k=>by
  induction k with
  | zero=>exact fun _=>⟨0,0,Bw.start l w⟩
  | succ k ih =>
   intro hk;obtain ⟨b,a,hB⟩:=ih (by omega);obtain ⟨n1,n2⟩:=hB.next hs hw (show k<l.length by omega);by_cases hb:b<(cw l l[k] w:Int)
   · exact⟨_,_,n1 hb⟩
   · exact⟨_,_,n2 hb⟩
 exact h l.length (Nat.le_refl _)
end Tb
namespace Go.Proofs.YtelljijajgiabaaGreatDoor
open Go.RowKit Go.Shelf
theorem Y2 {n m mx:Nat} {c e:Int} (OL:n<=50) (h0:0<=c) (h1:c<=e) (h2:e<=1000) (h3:1<=e) (hmx:mx<=60):(Ig.fits ((Tb.Pq n m c (e-c)).num*(Wq (mx:Int)).num)/\Ig.fits (((Tb.Pq n m c (e-c)).den:Int)*(Wq (mx:Int)).den))/\Rq.Fq (bst n m mx c e):=by
 have hpq:=Tb.TP (n:=n) h0 (show 0<=e-c by omega) (by omega) (by omega) m;have hwn:(Wq (mx:Int)).num=(mx:Int):=by rw[Aq];exact Rat.num_intCast _
 have hwd:(Wq (mx:Int)).den=1:=by rw[Aq];exact Rat.den_intCast _
 have hms:Rq.Sz 2 (mx:Int):=by unfold Rq.Sz;rw[Int.natAbs_natCast];omega
 refine⟨⟨by rw[hwn];exact (hpq.num.mul hms).fits (by omega),by rw[hwd];exact (hpq.den.mul Rq.O_).fits (by omega)⟩,?_⟩
 have e1:bst n m mx c e=Rat.divInt ((Tb.Pq n m c (e-c)).num*(mx:Int)) ((Tb.Pq n m c (e-c)).den:Int):=by
  unfold bst
  rw[←Rq.wQ,hwn,hwd];simp
 obtain⟨s1,s2⟩:=pO ((Tb.Pq n m c (e-c)).num*(mx:Int)) (Tb.Pq n m c (e-c)).den (Tb.Pq n m c (e-c)).den_pos;rw [←e1]at s1 s2;refine ⟨Nat.lt_of_le_of_lt s1 ((hpq.num.mul hms).fits (by omega)),?_⟩;have hd:=hpq.den.fits (show 3*n+1<=200 by omega)
 unfold Ig.fits at hd ⊢
 rw[Int.natAbs_natCast]at hd ⊢;omega
namespace Tf
theorem vN (m:Rat):∀n:Nat,comb (List.replicate n m)=none∨comb (List.replicate n m)=some (m*(n:Rat))
 | 0=>.inr (by show some (0:Rat)=some (m*((0:Nat):Rat));simp)
 | n+1=>by
  have ih:=vN m n;rw [List.replicate_succ',sD]
  cases hc:um (comb (List.replicate n m)) (some m) with
  | none=>exact .inl rfl
  | some z =>
   obtain⟨x,y,h1,h2,-,h3⟩:=Gx hc;cases h2
   rcases ih with ih|ih
   · rw[ih]at h1;cases h1
   · rw[ih]at h1;cases h1
     refine .inr ?_;rw [h3,Rat.natCast_add]
     congr 1;grind
theorem N7 {m z:Rat} {n:Nat} (hm:0<=m) (h:comb (List.replicate (n+1) m)=some z):∃x,comb (List.replicate n m)=some x/\x<=z:=by
 rw[List.replicate_succ',sD]at h;obtain ⟨x,y,h1,h2,-,h3⟩:=Gx h;cases h2
 exact⟨x,h1,by grind⟩
theorem Qx {a b:Rat} (h:a<=b):uo a<=uo b:=by
 unfold uo
 split <;> split <;> grind
theorem more {m z:Rat} {n:Nat} {v:Rat} (hm:0<=m) (h:comb (List.replicate (n+1) m)=some z) (hv:uo z<=v):∃x,comb (List.replicate n m)=some x/\uo x<=v:=by
 obtain⟨x,h1,h2⟩:=N7 hm h;exact ⟨x,h1,Rat.le_trans (Qx h2) hv⟩
theorem proved {m r v:Rat} {n:Nat} (hm:Un m) (hn:1<=n) (hc:comb (List.replicate n m)=some r) (hv:uo r<=v) (h1:v<1):AY m (n:Rat)/\m*(n:Rat)<=v:=by
 have hr:r=m*(n:Rat):=by
  rcases vN m n with h|h
  · rw[h]at hc;cases hc
  · rw[h]at hc;cases hc;rfl
 have hlt:r<=v:=by
  unfold uo at hv
  split at hv <;> grind
 refine⟨?_,hr ▸ hlt⟩;have hle:m*(n:Rat)<=1:=by grind
 have hnum:((n:Rat)).num=(n:Int):=Rat.num_natCast n;have hden:((n:Rat)).den=1:=Rat.den_natCast n
 have h0:0<=m.num:=by
  have:=hm.2.1;exact Rat.num_nonneg.2 this
 have hk:m.num*(n:Int)<=m.den:=by
  have e1:m*(n:Rat)=Rat.divInt (m.num*(n:Int)) (m.den:Int):=by
   have:=Rq.wQ m (n:Rat);rw [hnum,hden]at this;rw [←this];simp
  have e2:(1:Rat)=Rat.divInt (m.den:Int) (m.den:Int):=(Rat.divInt_self' (Rq.lQ m)).symm
  have e3:0<=Rat.divInt ((m.den:Int)-m.num*(n:Int)) (m.den:Int):=by
   have h3:=Rq.iG m
   have h4:Rat.divInt ((m.den:Int)-m.num*(n:Int)) (m.den:Int)=Rat.divInt (m.den:Int) (m.den:Int)-Rat.divInt (m.num*(n:Int)) (m.den:Int):=by
    rw[Rat.divInt_sub_divInt _ _ (by omega) (by omega),←Int.sub_mul,Rat.divInt_mul_right (by omega)]
   rw[h4,←e1,←e2];grind
  rw[Rat.divInt_nonneg_iff_of_pos_right (Rq.iG m)]at e3;omega
 have hf:=hm.1.den;refine ⟨?_,?_⟩
 · rw[hnum];have h2:0<=m.num*(n:Int):=Int.mul_nonneg h0 (by omega)
   unfold Ig.fits at hf ⊢
   omega
 · rw[hden];simpa using hf
end Tf
namespace Tf
def iT:List Rat->Rat
 | []=>0
 | q :: l=>l.foldl (fun m x=>if x<m then x else m) q
theorem CZ {l:List Rat} (h:l≠[]) (x:Rat):iT (l++[x])=if x<iT l then x else iT l:=by
 cases l with
 | nil=>exact absurd rfl h
 | cons q l =>
  show (l++[x]).foldl _ q=_
  rw[List.foldl_append,List.foldl_cons,List.foldl_nil];rfl
theorem KY:∀(l:List Rat) (q:Rat),(l.foldl (fun m x=>if x<m then x else m) q=q∨l.foldl (fun m x=>if x<m then x else m) q∈l)/\l.foldl (fun m x=>if x<m then x else m) q<=q/\∀y∈l,l.foldl (fun m x=>if x<m then x else m) q<=y
 | [],q=>⟨.inl rfl,Rat.le_refl,fun y hy=>absurd hy List.not_mem_nil⟩
 | x :: l,q=>by
  obtain⟨h1,h2,h3⟩:=KY l (if x<q then x else q);rw [List.foldl_cons];have hx:(if x<q then x else q)<=x/\(if x<q then x else q)<=q:=by split <;> grind
  refine⟨?_,Rat.le_trans h2 hx.2,fun y hy=>?_⟩
  · rcases h1 with h1|h1
    · rw[h1]
      split
      · exact .inr (List.mem_cons_self ..)
      · exact .inl rfl
    · exact .inr (List.mem_cons_of_mem _ h1)
  · rcases List.mem_cons.1 hy with e|hy
    · rw[e];exact Rat.le_trans h2 hx.1
    · exact h3 y hy
theorem rY {l:List Rat} (h:l≠[]):iT l∈l/\∀y∈l,iT l<=y:=by
 cases l with
 | nil=>exact absurd rfl h
 | cons q l =>
  obtain⟨h1,h2,h3⟩:=KY l q;refine ⟨?_,fun y hy=>?_⟩
  · rcases h1 with h1|h1
    · show l.foldl _ q∈_;rw[h1];exact List.mem_cons_self ..
    · exact List.mem_cons_of_mem _ h1
  · rcases List.mem_cons.1 hy with e|hy
    · rw[e];exact h2
    · exact h3 y hy
theorem Nq {l:List Rat} {x y:Rat} (hy:y∈l) (h:y<=x):iT (l++[x])=iT l:=by
 have hne:l≠[]:=fun e=>by rw[e]at hy;cases hy
 rw[CZ hne,if_neg];have:=(rY hne).2 y hy
 grind
noncomputable def sO (l:List Rat):Option Rat:=if 1<=l.length/\l.length<=10 then (comb (List.replicate l.length (iT l))).map uo else none
theorem yU {l:List Rat} {b:Rat} (h:sO l=some b):1<=l.length/\l.length<=10/\∃r,comb (List.replicate l.length (iT l))=some r/\b=uo r:=by
 unfold sO at h
 by_cases hc:1<=l.length/\l.length<=10
 · rw[if_pos hc]at h
   cases hr:comb (List.replicate l.length (iT l)) with
   | none=>rw[hr]at h;cases h
   | some r=>rw[hr]at h;exact⟨hc.1,hc.2,r,rfl,by cases h;rfl⟩
 · rw[if_neg hc]at h;cases h
theorem I9 {l:List Rat} {b v:Rat} (hu:∀q∈l,Un q) (h:sO l=some b) (hv:b<=v) (h1:v<1):∃q∈l,AY q (l.length:Rat)/\q*(l.length:Rat)<=v:=by
 obtain⟨h2,h3,r,h4,rfl⟩:=yU h;have hne:l≠[]:=fun e=>by rw[e]at h2;simp at h2
 obtain⟨h5,-⟩:=rY hne;obtain ⟨h6,h7⟩:=proved (hu _ h5) h2 h4 hv h1;exact ⟨_,h5,h6,h7⟩
theorem O1 {l:List Rat} {x y b v:Rat} (hu:∀q∈l,Un q) (hy:y∈l) (hyx:y<=x) (h:sO (l++[x])=some b) (hv:b<=v):∃d,sO l=some d/\d<=v:=by
 obtain⟨h2,h3,r,h4,rfl⟩:=yU h;have hne:l≠[]:=fun e=>by rw[e]at hy;cases hy
 rw[Nq hy hyx,List.length_append,List.length_singleton]at h4;have hm:0<=iT l:=(hu _ (rY hne).1).2.1;obtain ⟨z,h5,h6⟩:=more hm h4 hv;rw [List.length_append,List.length_singleton]at h3;have hl:1<=l.length:=List.length_pos_iff.2 hne;refine ⟨uo z,?_,h6⟩
 unfold sO
 rw[if_pos ⟨hl,by omega⟩,h5];rfl
end Tf
namespace Tf
structure Made (P:Pr->Prop) (r:Ru) (l:List Ho):Prop where
 va:Va P r l
 len:l.length<=8
 f0:∀h∈l,0<=h.f/\h.f<=384
 nn:∀h∈l,5<=h.n/\h.n<=7
 d0:∀h∈l,0<=h.d/\h.d<=406
 vv:∀h∈l,h.v=0∨h.v=1∨h.v=2
 sp:∀h∈l,Sp r h
theorem Oz.made {P:Pr->Prop} {r:Ru} {k:Nat} {s:List Ho × Int} (hr:BJ r) (hk:k<=8) (h:Oz P r k s):Made P r s.1:=by
 have hl:=h.l2;have hlo:=hr.l1;refine ⟨h.va,by rw[h.len];exact hk,fun g hg=>?_,h.nn,fun g hg=>?_,fun g hg=>?_,h.va.sp (by omega)⟩
 · have a:=(h.va.fm g hg).f0;have b:=h.le g hg;omega
 · have a:=(h.va.fm g hg).f0;have b:=h.le g hg;have c:=h.dd g hg
   rcases (h.va.fm g hg).v with ⟨h1,h2⟩|⟨h1,h2,h3⟩ <;> omega
 · rcases (h.va.fm g hg).v with ⟨h1,h2⟩|⟨h1,h2,h3⟩ <;> omega
theorem Qy {c e:Int} (h0:0<=c) (h1:c<e):Rat.divInt c e<1:=by
 have h2:(1:Rat)=Rat.divInt e e:=(Rat.divInt_self' (by omega)).symm;have h3:¬Rat.divInt e e<=Rat.divInt c e:=by rw[Tb.wL (by omega)];omega
 rw[h2];grind
theorem QA {c e:Int} (h0:0<=c) (h1:c<=e) (h2:1<=e):0<=Rat.divInt c e/\Rat.divInt c e<=1:=by
 have h3:(1:Rat)=Rat.divInt e e:=(Rat.divInt_self' (by omega)).symm;have h4:(0:Rat)=Rat.divInt 0 e:=by simp
 exact⟨by rw[h4,Tb.wL (by omega)];exact h0,by rw[h3,Tb.wL (by omega)];exact h1⟩
end Tf
def wB (r:Tf.Ru) (l:List Tf.Ho):Prop:=Tf.BJ r/\Tf.Va (rF r.c r.e) r l
noncomputable def sH (r:Tf.Ru) (l:List Tf.Ho):Bool:=@decide (wB r l) (Classical.propDecidable _)
theorem l7 {r:Tf.Ru} {l:List Tf.Ho} (h:wB r l):sH r l=true:=@decide_eq_true _ (Classical.propDecidable _) h
theorem qF {r:Tf.Ru} {l:List Tf.Ho} (h:¬wB r l):sH r l=false:=@decide_eq_false _ (Classical.propDecidable _) h
theorem yE {r:Tf.Ru} {l:List Tf.Ho}:sH r l=true↔wB r l:=by
 constructor
 · intro h1;by_cases h:wB r l
   · exact h
   · rw[qF h]at h1;cases h1
 · exact l7
theorem B_ {r:Tf.Ru} {l:List Tf.Ho} (h:AL r.c r.e r.lo r.re r.pay=false):sH r l=false :=
 qF fun hv=>by rw[jq.2 hv.1]at h;cases h
noncomputable def G6 (r:Tf.Ru) (l:List Tf.Ho) (n t:Int):Bool:=sH r l&&Tf.held r l n t
theorem WT {r:Tf.Ru} {l:List Tf.Ho} (h:wB r l) (n t:Int):G6 r l n t=Tf.held r l n t:=by unfold G6;rw[l7 h];rfl
theorem aap {r:Tf.Ru} {l:List Tf.Ho} (h:¬wB r l) (n t:Int):G6 r l n t=false:=by unfold G6;rw[qF h];rfl
namespace Tf
structure Vd (r:Ru) (f a:Int) (b:Pr):Prop where
 f0:fin r ⟨5,f,b,0,0⟩=f+r.lo
 f1:fin r ⟨5,f,b,1,f+a⟩=f+r.lo
 o0:owed r ⟨5,f,b,0,0⟩=r.pay*r.lo
 late:f+r.lo<=f+a->fin r ⟨5,f,b,2,f+a⟩=f+r.lo/\owed r ⟨5,f,b,1,f+a⟩=r.pay*r.lo/\owed r ⟨5,f,b,2,f+a⟩=r.pay*r.lo
 early:f+a<f+r.lo->fin r ⟨5,f,b,2,f+a⟩=f+a/\owed r ⟨5,f,b,1,f+a⟩=0/\owed r ⟨5,f,b,2,f+a⟩=r.pay*(f+a-f)
end Tf
namespace Tf
structure Su where
 kind:Int
 n:Int
 c:Int
 e:Int
 bT:Int
 count:Int
 times:List Int
 width:Int
 things:Int
 marked:Int
structure X6 where
 a:Int
 b:Int
 c:Int
 d:Int
 e:Int
 f:Int
def K_ (n:Int) (x:X6) (c e:Int) (times:List Int):Su :=
 let k:=1+Tp.pick x.a 3
 let t:=Tp.pick x.d 9
 {
  kind:=k,n:=n,c:=c,e:=e,bT:=t,count:=Tp.pick x.e (t+2),
  times:=if k=1 then Tb.jw (times.take 12) else [],
  width:=if k=1 then 1+Tp.pick x.f 12 else 0,
  things:=if k=3 then t+Tp.pick x.f 9 else 0,
  marked:=if k=3 then Tp.pick (x.f.tdiv 16) (t+Tp.pick x.f 9+1) else 0 }
structure GoodS (s:Su):Prop where
 k1:1<=s.kind
 k3:s.kind<=3
 e1:1<=s.e
 e2:s.e<=1000
 c0:0<=s.c
 ce:s.c<=s.e
 t0:0<=s.bT
 t8:s.bT<=8
 n0:0<=s.count
 n1:s.count<=s.bT+1
 so:Tb.So s.times
 len:s.times.length<=12
 tm:∀t∈s.times,0<=t/\t<=59940
 w:s.kind=1->1<=s.width/\s.width<=12
 w0:0<=s.width/\s.width<=12
 th:s.kind=3->s.bT<=s.things/\s.things<=16
 mr:s.kind=3->0<=s.marked/\s.marked<=s.things
 th0:0<=s.things/\s.things<=16
 mr0:0<=s.marked/\s.marked<=16
theorem C9 (x:List Int):(Tb.jw x).length<=x.length:=by
 unfold Tb.jw;rw[Tb.yG];omega
theorem JD (n:Int) (x:X6) {c e:Int} (times:List Int) (h1:1<=e) (h2:e<=1000) (h3:0<=c) (h4:c<=e):GoodS (K_ n x c e times)/\(K_ n x c e times).n=n:=by
 have p1:=Tp.aZ x.a (show (0:Int)<3 by decide);have p2:=Tp.aZ x.d (show (0:Int)<9 by decide);have p3:=Tp.aZ x.e (show 0<Tp.pick x.d 9+2 by omega);have p4:=Tp.aZ x.f (show (0:Int)<12 by decide);have p5:=Tp.aZ x.f (show (0:Int)<9 by decide);have p6:=Tp.aZ (x.f.tdiv 16) (show 0<Tp.pick x.d 9+Tp.pick x.f 9+1 by omega);have hm:=Tb.Qo (times.take 12);have hl:(Tb.jw (times.take 12)).length<=12:=Nat.le_trans (C9 _) (by rw[List.length_take];omega);refine ⟨?_,rfl⟩
 unfold K_
 refine⟨?_,?_,h1,h2,h3,h4,?_,?_,?_,?_,?_,?_,?_,?_,?_,?_,?_,?_,?_⟩ <;> simp only
 · omega
 · omega
 · omega
 · omega
 · omega
 · omega
 · split
   · exact hm.1
   · exact List.Pairwise.nil
 · split
   · exact hl
   · simp
 · split
   · exact hm.2.2
   · intro t ht;cases ht
 · intro h;rw[if_pos h];omega
 · split <;> omega
 · intro h;rw[if_pos h];omega
 · intro h;rw[if_pos h,if_pos h];omega
 · split <;> omega
 · split <;> omega
end Tf
inductive OB:Option Rat->List UInt8->List UInt8->Int->Prop
 | good {q:Rat} {ra rb:List UInt8} (hu:Un q) (lq:LQ q ra rb):OB (some q) ra rb 0
 | bad:OB none [] [] 360
def UnO (o:Option Rat):Prop:=∀q,o=some q->Un q
theorem OB.ex {o:Option Rat} (h:UnO o):∃(ra rb:List UInt8) (code:Int),OB o ra rb code:=by
 cases o with
 | none=>exact⟨_,_,_,.bad⟩
 | some q =>
  obtain⟨a,b,lq⟩:=LQ.ex q;exact ⟨a,b,0,.good (h q rfl) lq⟩
noncomputable def iW (os:List (Option Rat)):Option Rat:=if os.all Option.isSome then Tf.sO (os.filterMap id) else none
theorem Vq (qs:List Rat):(qs.map some).filterMap id=qs:=by
 induction qs with
 | nil=>rfl
 | cons q qs ih=>simp
theorem iK (qs:List Rat):iW (qs.map some)=Tf.sO qs:=by
 unfold iW
 rw[if_pos (by simp),Vq]
theorem Ce {os:List (Option Rat)} (h:none∈os):iW os=none:=by
 unfold iW
 rw[if_neg];simp only[List.all_eq_true];exact fun hh=>absurd (hh _ h) (by simp)
theorem KW:∀ {os:List (Option Rat)},none ∉ os->∃qs:List Rat,os=qs.map some
 | [],_=>⟨[],rfl⟩
 | none :: os,h=>absurd (List.mem_cons_self ..) h
 | some q :: os,h=>by
  obtain⟨qs,e⟩:=KW (os:=os) fun hh=>h (List.mem_cons_of_mem _ hh)
  exact⟨q :: qs,by rw[List.map_cons,←e]⟩
theorem Qb (os:List (Option Rat)):(∃qs:List Rat,os=qs.map some)∨∃(qs:List Rat) (os':List (Option Rat)),os=qs.map some++none :: os':=by
 induction os with
 | nil=>exact .inl ⟨[],rfl⟩
 | cons o os ih =>
  cases o with
  | none=>exact .inr ⟨[],os,rfl⟩
  | some q =>
   rcases ih with ⟨qs,rfl⟩|⟨qs,os',rfl⟩
   · exact .inl ⟨q :: qs,rfl⟩
   · exact .inr ⟨q :: qs,os',rfl⟩
theorem Qw {r:Rat} (hf:Rq.Fq r) (h0:0<=r):Un (uo r):=by
 unfold uo
 split
 · exact⟨⟨xu,xu⟩,by decide,Rat.le_refl⟩
 · exact⟨hf,h0,Rat.not_lt.1 ‹_›⟩
theorem wF {qs:List Rat} (h:∀q∈qs,Un q):UnO (Tf.sO qs):=fun b hb=>by
 obtain⟨h2,h3,r,h4,rfl⟩:=Tf.yU hb;have hne:qs≠[]:=fun e=>by rw[e]at h2;simp at h2
 have hm:=h _ (Tf.rY hne).1;have hf:OA (comb (List.replicate qs.length (Tf.iT qs))):=EP fun q hq=>by rw[(List.mem_replicate.1 hq).2];exact hm.1
 refine Qw (hf r h4) ?_
 rcases Tf.vN (Tf.iT qs) qs.length with h5|h5
 · rw[h5]at h4;cases h4
 · rw[h5]at h4;cases h4
   exact Rat.mul_nonneg hm.2.1 (by exact_mod_cast Nat.zero_le _)
structure fM where
 s:Tf.Su
 A:Option Addr
 cap:Nat
def iY (m:fM):List Value:=[.int .i64 m.s.kind,.int .i64 m.s.n,.int .i64 m.s.c,.int .i64 m.s.e,.int .i64 m.s.bT,.int .i64 m.s.count,.slice m.A m.s.times.length m.cap,.int .i64 m.s.width,.int .i64 m.s.things,.int .i64 m.s.marked]
theorem yJ (m:fM):(iY m).length=10:=rfl
structure nI (w:World) (B:Nat) (m:fM):Prop where
 at_:At 1 aO w B m.A m.s.times
 cap:m.s.times.length<=m.cap
 len:m.s.times.length<=9223372036854775807
theorem nI.below {w w':World} {B:Nat} {m:fM} (h:nI w B m) (hb:Below B w w'):nI w' B m:=⟨h.at_.below hb,h.cap,h.len⟩
theorem nI.more {w:World} {B B':Nat} {m:fM} (h:nI w B m) (hB:B<=B'):nI w B' m:=⟨h.at_.more hB,h.cap,h.len⟩
theorem nI.call {w w':World} {m:fM} (h:nI w w.heap.size m) (hb:Below w.heap.size w w'):nI w' w'.heap.size m:=(h.below hb).more hb.size
def aX (h:Tf.Ho):List Value:=[.int .i64 h.n,.int .i64 h.f,.string ⟨h.b.1.toArray⟩,.string ⟨h.b.2.toArray⟩,.int .i64 h.v,.int .i64 h.d]
theorem h_ (h:Tf.Ho):(aX h).length=6:=rfl
def Oy (h:Tf.Ho):Prop:=h.b.1.length<=9223372036854775807/\h.b.2.length<=9223372036854775807
end Go.Proofs.YtelljijajgiabaaGreatDoor
