import Derived.Test.YtelljijajgiabaaGreatDoorQ17
set_option linter.unusedVariables false
set_option linter.unusedSimpArgs false
set_option maxRecDepth 100000
set_option maxHeartbeats 8000000
namespace Go.Proofs.YtelljijajgiabaaGreatDoor
open Go.RowKit Go.Shelf
end Go.Proofs.YtelljijajgiabaaGreatDoor
namespace Tb
theorem Bw.ex {l:List Int} {w:Int} (hs:So l) (hw:1<=w):∃b a,Bw l w l.length b a:=by
 have h:∀k,k<=l.length->∃b a,Bw l w k b a:=fun k=>by
  induction k with
  | zero=>exact fun _=>⟨0,0,Bw.start l w⟩
  | succ k ih =>
   intro hk;obtain ⟨b,a,hB⟩:=ih (by omega);obtain ⟨n1,n2⟩:=hB.next hs hw (show k<l.length by omega);by_cases hb:b<(cw l l[k] w:Int)
   · exact⟨_,_,n1 hb⟩
   · exact⟨_,_,n2 hb⟩
 exact h l.length (Nat.le_refl _)
end Tb
namespace Go.Proofs.YtelljijajgiabaaGreatDoor
open Go.RowKit Go.Shelf
namespace Tf
theorem comb_less {m z:Rat} {n:Nat} (hm:0<=m) (h:comb (List.replicate (n+1) m)=some z):∃x,comb (List.replicate n m)=some x/\x<=z:=by
 rw[List.replicate_succ',comb_snoc]at h;obtain ⟨x,y,h1,h2,-,h3⟩:=opO_some h;cases h2
 exact⟨x,h1,by grind⟩
theorem lq1_mono {a b:Rat} (h:a<=b):lq1 a<=lq1 b:=by
 unfold lq1
 split <;> split <;> grind
theorem more {m z:Rat} {n:Nat} {v:Rat} (hm:0<=m) (h:comb (List.replicate (n+1) m)=some z) (hv:lq1 z<=v):∃x,comb (List.replicate n m)=some x/\lq1 x<=v:=by
 obtain⟨x,h1,h2⟩:=comb_less hm h;exact ⟨x,h1,Rat.le_trans (lq1_mono h2) hv⟩
end Tf
namespace Tf
def minQ:List Rat->Rat
 | []=>0
 | q :: l=>l.foldl (fun m x=>if x<m then x else m) q
theorem minQ_snoc {l:List Rat} (h:l≠[]) (x:Rat):minQ (l++[x])=if x<minQ l then x else minQ l:=by
 cases l with
 | nil=>exact absurd rfl h
 | cons q l =>
  show (l++[x]).foldl _ q=_
  rw[List.foldl_append,List.foldl_cons,List.foldl_nil];rfl
theorem minQ_go:∀(l:List Rat) (q:Rat),(l.foldl (fun m x=>if x<m then x else m) q=q∨l.foldl (fun m x=>if x<m then x else m) q∈l)/\l.foldl (fun m x=>if x<m then x else m) q<=q/\∀y∈l,l.foldl (fun m x=>if x<m then x else m) q<=y
 | [],q=>⟨.inl rfl,Rat.le_refl,fun y hy=>absurd hy List.not_mem_nil⟩
 | x :: l,q=>by
  obtain⟨h1,h2,h3⟩:=minQ_go l (if x<q then x else q);rw [List.foldl_cons];have hx:(if x<q then x else q)<=x/\(if x<q then x else q)<=q:=by split <;> grind
  refine⟨?_,Rat.le_trans h2 hx.2,fun y hy=>?_⟩
  · rcases h1 with h1|h1
    · rw[h1]
      split
      · exact .inr (List.mem_cons_self ..)
      · exact .inl rfl
    · exact .inr (List.mem_cons_of_mem _ h1)
  · rcases List.mem_cons.1 hy with e|hy
    · rw[e];exact Rat.le_trans h2 hx.1
    · exact h3 y hy
theorem minQ_in {l:List Rat} (h:l≠[]):minQ l∈l/\∀y∈l,minQ l<=y:=by
 cases l with
 | nil=>exact absurd rfl h
 | cons q l =>
  obtain⟨h1,h2,h3⟩:=minQ_go l q;refine ⟨?_,fun y hy=>?_⟩
  · rcases h1 with h1|h1
    · show l.foldl _ q∈_;rw[h1];exact List.mem_cons_self ..
    · exact List.mem_cons_of_mem _ h1
  · rcases List.mem_cons.1 hy with e|hy
    · rw[e];exact h2
    · exact h3 y hy
noncomputable def tog (l:List Rat):Option Rat:=if 1<=l.length/\l.length<=10 then (comb (List.replicate l.length (minQ l))).map lq1 else none
end Tf
namespace Tf
structure Made (P:Pr->Prop) (r:Ru) (l:List Ho):Prop where
 va:Va P r l
 len:l.length<=8
 f0:∀h∈l,0<=h.f/\h.f<=384
 nn:∀h∈l,5<=h.n/\h.n<=7
 d0:∀h∈l,0<=h.d/\h.d<=406
 vv:∀h∈l,h.v=0∨h.v=1∨h.v=2
 sp:∀h∈l,Sp r h
theorem GenH.made {P:Pr->Prop} {r:Ru} {k:Nat} {s:List Ho × Int} (hr:RuOk r) (hk:k<=8) (h:GenH P r k s):Made P r s.1:=by
 have hl:=h.l2;have hlo:=hr.l1;refine ⟨h.va,by rw[h.len];exact hk,fun g hg=>?_,h.nn,fun g hg=>?_,fun g hg=>?_,h.va.sp (by omega)⟩
 · have a:=(h.va.fm g hg).f0;have b:=h.le g hg;omega
 · have a:=(h.va.fm g hg).f0;have b:=h.le g hg;have c:=h.dd g hg
   rcases (h.va.fm g hg).v with ⟨h1,h2⟩|⟨h1,h2,h3⟩ <;> omega
 · rcases (h.va.fm g hg).v with ⟨h1,h2⟩|⟨h1,h2,h3⟩ <;> omega
theorem Made.moved {P:Pr->Prop} {r:Ru} {l:List Ho} {s:Int} (h:Made P r l) (h0:0<=s) (h1:s<100000):Va P r (l.map (later s)) :=
 h.va.later h0 (fun g hg=>by have:=(h.f0 g hg).2;omega) fun g hg=>by have:=(h.d0 g hg).2;omega
theorem level_in {c e:Int} (h0:0<=c) (h1:c<=e) (h2:1<=e):0<=Rat.divInt c e/\Rat.divInt c e<=1:=by
 have h3:(1:Rat)=Rat.divInt e e:=(Rat.divInt_self' (by omega)).symm;have h4:(0:Rat)=Rat.divInt 0 e:=by simp
 exact⟨by rw[h4,Tb.rat_le (by omega)];exact h0,by rw[h3,Tb.rat_le (by omega)];exact h1⟩
end Tf
def VaR (r:Tf.Ru) (l:List Tf.Ho):Prop:=Tf.RuOk r/\Tf.Va (InB r.c r.e) r l
noncomputable def vaB (r:Tf.Ru) (l:List Tf.Ho):Bool:=@decide (VaR r l) (Classical.propDecidable _)
theorem vaB_t {r:Tf.Ru} {l:List Tf.Ho} (h:VaR r l):vaB r l=true:=@decide_eq_true _ (Classical.propDecidable _) h
theorem vaB_f {r:Tf.Ru} {l:List Tf.Ho} (h:¬VaR r l):vaB r l=false:=@decide_eq_false _ (Classical.propDecidable _) h
theorem vaB_iff {r:Tf.Ru} {l:List Tf.Ho}:vaB r l=true↔VaR r l:=by
 constructor
 · intro h1;by_cases h:VaR r l
   · exact h
   · rw[vaB_f h]at h1;cases h1
 · exact vaB_t
theorem vaB_rules {r:Tf.Ru} {l:List Tf.Ho} (h:ruB r.c r.e r.lo r.re r.pay=false):vaB r l=false :=
 vaB_f fun hv=>by rw[ruB_iff.2 hv.1]at h;cases h
noncomputable def heB (r:Tf.Ru) (l:List Tf.Ho) (n t:Int):Bool:=vaB r l&&Tf.held r l n t
theorem heB_t {r:Tf.Ru} {l:List Tf.Ho} (h:VaR r l) (n t:Int):heB r l n t=Tf.held r l n t:=by unfold heB;rw[vaB_t h];rfl
theorem heB_f {r:Tf.Ru} {l:List Tf.Ho} (h:¬VaR r l) (n t:Int):heB r l n t=false:=by unfold heB;rw[vaB_f h];rfl
namespace Tf
structure Vd (r:Ru) (f a:Int) (b:Pr):Prop where
 f0:fin r ⟨5,f,b,0,0⟩=f+r.lo
 f1:fin r ⟨5,f,b,1,f+a⟩=f+r.lo
 o0:owed r ⟨5,f,b,0,0⟩=r.pay*r.lo
 late:f+r.lo<=f+a->fin r ⟨5,f,b,2,f+a⟩=f+r.lo/\owed r ⟨5,f,b,1,f+a⟩=r.pay*r.lo/\owed r ⟨5,f,b,2,f+a⟩=r.pay*r.lo
 early:f+a<f+r.lo->fin r ⟨5,f,b,2,f+a⟩=f+a/\owed r ⟨5,f,b,1,f+a⟩=0/\owed r ⟨5,f,b,2,f+a⟩=r.pay*(f+a-f)
end Tf
namespace Tf
structure Su where
 kind:Int
 n:Int
 c:Int
 e:Int
 trials:Int
 count:Int
 times:List Int
 width:Int
 things:Int
 marked:Int
structure X6 where
 a:Int
 b:Int
 c:Int
 d:Int
 e:Int
 f:Int
structure GoodS (s:Su):Prop where
 k1:1<=s.kind
 k3:s.kind<=3
 e1:1<=s.e
 e2:s.e<=1000
 c0:0<=s.c
 ce:s.c<=s.e
 t0:0<=s.trials
 t8:s.trials<=8
 n0:0<=s.count
 n1:s.count<=s.trials+1
 so:Tb.So s.times
 len:s.times.length<=12
 tm:∀t∈s.times,0<=t/\t<=59940
 w:s.kind=1->1<=s.width/\s.width<=12
 w0:0<=s.width/\s.width<=12
 th:s.kind=3->s.trials<=s.things/\s.things<=16
 mr:s.kind=3->0<=s.marked/\s.marked<=s.things
 th0:0<=s.things/\s.things<=16
 mr0:0<=s.marked/\s.marked<=16
end Tf
inductive OB:Option Rat->List UInt8->List UInt8->Int->Prop
 | good {q:Rat} {ra rb:List UInt8} (hu:Un q) (lq:LQ q ra rb):OB (some q) ra rb 0
 | bad:OB none [] [] 360
def UnO (o:Option Rat):Prop:=∀q,o=some q->Un q
theorem OB.ex {o:Option Rat} (h:UnO o):∃(ra rb:List UInt8) (code:Int),OB o ra rb code:=by
 cases o with
 | none=>exact⟨_,_,_,.bad⟩
 | some q =>
  obtain⟨a,b,lq⟩:=LQ.ex q;exact ⟨a,b,0,.good (h q rfl) lq⟩
noncomputable def togO (os:List (Option Rat)):Option Rat:=if os.all Option.isSome then Tf.tog (os.filterMap id) else none
theorem fm_some (qs:List Rat):(qs.map some).filterMap id=qs:=by
 induction qs with
 | nil=>rfl
 | cons q qs ih=>simp
theorem togO_some (qs:List Rat):togO (qs.map some)=Tf.tog qs:=by
 unfold togO
 rw[if_pos (by simp),fm_some]
theorem togO_none {os:List (Option Rat)} (h:none∈os):togO os=none:=by
 unfold togO
 rw[if_neg];simp only[List.all_eq_true];exact fun hh=>absurd (hh _ h) (by simp)
theorem os_some:∀ {os:List (Option Rat)},none ∉ os->∃qs:List Rat,os=qs.map some
 | [],_=>⟨[],rfl⟩
 | none :: os,h=>absurd (List.mem_cons_self ..) h
 | some q :: os,h=>by
  obtain⟨qs,e⟩:=os_some (os:=os) fun hh=>h (List.mem_cons_of_mem _ hh)
  exact⟨q :: qs,by rw[List.map_cons,←e]⟩
theorem os_cases (os:List (Option Rat)):(∃qs:List Rat,os=qs.map some)∨∃(qs:List Rat) (os':List (Option Rat)),os=qs.map some++none :: os':=by
 induction os with
 | nil=>exact .inl ⟨[],rfl⟩
 | cons o os ih =>
  cases o with
  | none=>exact .inr ⟨[],os,rfl⟩
  | some q =>
   rcases ih with ⟨qs,rfl⟩|⟨qs,os',rfl⟩
   · exact .inl ⟨q :: qs,rfl⟩
   · exact .inr ⟨q :: qs,os',rfl⟩
structure SuM where
 s:Tf.Su
 A:Option Addr
 cap:Nat
def suC (m:SuM):List Value:=[.int .i64 m.s.kind,.int .i64 m.s.n,.int .i64 m.s.c,.int .i64 m.s.e,.int .i64 m.s.trials,.int .i64 m.s.count,.slice m.A m.s.times.length m.cap,.int .i64 m.s.width,.int .i64 m.s.things,.int .i64 m.s.marked]
theorem suC_len (m:SuM):(suC m).length=10:=rfl
structure SuAt (w:World) (B:Nat) (m:SuM):Prop where
 at_:At 1 intC w B m.A m.s.times
 cap:m.s.times.length<=m.cap
 len:m.s.times.length<=9223372036854775807
theorem SuAt.below {w w':World} {B:Nat} {m:SuM} (h:SuAt w B m) (hb:Below B w w'):SuAt w' B m:=⟨h.at_.below hb,h.cap,h.len⟩
theorem SuAt.more {w:World} {B B':Nat} {m:SuM} (h:SuAt w B m) (hB:B<=B'):SuAt w B' m:=⟨h.at_.more hB,h.cap,h.len⟩
theorem SuAt.call {w w':World} {m:SuM} (h:SuAt w w.heap.size m) (hb:Below w.heap.size w w'):SuAt w' w'.heap.size m:=(h.below hb).more hb.size
def hoC (h:Tf.Ho):List Value:=[.int .i64 h.n,.int .i64 h.f,.string ⟨h.b.1.toArray⟩,.string ⟨h.b.2.toArray⟩,.int .i64 h.v,.int .i64 h.d]
theorem hoC_len (h:Tf.Ho):(hoC h).length=6:=rfl
def HoL (h:Tf.Ho):Prop:=h.b.1.length<=9223372036854775807/\h.b.2.length<=9223372036854775807
end Go.Proofs.YtelljijajgiabaaGreatDoor
