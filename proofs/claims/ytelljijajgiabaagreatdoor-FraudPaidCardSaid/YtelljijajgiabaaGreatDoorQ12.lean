import Derived.Test.YtelljijajgiabaaGreatDoorQ11
import Init.Data.Int.Pow
set_option linter.unusedVariables false
set_option linter.unusedSimpArgs false
set_option maxRecDepth 100000
set_option maxHeartbeats 8000000
namespace Go.Proofs.YtelljijajgiabaaGreatDoor
open Go.RowKit Go.Shelf
theorem Combine_good (qs:List Rat) (A:Option Addr) (cap:Nat) (r:Rat) (ra rb:List UInt8) (w:World) (hA:At 2 ratC w w.heap.size A (qs.map txQ)) (hn:qs.length<=cap) (hl:qs.length<=20) (hq:∀q∈qs,Un q) (hc:Kp (comb qs=some r)) (lr:LQ (lq1 r) ra rb) (hE:Env w) :
 Calls Tryz.prog 60 #[.slice A qs.length cap] w fun e w'=>e=.returned (.tuple #[.agg #[.string ⟨ra.toArray⟩,.string ⟨rb.toArray⟩],.int .i64 0])/\Below w.heap.size w w':=by
 have hb0:=bNewW w (.cells #[.string ⟨#[]⟩,.string ⟨#[]⟩] 51);have BR:=Bx.mk w 51 #[.string ⟨#[]⟩,.string ⟨#[]⟩];obtain ⟨za,zb,lz⟩:=LQ.ex (Wq 0);have hI:I64 0:=⟨by decide,by decide⟩
 have hcon:=con_q (qs.map txQ) A cap (w.alloc (.cells #[.string ⟨#[]⟩,.string ⟨#[]⟩] 51)) ((hA.below hb0).more hb0.size) (by rw[List.length_map];exact hn) (by rw[List.length_map];omega) (fun p hp W hW=>by
  obtain⟨q,hqm,rfl⟩:=List.mem_map.1 hp
  exact bad_q q _ _ W ⟨⟨rfl,rfl⟩⟩ (hq q hqm).1 ((hE.below hb0).below hW))
 rw[List.length_map]at hcon
 have hany:(qs.map txQ).any (fun p=> !unB p)=false:=by
  rw[List.any_eq_false];intro p hp;obtain ⟨q,hqm,rfl⟩:=List.mem_map.1 hp;rw [unB_t ⟨q,hq q hqm,rfl⟩];decide
 rw[hany]at hcon;have t0:decide ((qs.length:Int) > 20)=false:=by simp;omega
 obtain⟨oa,ob,lo⟩:=LQ.ex r;have hrf:Rq.Fq r:=comb_fq (fun q h=>(hq q h).1) r hc.out;have vO:VO (comb qs)=.agg #[.string ⟨oa.toArray⟩,.string ⟨ob.toArray⟩]:=by rw[hc.out,←lo.eq];rfl
 have eO':eO (comb qs)=0:=by rw[hc.out];rfl
 have hEn:∀W,Below w.heap.size w W->Env W:=fun W hW=>hE.below hW
 clear hany
 go_enter Tryz.func60,Tryz.ntmps60
 go_wp2_with (go_at_call 87;refine hcon.mono ?_;rintro _ w1 ⟨rfl,hb1⟩;clear hcon)
 replace hb0:=bCall hb0 hb1;replace BR:=BR.call hb1;have hbE:=bNew hb0 (.cells #[.int .i64 0] 54);have BE:=Bx.mk w1 54 #[.int .i64 0];replace BR:=BR.new (.cells #[.int .i64 0] 54);have lR:=BR.lt;have hw:=whole_s (w1.alloc (.cells #[.int .i64 0] 54)) hI lz (hEn _ hbE);have hgeL:=hb0.size;have hRlt:w.heap.size<w1.heap.size:=by have:=hb1.size;rw[alloc_size]at this;omega
 refine hw.mono ?_;rintro _ w2 ⟨rfl,hb2⟩;clear hw;replace hbE:=bCall hbE hb2;replace BE:=BE.call hb2;replace BR:=BR.call hb2;have hF:=fold_any qs A cap w1.heap.size za zb w2 w.heap.size lz (hA.below hbE) hn hl (fun q h=>(hq q h).1) BE hgeL (fun W hW=>hEn W (hbE.trans hW));rw [vO,eO']at hF;go_wp2_with fail;refine hF.mono ?_;rintro _ w3 ⟨rfl,BE3,hO⟩;clear hF;have BR3:=hO.bx BR (by omega);have hb3:=hbE.trans (hO.to hgeL (Nat.le_trans hgeL (by have:=BE.lt;omega)));have hb4:=bNew hb3 (.cells #[.string ⟨oa.toArray⟩,.string ⟨ob.toArray⟩] 51);have BE4:=BE3.new (.cells #[.string ⟨oa.toArray⟩,.string ⟨ob.toArray⟩] 51);have BR4:=BR3.new (.cells #[.string ⟨oa.toArray⟩,.string ⟨ob.toArray⟩] 51);have B6:=Bx.mk w3 51 #[.string ⟨oa.toArray⟩,.string ⟨ob.toArray⟩];have e0:=BE4.cell 0 rfl;have s0:=B6.cell 0 rfl;have s1:=B6.cell 1 rfl;have hL:=least_s (w3.alloc (.cells #[.string ⟨oa.toArray⟩,.string ⟨ob.toArray⟩] 51)) hrf lo lr (hEn _ hb4);clear hE hEn hc lr lo lz hrf hq hA vO eO' hO BE BE3 BR BR3 hb0 hbE hb1 hb2 hb3;go_wp2_with fail;refine hL.mono ?_;rintro _ w5 ⟨rfl,hb5⟩;clear hL;replace BR4:=BR4.call hb5;have f0:=BR4.frozen 0;have f1:=BR4.frozen 1;have d0:=BR4.cell 0 rfl;have d1:=BR4.cell 1 rfl;have B9:=(BR4.set 0 (.string ⟨ra.toArray⟩)).set 1 (.string ⟨rb.toArray⟩);have hb9:=bSet (bSet (bCall hb4 hb5) (p:=⟨w.heap.size,0,none⟩) (Nat.le_refl _) (.string ⟨ra.toArray⟩)) (p:=⟨w.heap.size,1,none⟩) (Nat.le_refl _) (.string ⟨rb.toArray⟩);clear BR4 BE4 B6 e0 s0 s1 hb4 hb5;go_wp2;exact bodyPost_ret (results_Q rfl _ _ rfl rfl B9) rfl ⟨rfl,hb9⟩
theorem lpick_pos {c n:Int} (hc:0<=c):Tp.pick c n=c % n:=by unfold Tp.pick;rw[if_neg (by omega)]
theorem lpick_neg {c n:Int} (hc:c<0):Tp.pick c n=(-(c+1)) % n:=by unfold Tp.pick;rw[if_pos hc]
theorem rpick_any (c n:Int) (h0:0<n) (h:I64 c) (w:World) :
 Calls Tryz.prog 73 #[.int .i64 c,.int .i64 n] w fun e w'=>e=.returned (.int .i64 (Tp.pick c n))/\w=w':=by
 obtain⟨h1,h2⟩:=h;by_cases hc:c<0
 · have hm:0<= -(c+1):=by omega
   go_enter Tryz.func73,Tryz.ntmps73
   go_wp2;go_ret;refine ⟨ret_int ?_,rfl⟩;rw [lpick_neg hc,←Int.neg_tmod];exact Int.tmod_eq_emod_of_nonneg hm
 · have hm:0<=c:=by omega
   go_enter Tryz.func73,Tryz.ntmps73
   go_wp2;go_ret;exact ⟨ret_int (lpick_pos hm).symm,rfl⟩
structure SE (w0 w:World):Prop where
 bl:Below w0.heap.size w0 w
 env:Env w
theorem SE.call {w0 w w':World} (h:SE w0 w) (hb:Below w.heap.size w w'):SE w0 w':=⟨bCall h.bl hb,h.env.below hb⟩
theorem SE.at (w:World) {h0 w1:World} (hE:Env h0) (hb:Below h0.heap.size h0 w1):SE h0 w1:=⟨hb,hE.below hb⟩
theorem LQ.same {q:Rat} {a b c d:List UInt8} (h:LQ q a b) (k:LQ q c d):a=c/\b=d:=⟨h.out.1.symm.trans k.out.1,h.out.2.symm.trans k.out.2⟩
namespace Tf
def cnt (p:Int->Bool) (a:Int):Nat->Nat
 | 0=>0
 | k+1=>cnt p a k+if p (a+k) then 1 else 0
theorem cnt_le (p:Int->Bool) (a:Int) (k:Nat):cnt p a k<=k:=by
 induction k with
 | zero=>exact Nat.le_refl _
 | succ k ih=>simp only[cnt];split <;> omega
theorem cnt_add (p:Int->Bool) (a:Int) (j k:Nat):cnt p a (j+k)=cnt p a j+cnt p (a+j) k:=by
 induction k with
 | zero=>rfl
 | succ k ih =>
  rw[←Nat.add_assoc];simp only[cnt];rw[ih];have:a+((j+k:Nat):Int)=a+j+k:=by omega
  rw[this];omega
theorem cnt_none {p:Int->Bool} {a:Int} {k:Nat} (h:∀t,a<=t->t<a+k->p t=false):cnt p a k=0:=by
 induction k with
 | zero=>rfl
 | succ k ih =>
  simp only[cnt];rw [ih (fun t h1 h2=>h t h1 (by omega)),h (a+k) (by omega) (by omega)];simp
theorem cnt_all {p:Int->Bool} {a:Int} {k:Nat} (h:∀t,a<=t->t<a+k->p t=true):cnt p a k=k:=by
 induction k with
 | zero=>rfl
 | succ k ih =>
  simp only[cnt];rw [ih (fun t h1 h2=>h t h1 (by omega)),h (a+k) (by omega) (by omega)];simp
theorem cnt_congr {p q:Int->Bool} {a:Int} {k:Nat} (h:∀t,a<=t->t<a+k->p t=q t):cnt p a k=cnt q a k:=by
 induction k with
 | zero=>rfl
 | succ k ih =>
  simp only[cnt];rw [ih (fun t h1 h2=>h t h1 (by omega)),h (a+k) (by omega) (by omega)]
theorem cnt_or {p q:Int->Bool} {a:Int} {k:Nat} (h:∀t,p t=true->q t=false):cnt (fun t=>p t||q t) a k=cnt p a k+cnt q a k:=by
 induction k with
 | zero=>rfl
 | succ k ih =>
  simp only[cnt];rw [ih];by_cases hp:p (a+k)=true
  · have hq:=h _ hp;simp only[hp,hq,Bool.or_false,if_true,if_false,Bool.false_eq_true];omega
  · have hp':p (a+k)=false:=by simpa using hp
    simp only[hp',Bool.false_or,Bool.false_eq_true,if_false];omega
theorem cnt_span {f e a:Int} {k:Nat} (h1:a<=f) (h2:f<=e) (h3:e<=a+k):(cnt (fun t=>decide (f<=t)&&decide (t<e)) a k:Int)=e-f:=by
 obtain⟨x,hx⟩:=Int.eq_ofNat_of_zero_le (show 0<=f-a by omega);obtain ⟨y,hy⟩:=Int.eq_ofNat_of_zero_le (show 0<=e-f by omega);obtain ⟨z,hz⟩:=Int.eq_ofNat_of_zero_le (show 0<=a+k-e by omega);have hk:k=x+y+z:=by omega
 rw[hk,cnt_add,cnt_add,cnt_none (k:=x),cnt_all (k:=y),cnt_none (k:=z)]
 · omega
 · intro t h4 h5;simp only[Bool.and_eq_false_iff,decide_eq_false_iff_not];right;omega
 · intro t h4 h5;simp only[Bool.and_eq_true,decide_eq_true_eq];omega
 · intro t h4 h5;simp only[Bool.and_eq_false_iff,decide_eq_false_iff_not];left;omega
theorem first (p:Int->Bool) (a:Int) (k:Nat):(∀j:Nat,j<k->p (a+j)=false)∨∃j:Nat,j<k/\p (a+j)=true/\∀i:Nat,i<j->p (a+i)=false:=by
 induction k with
 | zero=>exact .inl fun j h=>absurd h (by omega)
 | succ k ih =>
  rcases ih with h|⟨j,h1,h2,h3⟩
  · cases hp:p (a+k) with
    | true=>exact .inr ⟨k,by omega,hp,h⟩
    | false =>
     refine .inl fun j hj=>?_
     rcases Nat.lt_or_eq_of_le (Nat.le_of_lt_succ hj) with h4|h4
     · exact h j h4
     · rw[h4];exact hp
  · exact .inr ⟨j,by omega,h2,h3⟩
abbrev Pr:=List UInt8 × List UInt8
structure Ru where
 c:Int
 e:Int
 lo:Int
 re:Int
 pay:Int
structure Ho where
 n:Int
 f:Int
 b:Pr
 v:Int
 d:Int
def fin (r:Ru) (h:Ho):Int:=if h.v=2 then min (h.f+r.lo) h.d else h.f+r.lo
def Nx (r:Ru) (a b:Ho):Prop:=a.f<=b.f/\(a.n=b.n->fin r a+r.re<=b.f)
def Sp (r:Ru) (h:Ho):Prop:=h.f<=fin r h/\fin r h<=h.f+r.lo
def inH (r:Ru) (h:Ho) (t:Int):Bool:=decide (h.f<=t)&&decide (t<fin r h)
def held (r:Ru) (l:List Ho) (n t:Int):Bool:=l.any fun h=>h.n==n&&inH r h t
theorem sp_of {r:Ru} {h:Ho} (hl:0<=r.lo) (hd:h.v=2->h.f<=h.d):Sp r h:=by
 unfold Sp fin
 split
 · have:=hd ‹_›;omega
 · omega
theorem held_iff {r:Ru} {l:List Ho} {n t:Int}:held r l n t=true↔∃h∈l,h.n=n/\h.f<=t/\t<fin r h:=by
 simp only[held,inH,List.any_eq_true,Bool.and_eq_true,beq_iff_eq,decide_eq_true_eq]
theorem pw_any {α:Type} {R:α->α->Prop} {l:List α} (hp:l.Pairwise R) {a b:α} (ha:a∈l) (hb:b∈l):a=b∨R a b∨R b a:=by
 induction l with
 | nil=>cases ha
 | cons x l ih =>
  obtain⟨h1,h2⟩:=List.pairwise_cons.1 hp
  rcases List.mem_cons.1 ha with ea|ha
  · rcases List.mem_cons.1 hb with eb|hb
    · exact .inl (ea.trans eb.symm)
    · exact .inr (.inl (ea ▸ h1 _ hb))
  · rcases List.mem_cons.1 hb with eb|hb
    · exact .inr (.inr (eb ▸ h1 _ ha))
    · exact ih h2 ha hb
theorem rest {r:Ru} {l:List Ho} {n:Int} (hre:0<=r.re) (hp:l.Pairwise (Nx r)) (hs:∀h∈l,Sp r h) {h:Ho} (hh:h∈l) (hn:h.n=n) {t:Int} (h1:fin r h<=t) (h2:t<fin r h+r.re):held r l n t=false:=by
 cases hb:held r l n t with
 | false=>rfl
 | true =>
  obtain⟨g,hg,hgn,hg1,hg2⟩:=held_iff.1 hb;have:=(hs h hh).1
  rcases pw_any hp hh hg with rfl|h3|h3
  · omega
  · have:=h3.2 (by omega);omega
  · have:=h3.2 (by omega);omega
theorem bounded {r:Ru} {l:List Ho} (n a:Int) (hlo:0<=r.lo) (hre:0<=r.re) (hp:l.Pairwise (Nx r)) (hs:∀h∈l,Sp r h):(cnt (held r l n) a (r.lo+r.re).toNat:Int)<=r.lo:=by
 obtain⟨L,hL⟩:=Int.eq_ofNat_of_zero_le hlo;obtain ⟨R,hR⟩:=Int.eq_ofNat_of_zero_le hre;have hk:(r.lo+r.re).toNat=L+R:=by omega
 rw[hk,hL]
 rcases first (held r l n) a (L+R) with h0|⟨j,hj,h1,h2⟩
 · rw[cnt_none]
   · omega
   · intro t h3 h4;obtain ⟨x,hx⟩:=Int.eq_ofNat_of_zero_le (show 0<=t-a by omega);have:=h0 x (by omega);rw [show a+(x:Int)=t by omega]at this;exact this
 · obtain⟨h,hh,hn,h3,h4⟩:=held_iff.1 h1;have hsp:=hs h hh;obtain ⟨s1,s2⟩:=hsp;have hrest:∀t,fin r h<=t->t<fin r h+r.re->held r l n t=false:=fun t=>rest hre hp hs hh hn
   by_cases hc:fin r h<=a+L
   · obtain⟨x,hx⟩:=Int.eq_ofNat_of_zero_le (show 0<=fin r h-a by omega);obtain ⟨y,hy⟩:=Int.eq_ofNat_of_zero_le (show 0<=a+L-fin r h by omega);have hW:L+R=x+R+y:=by omega
     rw[hW,cnt_add,cnt_add,cnt_none (a:=a+x) (k:=R)]
     · have e1:=cnt_le (held r l n) a x;have e2:=cnt_le (held r l n) (a+((x+R:Nat):Int)) y;omega
     · intro t h5 h6;exact hrest t (by omega) (by omega)
   · -- the hold begins in the window
     have hfa:a<h.f:=by omega
     have hft:h.f=a+j:=by
      rcases Int.lt_or_le h.f (a+j) with h5|h5
      · obtain⟨x,hx⟩:=Int.eq_ofNat_of_zero_le (show 0<=h.f-a by omega);have:=h2 x (by omega);rw [show a+(x:Int)=h.f by omega]at this;have h6:held r l n h.f=true:=held_iff.2 ⟨h,hh,hn,Int.le_refl _,by omega⟩;rw [this]at h6;cases h6
      · omega
     have hz:cnt (held r l n) a j=0:=cnt_none fun t h5 h6=>by
      obtain⟨x,hx⟩:=Int.eq_ofNat_of_zero_le (show 0<=t-a by omega);have:=h2 x (by omega);rw [show a+(x:Int)=t by omega]at this;exact this
     by_cases hd:fin r h<=a+L+R
     · obtain⟨x,hx⟩:=Int.eq_ofNat_of_zero_le (show 0<=fin r h-(a+j) by omega);obtain ⟨y,hy⟩:=Int.eq_ofNat_of_zero_le (show 0<=a+L+R-fin r h by omega);rw [show L+R=j+x+y by omega,cnt_add,cnt_add,hz,cnt_none (k:=y)]
       · have:=cnt_le (held r l n) (a+j) x;omega
       · intro t h5 h6;exact hrest t (by omega) (by omega)
     · obtain⟨x,hx⟩:=Int.eq_ofNat_of_zero_le (show 0<=a+L+R-(a+j) by omega);rw [show L+R=j+x by omega,cnt_add,hz];have:=cnt_le (held r l n) (a+j) x;omega
def lens (r:Ru) (n:Int) (l:List Ho):Int:=l.foldl (fun s h=>if h.n=n then s+(fin r h-h.f) else s) 0
theorem lens_go (r:Ru) (n:Int) (l:List Ho) (s:Int):l.foldl (fun s h=>if h.n=n then s+(fin r h-h.f) else s) s=s+lens r n l:=by
 induction l generalizing s with
 | nil=>simp[lens]
 | cons h l ih =>
  simp only[lens,List.foldl_cons];rw [ih,ih (if h.n=n then 0+(fin r h-h.f) else 0)]
  split <;> omega
theorem lens_cons (r:Ru) (n:Int) (h:Ho) (l:List Ho):lens r n (h :: l)=(if h.n=n then fin r h-h.f else 0)+lens r n l:=by
 conv=>lhs;unfold lens
 rw[List.foldl_cons,lens_go];split <;> omega
theorem lens_held {r:Ru} {l:List Ho} {n:Int} {T:Nat} (hre:0<=r.re) (hp:l.Pairwise (Nx r)) (hs:∀h∈l,Sp r h) (h0:∀h∈l,0<=h.f/\fin r h<=T):(cnt (held r l n) 0 T:Int)=lens r n l:=by
 induction l with
 | nil=>rw[cnt_none (p:=held r [] n) (fun t _ _=>rfl)];rfl
 | cons h l ih =>
  obtain⟨h1,h2⟩:=List.pairwise_cons.1 hp;have ih':=ih h2 (fun g hg=>hs g (List.mem_cons_of_mem _ hg)) (fun g hg=>h0 g (List.mem_cons_of_mem _ hg));obtain ⟨s1,s2⟩:=hs h (List.mem_cons_self ..);obtain ⟨z1,z2⟩:=h0 h (List.mem_cons_self ..);rw [lens_cons,←ih'];by_cases hn:h.n=n
  · rw[if_pos hn];have e2:(cnt (inH r h) 0 T:Int)=fin r h-h.f:=cnt_span z1 s1 (by omega)
    have hdis:∀t,inH r h t=true->held r l n t=false:=fun t ht=>by
     cases hb:held r l n t with
     | false=>rfl
     | true =>
      obtain⟨g,hg,hgn,hg1,hg2⟩:=held_iff.1 hb;simp only[inH,Bool.and_eq_true,decide_eq_true_eq]at ht;have:=(h1 g hg).2 (by omega);omega
    have hc:=cnt_or (a:=0) (k:=T) hdis
    have he:cnt (held r (h :: l) n) 0 T=cnt (fun t=>inH r h t||held r l n t) 0 T:=cnt_congr fun t _ _=>by
     simp[held,hn]
    rw[he,hc];omega
  · rw[if_neg hn]
    have he:cnt (held r (h :: l) n) 0 T=cnt (held r l n) 0 T:=cnt_congr fun t _ _=>by
     have:(h.n==n)=false:=by simpa using hn
     simp[held,this]
    rw[he];omega
def later (s:Int) (h:Ho):Ho:={ h with f:=h.f+s,d:=if h.v=0 then h.d else h.d+s }
theorem fin_later (r:Ru) (s:Int) (h:Ho):fin r (later s h)=fin r h+s:=by
 have e1:(later s h).f=h.f+s:=rfl;have e2:(later s h).v=h.v:=rfl;have e3:(later s h).d=if h.v=0 then h.d else h.d+s:=rfl
 unfold fin
 rw[e1,e2,e3];by_cases h2:h.v=2
 · rw[if_pos h2,if_pos h2,if_neg (by omega)];omega
 · rw[if_neg h2,if_neg h2];omega
theorem held_later (r:Ru) (l:List Ho) (s n t:Int):held r (l.map (later s)) n (t+s)=held r l n t:=by
 simp only[held,List.any_map]
 congr 1;funext h
 simp only[Function.comp,inH,fin_later];have e1:(later s h).f=h.f+s:=rfl;have e2:(later s h).n=h.n:=rfl;rw [e1,e2]
 congr 2 <;> (apply decide_eq_decide.2;omega)
theorem later_pw {r:Ru} {l:List Ho} (s:Int) (hp:l.Pairwise (Nx r)):(l.map (later s)).Pairwise (Nx r):=by
 rw[List.pairwise_map];refine hp.imp fun {a b} h=>⟨?_,?_⟩
 · have:=h.1;simp only[later];omega
 · intro hn;have:=h.2 hn;rw [fin_later];simp only[later];omega
theorem later_first {r:Ru} {l:List Ho} {s n:Int} (h0:∀h∈l,0<=h.f):held r (l.map (later s)) n (s-1)=false:=by
 cases hb:held r (l.map (later s)) n (s-1) with
 | false=>rfl
 | true =>
  obtain⟨g,hg,-,hg1,-⟩:=held_iff.1 hb;obtain ⟨h,hh,rfl⟩:=List.mem_map.1 hg;have:=h0 h hh;simp only[later]at hg1;omega
end Tf
namespace Tf
structure RuOk (r:Ru):Prop where
 e1:1<=r.e
 e2:r.e<=1000
 c0:0<=r.c
 ce:r.c<=r.e
 l1:1<=r.lo
 l2:r.lo<=1000000
 r1:1<=r.re
 r2:r.re<=1000000
 p0:0<=r.pay
 p2:r.pay<=1000
structure Fm (P:Pr->Prop) (h:Ho):Prop where
 n0:0<=h.n
 n2:h.n<=99999999
 f0:0<=h.f
 f2:h.f<=10000000
 b:P h.b
 v:h.v=0/\h.d=0∨(h.v=1∨h.v=2)/\h.f<=h.d/\h.d<=11000000
structure Va (P:Pr->Prop) (r:Ru) (l:List Ho):Prop where
 len:l.length<=20
 fm:∀h∈l,Fm P h
 nx:l.Pairwise (Nx r)
theorem Va.nil (P:Pr->Prop) (r:Ru):Va P r []:=⟨Nat.zero_le _,fun h hh=>absurd hh (List.not_mem_nil),List.Pairwise.nil⟩
theorem Va.sp {P:Pr->Prop} {r:Ru} {l:List Ho} (hr:0<=r.lo) (h:Va P r l):∀g∈l,Sp r g:=fun g hg=>by
 have hf:=(h.fm g hg)
 refine sp_of hr fun h2=>?_
 rcases hf.v with ⟨h3,-⟩|⟨-,h3,-⟩
 · omega
 · exact h3
theorem Va.front {P:Pr->Prop} {r:Ru} {l k:List Ho} (h:Va P r (l++k)):Va P r l :=
 ⟨by have:=h.len;simp at this;omega,fun g hg=>h.fm g (List.mem_append_left _ hg),(List.pairwise_append.1 h.nx).1⟩
theorem Va.snoc {P:Pr->Prop} {r:Ru} {l:List Ho} {h:Ho}:Va P r (l++[h])↔Va P r l/\l.length<20/\Fm P h/\∀g∈l,Nx r g h:=by
 constructor
 · intro hv;refine ⟨hv.front,by have:=hv.len;simp at this;omega,hv.fm h (by simp),fun g hg=>?_⟩;exact (List.pairwise_append.1 hv.nx).2.2 g hg h (by simp)
 · rintro ⟨h1,h2,h3,h4⟩;refine ⟨by simp;omega,fun g hg=>?_,List.pairwise_append.2 ⟨h1.nx,List.pairwise_singleton ..,fun a ha b hb=>?_⟩⟩
   · rcases List.mem_append.1 hg with hg|hg
     · exact h1.fm g hg
     · rw[List.mem_singleton.1 hg];exact h3
   · rw[List.mem_singleton.1 hb];exact h4 a ha
theorem Va.later {P:Pr->Prop} {r:Ru} {l:List Ho} {s:Int} (hs:0<=s) (h:Va P r l) (h1:∀g∈l,g.f+s<=10000000) (h2:∀g∈l,g.d+s<=11000000):Va P r (l.map (later s)) :=
 ⟨by rw[List.length_map];exact h.len,fun g hg=>by
  obtain⟨k,hk,rfl⟩:=List.mem_map.1 hg;have hf:=h.fm k hk;have a1:=h1 k hk;have a2:=h2 k hk;have a3:=hf.f0;refine ⟨hf.n0,hf.n2,by simp only[Tf.later];omega,by simp only[Tf.later];omega,hf.b,?_⟩;simp only[Tf.later]
  rcases hf.v with ⟨h3,h4⟩|⟨h3,h4,h5⟩
  · left;rw[if_pos h3];exact⟨h3,h4⟩
  · right;rw[if_neg (by omega)];exact⟨h3,by omega,by omega⟩,later_pw s h.nx⟩
theorem Va.one {P:Pr->Prop} {r:Ru} {h:Ho} (hf:Fm P h):Va P r [h]:=⟨by simp,fun g hg=>by rw[List.mem_singleton.1 hg];exact hf,List.pairwise_singleton ..⟩
def madeR (c e x2 x3 x4:Int):Ru:=⟨if c=0 then 1 else c,e,1+Tp.pick x2 20,1+Tp.pick x3 20,Tp.pick x4 10⟩
theorem madeR_ok {c e:Int} (x2 x3 x4:Int) (h1:1<=e) (h2:e<=1000) (h3:0<=c) (h4:c<=e):RuOk (madeR c e x2 x3 x4)/\(madeR c e x2 x3 x4).lo<=20/\(madeR c e x2 x3 x4).re<=20/\1<=(madeR c e x2 x3 x4).c/\(madeR c e x2 x3 x4).pay<=9:=by
 have a:=Tp.pick_lt x2 (show (0:Int)<20 by decide);have b:=Tp.pick_lt x3 (show (0:Int)<20 by decide);have d:=Tp.pick_lt x4 (show (0:Int)<10 by decide);have hc:1<=(if c=0 then 1 else c)/\(if c=0 then 1 else c)<=e:=by split <;> omega
 refine⟨⟨h1,h2,?_,hc.2,?_,?_,?_,?_,?_,?_⟩,?_,?_,hc.1,?_⟩ <;> simp only[madeR] <;> first|omega|(have:=hc.1;omega)
def nf (r:Ru) (l:List Ho) (n f:Int):Int:=l.foldl (fun f h=>if h.n=n then max f (fin r h+r.re) else f) f
theorem nf_le (r:Ru) (l:List Ho) (n f:Int):f<=nf r l n f:=by
 induction l generalizing f with
 | nil=>exact Int.le_refl _
 | cons h l ih =>
  simp only[nf,List.foldl_cons];refine Int.le_trans ?_ (ih _)
  split <;> omega
theorem nf_mem {r:Ru} {l:List Ho} {n:Int} (f:Int) {h:Ho} (hh:h∈l) (hn:h.n=n):fin r h+r.re<=nf r l n f:=by
 induction l generalizing f with
 | nil=>cases hh
 | cons g l ih =>
  simp only[nf,List.foldl_cons]
  rcases List.mem_cons.1 hh with e|hh
  · subst e;rw [if_pos hn];exact Int.le_trans (by omega) (nf_le r l n _)
  · exact ih _ hh
theorem nf_ub {r:Ru} {l:List Ho} {n f m:Int} (h0:f<=m) (hl:∀h∈l,fin r h+r.re<=m):nf r l n f<=m:=by
 induction l generalizing f with
 | nil=>exact h0
 | cons g l ih =>
  simp only[nf,List.foldl_cons];refine ih ?_ fun h hh=>hl h (List.mem_cons_of_mem _ hh)
  have:=hl g (List.mem_cons_self ..)
  split <;> omega
theorem nf_snoc (r:Ru) (l:List Ho) (h:Ho) (n f:Int):nf r (l++[h]) n f=if h.n=n then max (nf r l n f) (fin r h+r.re) else nf r l n f:=by
 simp only[nf,List.foldl_append,List.foldl_cons,List.foldl_nil]
structure X4 where
 a:Int
 b:Int
 c:Int
 d:Int
def mkH (B:Int->Pr) (r:Ru) (l:List Ho) (last:Int) (x:X4):Ho :=
 let n:=5+Tp.pick x.a 3
 let f:=nf r l n (last+Tp.pick x.b 8)
 ⟨n,f,B (Tp.pick (x.b.tdiv 8) (r.c+1)),Tp.pick x.c 3,if Tp.pick x.c 3=0 then 0 else f+Tp.pick x.d (r.lo+3)⟩
def stepH (B:Int->Pr) (r:Ru) (s:List Ho × Int) (x:X4):List Ho × Int:=(s.1++[mkH B r s.1 s.2 x],(mkH B r s.1 s.2 x).f)
def genH (B:Int->Pr) (r:Ru) (x:List X4):List Ho × Int:=x.foldl (stepH B r) ([],0)
theorem genH_snoc (B:Int->Pr) (r:Ru) (x:List X4) (y:X4):genH B r (x++[y])=stepH B r (genH B r x) y:=by
 simp only[genH,List.foldl_append,List.foldl_cons,List.foldl_nil]
structure GenH (P:Pr->Prop) (r:Ru) (k:Nat) (s:List Ho × Int):Prop where
 va:Va P r s.1
 len:s.1.length=k
 le:∀h∈s.1,h.f<=s.2
 nn:∀h∈s.1,5<=h.n/\h.n<=7
 dd:∀h∈s.1,h.d<=h.f+22
 l0:0<=s.2
 l2:s.2<=48*k
theorem GenH.step {P:Pr->Prop} {B:Int->Pr} {r:Ru} {k:Nat} {s:List Ho × Int} (hr:RuOk r) (hlo:r.lo<=20) (hre:r.re<=20) (hB:∀p,0<=p->p<=r.c->P (B p)) (hk:k<8) (h:GenH P r k s) (x:X4):GenH P r (k+1) (stepH B r s x):=by
 obtain⟨l,last⟩:=s;have va:=h.va;have hlen:=h.len;have hle:=h.le;have hl0:=h.l0;have hl2:=h.l2;simp only at va hlen hle hl0 hl2;have p1:=Tp.pick_lt x.a (show (0:Int)<3 by decide);have p2:=Tp.pick_lt x.b (show (0:Int)<8 by decide);have p3:=Tp.pick_lt (x.b.tdiv 8) (show 0<r.c+1 by have:=hr.c0;omega);have p4:=Tp.pick_lt x.c (show (0:Int)<3 by decide);have p5:=Tp.pick_lt x.d (show 0<r.lo+3 by have:=hr.l1;omega);have hlo1:=hr.l1;have hsp:=va.sp (by omega);have hf1:=nf_le r l (5+Tp.pick x.a 3) (last+Tp.pick x.b 8)
 have hf2:nf r l (5+Tp.pick x.a 3) (last+Tp.pick x.b 8)<=last+40:=nf_ub (by omega) fun g hg=>by
  have:=(hsp g hg).2;have:=hle g hg;omega
 have hf3:∀g∈l,g.n=5+Tp.pick x.a 3->fin r g+r.re<=nf r l (5+Tp.pick x.a 3) (last+Tp.pick x.b 8):=fun g hg hn=>nf_mem _ hg hn
 have hm:∃m:Ho,m=mkH B r l last x/\m.n=5+Tp.pick x.a 3/\m.f=nf r l (5+Tp.pick x.a 3) (last+Tp.pick x.b 8)/\P m.b/\m.v=Tp.pick x.c 3/\m.d=if Tp.pick x.c 3=0 then 0 else m.f+Tp.pick x.d (r.lo+3) :=
  ⟨_,rfl,rfl,rfl,hB _ p3.1 (by omega),rfl,rfl⟩
 obtain⟨m,hm,m1,m2,m3,m4,m5⟩:=hm;have hst:stepH B r (l,last) x=(l++[m],m.f):=by rw[hm];rfl
 rw[hst];generalize nf r l (5+Tp.pick x.a 3) (last+Tp.pick x.b 8)=F at *
 have hfm:Fm P m:=by
  refine⟨by omega,by omega,by omega,by omega,m3,?_⟩;by_cases hv:Tp.pick x.c 3=0
  · left;rw[if_pos hv]at m5;exact⟨by omega,m5⟩
  · right;rw[if_neg hv]at m5;exact⟨by omega,by omega,by omega⟩
 have hva:Va P r (l++[m]):=Va.snoc.2 ⟨va,by omega,hfm,fun g hg=>⟨by have:=hle g hg;omega,fun hn=>by have:=hf3 g hg (by omega);omega⟩⟩;refine ⟨hva,by simp[hlen],?_,?_,?_,?_,?_⟩
 · intro g hg
   rcases List.mem_append.1 hg with hg|hg
   · have:=hle g hg;show g.f<=m.f;omega
   · rw[List.mem_singleton.1 hg];exact Int.le_refl _
 · intro g hg
   rcases List.mem_append.1 hg with hg|hg
   · exact h.nn g hg
   · rw[List.mem_singleton.1 hg];omega
 · intro g hg
   rcases List.mem_append.1 hg with hg|hg
   · exact h.dd g hg
   · rw[List.mem_singleton.1 hg,m5];split <;> omega
 · show 0<=m.f;omega
 · show m.f<=_;push_cast;omega
theorem genH_ok {P:Pr->Prop} {B:Int->Pr} {r:Ru} (hr:RuOk r) (hlo:r.lo<=20) (hre:r.re<=20) (hB:∀p,0<=p->p<=r.c->P (B p)) (x:List X4):∀k:Nat,k<=x.length->k<=8->GenH P r k (genH B r (x.take k))
 | 0,_,_=>⟨Va.nil _ _,rfl,fun h hh=>absurd hh List.not_mem_nil,fun h hh=>absurd hh List.not_mem_nil,fun h hh=>absurd hh List.not_mem_nil,Int.le_refl _,Int.le_refl _⟩
 | k+1,h1,h2=>by
  have ih:=genH_ok hr hlo hre hB x k (by omega) (by omega);rw [List.take_add_one,List.getElem?_eq_getElem (show k<x.length by omega),Option.toList_some,genH_snoc];exact ih.step hr hlo hre hB (by omega) _
end Tf
namespace Tf
theorem Va.step {P:Pr->Prop} {r:Ru} {l:List Ho} {k:Nat} (hk:k<l.length) (h20:l.length<=20) (h:Va P r (l.take k)) (hf:Fm P l[k]) (ho:∀(hj:0<k),(l[k-1]'(by omega)).f<=l[k].f) (hn:∀(j:Nat) (hj:j<k),(l[j]'(by omega)).n=l[k].n->fin r (l[j]'(by omega))+r.re<=l[k].f):Va P r (l.take (k+1)):=by
 rw[List.take_add_one,List.getElem?_eq_getElem hk,Option.toList_some];refine Va.snoc.2 ⟨h,by rw[List.length_take];omega,hf,fun g hg=>?_⟩;obtain ⟨j,hj,rfl⟩:=List.getElem_of_mem hg;rw [List.length_take]at hj;have e:(l.take k)[j]=l[j]'(by omega):=List.getElem_take;refine ⟨?_,fun h1=>?_⟩
 · rw[e]
   rcases Nat.lt_or_ge j (k-1) with h1|h1
   · have h2:=List.pairwise_iff_getElem.1 h.nx j (k-1) (by rw[List.length_take];omega) (by rw[List.length_take];omega) h1;have e2:(l.take k)[k-1]'(by rw[List.length_take];omega)=l[k-1]'(by omega):=List.getElem_take;have h3:=h2.1;rw [e,e2]at h3;exact Int.le_trans h3 (ho (by omega))
   · have hjk:j=k-1:=by omega
     subst hjk;exact ho (by omega)
 · rw[e]at h1 ⊢;exact hn j (by omega) h1
theorem Va.back {P:Pr->Prop} {r:Ru} {l:List Ho} {k:Nat} (hk:k<l.length) (h:Va P r l):Va P r (l.take k)/\Fm P l[k]/\∀(j:Nat) (hj:j<k),Nx r (l[j]'(by omega)) l[k] :=
 ⟨by rw[←List.take_append_drop k l]at h;exact h.front,h.fm _ (List.getElem_mem hk),fun j hj=>List.pairwise_iff_getElem.1 h.nx j k (by omega) hk hj⟩
theorem Va.step' {P:Pr->Prop} {r:Ru} {l:List Ho} {k:Nat} (hk:k<l.length) (h20:l.length<=20) (h:Va P r (l.take k)) (hf:Fm P l[k]) (hn:∀(j:Nat) (hj:j<k),Nx r (l[j]'(by omega)) l[k]):Va P r (l.take (k+1)) :=
 h.step hk h20 hf (fun hj=>(hn (k-1) (by omega)).1) fun j hj e=>(hn j hj).2 e
theorem Va.not_len {P:Pr->Prop} {r:Ru} {l:List Ho} (h:20<l.length):¬Va P r l:=fun hv=>by have:=hv.len;omega
theorem Va.not_fm {P:Pr->Prop} {r:Ru} {l:List Ho} {k:Nat} (hk:k<l.length) (h:¬Fm P l[k]):¬Va P r l:=fun hv=>h (hv.back hk).2.1
theorem Va.not_nx {P:Pr->Prop} {r:Ru} {l:List Ho} {k j:Nat} (hk:k<l.length) (hj:j<k) (h:¬Nx r (l[j]'(by omega)) l[k]):¬Va P r l:=fun hv=>h ((hv.back hk).2.2 j hj)
theorem Va.whole {P:Pr->Prop} {r:Ru} {l:List Ho} (h:Va P r (l.take l.length)):Va P r l:=by rwa [List.take_length]at h
def owed (r:Ru) (h:Ho):Int:=if h.v=1/\h.d<h.f+r.lo then 0 else r.pay*(fin r h-h.f)
theorem owed_later (r:Ru) (s:Int) (h:Ho):owed r (later s h)=owed r h:=by
 unfold owed
 rw[fin_later];have e1:(later s h).f=h.f+s:=rfl;have e2:(later s h).v=h.v:=rfl;have e3:(later s h).d=if h.v=0 then h.d else h.d+s:=rfl
 rw[e1,e2,e3];have e4:fin r h+s-(h.f+s)=fin r h-h.f:=by omega
 rw[e4];by_cases h1:h.v=1
 · rw[if_neg (show ¬h.v=0 by omega)];by_cases h2:h.d<h.f+r.lo
   · rw[if_pos ⟨h1,by omega⟩,if_pos ⟨h1,h2⟩]
   · rw[if_neg (by omega),if_neg (by omega)]
 · rw[if_neg (by omega),if_neg (by omega)]
theorem owed_bound {r:Ru} {h:Ho} (hp:0<=r.pay) (hs:Sp r h):0<=owed r h/\owed r h<=r.pay*(fin r h-h.f):=by
 have h1:0<=fin r h-h.f:=by have:=hs.1;omega
 have h2:=Int.mul_nonneg hp h1
 unfold owed
 split <;> omega
theorem held_one {r:Ru} {h:Ho} {k:Nat} (hs:Sp r h) (hk:(k:Int)=r.lo):(cnt (held r [h] h.n) h.f k:Int)=fin r h-h.f:=by
 have e:cnt (held r [h] h.n) h.f k=cnt (fun t=>decide (h.f<=t)&&decide (t<fin r h)) h.f k:=cnt_congr fun t _ _=>by
  simp[held,inH]
 rw[e];have h1:=hs.1;have h2:=hs.2;exact cnt_span (Int.le_refl _) h1 (by omega)
def paid (r:Ru) (n:Int) (l:List Ho):Int:=l.foldl (fun s h=>if h.n=n then s+owed r h else s) 0
theorem paid_snoc (r:Ru) (n:Int) (l:List Ho) (h:Ho):paid r n (l++[h])=if h.n=n then paid r n l+owed r h else paid r n l:=by
 simp only[paid,List.foldl_append,List.foldl_cons,List.foldl_nil]
theorem lens_snoc (r:Ru) (n:Int) (l:List Ho) (h:Ho):lens r n (l++[h])=if h.n=n then lens r n l+(fin r h-h.f) else lens r n l:=by
 simp only[lens,List.foldl_append,List.foldl_cons,List.foldl_nil]
theorem paid_le {r:Ru} {n:Int} (hp:0<=r.pay) (l:List Ho) (hs:∀h∈l,Sp r h):∀k:Nat,k<=l.length->0<=paid r n (l.take k)/\paid r n (l.take k)<=r.pay*lens r n (l.take k)/\0<=lens r n (l.take k)/\lens r n (l.take k)<=r.lo*k
 | 0,_=>by simp[paid,lens]
 | k+1,hk=>by
  obtain⟨h1,h2,h3,h4⟩:=paid_le hp l hs k (by omega);have hsp:=hs _ (List.getElem_mem (show k<l.length by omega));obtain ⟨b1,b2⟩:=owed_bound hp hsp;have s1:0<=fin r l[k]-l[k].f:=by have:=hsp.1;omega
  have s2:fin r l[k]-l[k].f<=r.lo:=by have:=hsp.2;omega
  have e1:r.lo*((k+1:Nat):Int)=r.lo*k+r.lo:=by rw[Int.natCast_add,Int.mul_add];simp
  have e2:∀D,r.pay*(lens r n (l.take k)+D)=r.pay*lens r n (l.take k)+r.pay*D:=fun D=>Int.mul_add ..
  rw[List.take_add_one,List.getElem?_eq_getElem (show k<l.length by omega),Option.toList_some,paid_snoc,lens_snoc,e1];by_cases hn:l[k].n=n
  · rw[if_pos hn,if_pos hn,e2];exact ⟨Int.add_nonneg h1 b1,Int.add_le_add h2 b2,Int.add_nonneg h3 s1,Int.add_le_add h4 s2⟩
  · rw[if_neg hn,if_neg hn];exact ⟨h1,h2,h3,Int.le_trans h4 (Int.le_add_of_nonneg_right (Int.le_trans s1 s2))⟩
theorem paid_held {P:Pr->Prop} {r:Ru} {l:List Ho} {n:Int} {T:Nat} (hr:RuOk r) (h:Va P r l) (h0:∀g∈l,g.f+r.lo<=T):paid r n l<=r.pay*(cnt (held r l n) 0 T:Int):=by
 have hlo:=hr.l1;have hsp:=h.sp (by omega);have hp:=hr.p0;have hre:=hr.r1;rw [lens_held (by omega) h.nx hsp (fun g hg=>⟨(h.fm g hg).f0,by have:=(hsp g hg).2;have:=h0 g hg;omega⟩)];have h1:=(paid_le (n:=n) hp l hsp l.length (Nat.le_refl _)).2.1;rw [List.take_length]at h1;exact h1
def lastS (r:Ru) (l:List Ho):Int:=l.foldl (fun s h=>max s (h.f+r.lo)) 0
theorem lastS_snoc (r:Ru) (l:List Ho) (h:Ho):lastS r (l++[h])=max (lastS r l) (h.f+r.lo):=by
 simp only[lastS,List.foldl_append,List.foldl_cons,List.foldl_nil]
theorem lastS_go (r:Ru) (l:List Ho) (s:Int):s<=l.foldl (fun s h=>max s (h.f+r.lo)) s/\∀h∈l,h.f+r.lo<=l.foldl (fun s h=>max s (h.f+r.lo)) s:=by
 induction l generalizing s with
 | nil=>exact⟨Int.le_refl _,fun h hh=>absurd hh List.not_mem_nil⟩
 | cons g l ih =>
  obtain⟨h1,h2⟩:=ih (max s (g.f+r.lo));refine ⟨Int.le_trans (by omega) h1,fun h hh=>?_⟩
  rcases List.mem_cons.1 hh with e|hh
  · rw[e];exact Int.le_trans (by omega) h1
  · exact h2 h hh
theorem lastS_ub {r:Ru} {l:List Ho} {m:Int} (h0:0<=m) (h:∀g∈l,g.f+r.lo<=m):lastS r l<=m:=by
 have:∀(l:List Ho) (s:Int),s<=m->(∀g∈l,g.f+r.lo<=m)->l.foldl (fun s h=>max s (h.f+r.lo)) s<=m:=by
  intro l
  induction l with
  | nil=>intro s hs _;exact hs
  | cons g l ih =>
   intro s hs hl;refine ih _ ?_ fun h hh=>hl h (List.mem_cons_of_mem _ hh)
   have:=hl g (List.mem_cons_self ..)
   show max s (g.f+r.lo)<=m
   omega
 exact this l 0 h0 h
theorem held_snoc (r:Ru) (l:List Ho) (h:Ho) (n t:Int):held r (l++[h]) n t=(held r l n t||h.n==n&&inH r h t):=by
 simp only[held,List.any_append,List.any_cons,List.any_nil,Bool.or_false]
theorem held_take {r:Ru} {l:List Ho} {k:Nat} (hk:k<l.length) (n t:Int):held r (l.take (k+1)) n t=(held r (l.take k) n t||l[k].n==n&&inH r l[k] t):=by
 rw[List.take_add_one,List.getElem?_eq_getElem hk,Option.toList_some,held_snoc]
end Tf
def ruB (c e lo re pay:Int):Bool:=chB c e&&(Tp.within lo 1 1000000&&Tp.within re 1 1000000)&&Tp.within pay 0 1000
theorem ruB_iff {c e lo re pay:Int}:ruB c e lo re pay=true↔Tf.RuOk ⟨c,e,lo,re,pay⟩:=by
 unfold ruB
 rw[Bool.and_eq_true,Bool.and_eq_true,Bool.and_eq_true,chB_iff,Tp.within_iff,Tp.within_iff,Tp.within_iff]
 constructor
 · rintro ⟨⟨⟨h1,h2,h3,h4⟩,h5,h6⟩,h7⟩;refine ⟨h1,h2,h3,h4,?_,?_,?_,?_,?_,?_⟩ <;> dsimp only <;> omega
 · rintro ⟨h1,h2,h3,h4,h5,h6,h7,h8,h9,h10⟩;dsimp only at *;omega
def InB (c e:Int) (p:Tf.Pr):Prop:=∃q,Rq.Fq q/\p=txQ q/\0<=q/\q<=Rat.divInt c e
noncomputable def fmB (c e:Int) (h:Tf.Ho):Bool:=@decide (Tf.Fm (InB c e) h) (Classical.propDecidable _)
theorem fmB_t {c e:Int} {h:Tf.Ho} (hf:Tf.Fm (InB c e) h):fmB c e h=true:=@decide_eq_true _ (Classical.propDecidable _) hf
theorem fmB_f {c e:Int} {h:Tf.Ho} (hf:¬Tf.Fm (InB c e) h):fmB c e h=false:=@decide_eq_false _ (Classical.propDecidable _) hf
theorem fmB_iff {c e:Int} {h:Tf.Ho}:fmB c e h=true↔Tf.Fm (InB c e) h:=by
 constructor
 · intro h1;by_cases hf:Tf.Fm (InB c e) h
   · exact hf
   · rw[fmB_f hf]at h1;cases h1
 · exact fmB_t
def vdB (v d f:Int):Bool:=if v=0 then decide (d=0) else (decide (v=1)||decide (v=2))&&Tp.within d f 11000000
theorem vdB_iff {v d f:Int}:vdB v d f=true↔(v=0/\d=0∨(v=1∨v=2)/\f<=d/\d<=11000000):=by
 unfold vdB
 split
 · rw[decide_eq_true_eq];omega
 · rw[Bool.and_eq_true,Bool.or_eq_true,decide_eq_true_eq,decide_eq_true_eq,Tp.within_iff];omega
theorem fm_steps {c e:Int} {h:Tf.Ho} {q:Rat} (hq:Rq.Fq q) (hb:h.b=txQ q):Tf.Fm (InB c e) h↔(0<=h.n/\h.n<=99999999)/\(0<=h.f/\h.f<=10000000)/\(0<=q/\q<=Rat.divInt c e)/\vdB h.v h.d h.f=true:=by
 rw[vdB_iff]
 constructor
 · rintro ⟨h1,h2,h3,h4,⟨q',h5,h6,h7,h8⟩,h9⟩
   have e1:q'=q:=by
    rw[hb]at h6;have e2:=congrArg Prod.fst h6;have e3:=congrArg Prod.snd h6;have e4:q.num=q'.num:=Ig.itoa_inj e2;have e5:(q.den:Int)=q'.den:=Ig.itoa_inj e3;exact (Rat.ext e4 (by exact_mod_cast e5)).symm
   subst e1;exact ⟨⟨h1,h2⟩,⟨h3,h4⟩,⟨h7,h8⟩,h9⟩
 · rintro ⟨⟨h1,h2⟩,⟨h3,h4⟩,⟨h7,h8⟩,h9⟩;exact ⟨h1,h2,h3,h4,⟨q,hq,hb,h7,h8⟩,h9⟩
theorem fm_not {c e:Int} {h:Tf.Ho} (hb:Rq.okB h.b.1 h.b.2=false):¬Tf.Fm (InB c e) h:=fun hf=>by
 obtain⟨q,h1,h2,-,-⟩:=hf.b;have h3:=Rq.okB_q h1;rw [h2]at hb;rw [show Rq.okB (txQ q).1 (txQ q).2=Rq.okB (Go.Lib.itoa q.num) (Go.Lib.itoa (q.den:Int)) from rfl,h3]at hb;cases hb
theorem fWithin_any (n lo hi:Int) (w:World) :
 Calls Tryz.prog 53 #[.int .i64 n,.int .i64 lo,.int .i64 hi] w fun e w'=>e=.returned (.bool (Tp.within n lo hi))/\w=w':=by
 by_cases h1:lo<=n <;> by_cases h2:n<=hi
 all_goals
  go_enter Tryz.func53,Tryz.ntmps53
  go_wp2;go_ret;exact ⟨by simp[Tp.within, *] <;> omega,rfl⟩
theorem fChance_any (c e:Int) (w:World) :
 Calls Tryz.prog 76 #[.agg #[.int .i64 c,.int .i64 e]] w fun e' w'=>e'=.returned (.bool (chB c e))/\Below w.heap.size w w':=by
 have hI1:=fun w0=>calls_below (fWithin_any e 1 1000 w0)
 have hI2:=fun w0=>calls_below (fWithin_any c 0 e w0)
 have hd:Kp (chB c e=(Tp.within e 1 1000&&Tp.within c 0 e)):=⟨rfl⟩
 have B:=Bx.mk w 29 #[.int .i64 c,.int .i64 e];have hb:=bNew (bStart w) (.cells #[.int .i64 c,.int .i64 e] 29);have c0:=B.cell 0 rfl;have c1:=B.cell 1 rfl;generalize Tp.within c 0 e=r2 at *
 cases h1:Tp.within e 1 1000 with
 | true =>
  rw[h1]at hI1 hd;clear h1
  go_enter Tryz.func76,Tryz.ntmps76
  go_wp2_with fail;refine (hI1 _).mono ?_;rintro e w1 ⟨rfl,hb1⟩;have d0:=(B.call hb1).cell 0 rfl;have d1:=(B.call hb1).cell 1 rfl;go_wp2_with fail;refine (hI2 _).mono ?_;rintro e w2 ⟨rfl,hb2⟩;go_wp2;go_ret;exact ⟨ret_bool (by rw[hd.out];simp),bCall (bCall hb hb1) hb2⟩
 | false =>
  rw[h1]at hI1 hd;clear h1
  go_enter Tryz.func76,Tryz.ntmps76
  go_wp2_with fail;refine (hI1 _).mono ?_;rintro e w1 ⟨rfl,hb1⟩;go_wp2;go_ret;exact ⟨ret_bool (by rw[hd.out];simp),bCall hb hb1⟩
theorem areRules_any (c e lo re pay:Int) (w:World) :
 Calls Tryz.prog 47 #[.agg #[.int .i64 c,.int .i64 e,.int .i64 lo,.int .i64 re,.int .i64 pay]] w fun e' w'=>e'=.returned (.bool (ruB c e lo re pay))/\Below w.heap.size w w':=by
 have hI1:=fun w0=>calls_below (fWithin_any lo 1 1000000 w0)
 have hI2:=fun w0=>calls_below (fWithin_any re 1 1000000 w0)
 have hI3:=fun w0=>fChance_any c e w0
 have hI4:=fun w0=>calls_below (fWithin_any pay 0 1000 w0)
 have hd:Kp (ruB c e lo re pay=(chB c e&&(Tp.within lo 1 1000000&&Tp.within re 1 1000000)&&Tp.within pay 0 1000)):=⟨rfl⟩
 generalize Tp.within lo 1 1000000=s1 at *;generalize Tp.within re 1 1000000=s2 at *;generalize chB c e=s3 at *;generalize Tp.within pay 0 1000=s4 at *;generalize ruB c e lo re pay=res at *;have B:=Bx.mk w 31 #[.int .i64 c,.int .i64 e,.int .i64 lo,.int .i64 re,.int .i64 pay];have hb:=bNewW w (.cells #[.int .i64 c,.int .i64 e,.int .i64 lo,.int .i64 re,.int .i64 pay] 31);cases s1 <;> cases s2 <;> cases s3
 · obtain rfl:=hd.out
   go_enter Tryz.func47,Tryz.ntmps47
   obtain⟨cB0,cB1,cB2,cB3,cB4⟩:=B.p5;go_wp2_with fail;refine (hI1 _).mono ?_;rintro _ w1 ⟨rfl,hb1⟩;clear cB0 cB1 cB2 cB3 cB4;replace B:=B.call hb1;replace hb:=bCall hb hb1;clear hb1;obtain ⟨cB0,cB1,cB2,cB3,cB4⟩:=B.p5;go_wp2_with fail;refine (hI3 _).mono ?_;rintro _ w2 ⟨rfl,hb1⟩;clear cB0 cB1 cB2 cB3 cB4;replace B:=B.call hb1;replace hb:=bCall hb hb1;clear hb1;obtain ⟨cB0,cB1,cB2,cB3,cB4⟩:=B.p5;go_wp2;go_ret;exact ⟨by simp,hb⟩
 · obtain rfl:=hd.out
   go_enter Tryz.func47,Tryz.ntmps47
   obtain⟨cB0,cB1,cB2,cB3,cB4⟩:=B.p5;go_wp2_with fail;refine (hI1 _).mono ?_;rintro _ w1 ⟨rfl,hb1⟩;clear cB0 cB1 cB2 cB3 cB4;replace B:=B.call hb1;replace hb:=bCall hb hb1;clear hb1;obtain ⟨cB0,cB1,cB2,cB3,cB4⟩:=B.p5;go_wp2_with fail;refine (hI3 _).mono ?_;rintro _ w2 ⟨rfl,hb1⟩;clear cB0 cB1 cB2 cB3 cB4;replace B:=B.call hb1;replace hb:=bCall hb hb1;clear hb1;obtain ⟨cB0,cB1,cB2,cB3,cB4⟩:=B.p5;go_wp2;go_ret;exact ⟨by simp,hb⟩
 · obtain rfl:=hd.out
   go_enter Tryz.func47,Tryz.ntmps47
   obtain⟨cB0,cB1,cB2,cB3,cB4⟩:=B.p5;go_wp2_with fail;refine (hI1 _).mono ?_;rintro _ w1 ⟨rfl,hb1⟩;clear cB0 cB1 cB2 cB3 cB4;replace B:=B.call hb1;replace hb:=bCall hb hb1;clear hb1;obtain ⟨cB0,cB1,cB2,cB3,cB4⟩:=B.p5;go_wp2_with fail;refine (hI3 _).mono ?_;rintro _ w2 ⟨rfl,hb1⟩;clear cB0 cB1 cB2 cB3 cB4;replace B:=B.call hb1;replace hb:=bCall hb hb1;clear hb1;obtain ⟨cB0,cB1,cB2,cB3,cB4⟩:=B.p5;go_wp2;go_ret;exact ⟨by simp,hb⟩
 · obtain rfl:=hd.out
   go_enter Tryz.func47,Tryz.ntmps47
   obtain⟨cB0,cB1,cB2,cB3,cB4⟩:=B.p5;go_wp2_with fail;refine (hI1 _).mono ?_;rintro _ w1 ⟨rfl,hb1⟩;clear cB0 cB1 cB2 cB3 cB4;replace B:=B.call hb1;replace hb:=bCall hb hb1;clear hb1;obtain ⟨cB0,cB1,cB2,cB3,cB4⟩:=B.p5;go_wp2_with fail;refine (hI3 _).mono ?_;rintro _ w2 ⟨rfl,hb1⟩;clear cB0 cB1 cB2 cB3 cB4;replace B:=B.call hb1;replace hb:=bCall hb hb1;clear hb1;obtain ⟨cB0,cB1,cB2,cB3,cB4⟩:=B.p5;go_wp2;go_ret;exact ⟨by simp,hb⟩
 · obtain rfl:=hd.out
   go_enter Tryz.func47,Tryz.ntmps47
   obtain⟨cB0,cB1,cB2,cB3,cB4⟩:=B.p5;go_wp2_with fail;refine (hI1 _).mono ?_;rintro _ w1 ⟨rfl,hb1⟩;clear cB0 cB1 cB2 cB3 cB4;replace B:=B.call hb1;replace hb:=bCall hb hb1;clear hb1;obtain ⟨cB0,cB1,cB2,cB3,cB4⟩:=B.p5;go_wp2_with fail;refine (hI2 _).mono ?_;rintro _ w2 ⟨rfl,hb1⟩;clear cB0 cB1 cB2 cB3 cB4;replace B:=B.call hb1;replace hb:=bCall hb hb1;clear hb1;obtain ⟨cB0,cB1,cB2,cB3,cB4⟩:=B.p5;go_wp2_with fail;refine (hI3 _).mono ?_;rintro _ w3 ⟨rfl,hb1⟩;clear cB0 cB1 cB2 cB3 cB4;replace B:=B.call hb1;replace hb:=bCall hb hb1;clear hb1;obtain ⟨cB0,cB1,cB2,cB3,cB4⟩:=B.p5;go_wp2;go_ret;exact ⟨by simp,hb⟩
 · obtain rfl:=hd.out
   go_enter Tryz.func47,Tryz.ntmps47
   obtain⟨cB0,cB1,cB2,cB3,cB4⟩:=B.p5;go_wp2_with fail;refine (hI1 _).mono ?_;rintro _ w1 ⟨rfl,hb1⟩;clear cB0 cB1 cB2 cB3 cB4;replace B:=B.call hb1;replace hb:=bCall hb hb1;clear hb1;obtain ⟨cB0,cB1,cB2,cB3,cB4⟩:=B.p5;go_wp2_with fail;refine (hI2 _).mono ?_;rintro _ w2 ⟨rfl,hb1⟩;clear cB0 cB1 cB2 cB3 cB4;replace B:=B.call hb1;replace hb:=bCall hb hb1;clear hb1;obtain ⟨cB0,cB1,cB2,cB3,cB4⟩:=B.p5;go_wp2_with fail;refine (hI3 _).mono ?_;rintro _ w3 ⟨rfl,hb1⟩;clear cB0 cB1 cB2 cB3 cB4;replace B:=B.call hb1;replace hb:=bCall hb hb1;clear hb1;obtain ⟨cB0,cB1,cB2,cB3,cB4⟩:=B.p5;go_wp2;go_ret;exact ⟨by simp,hb⟩
 · obtain rfl:=hd.out
   go_enter Tryz.func47,Tryz.ntmps47
   obtain⟨cB0,cB1,cB2,cB3,cB4⟩:=B.p5;go_wp2_with fail;refine (hI1 _).mono ?_;rintro _ w1 ⟨rfl,hb1⟩;clear cB0 cB1 cB2 cB3 cB4;replace B:=B.call hb1;replace hb:=bCall hb hb1;clear hb1;obtain ⟨cB0,cB1,cB2,cB3,cB4⟩:=B.p5;go_wp2_with fail;refine (hI2 _).mono ?_;rintro _ w2 ⟨rfl,hb1⟩;clear cB0 cB1 cB2 cB3 cB4;replace B:=B.call hb1;replace hb:=bCall hb hb1;clear hb1;obtain ⟨cB0,cB1,cB2,cB3,cB4⟩:=B.p5;go_wp2_with fail;refine (hI3 _).mono ?_;rintro _ w3 ⟨rfl,hb1⟩;clear cB0 cB1 cB2 cB3 cB4;replace B:=B.call hb1;replace hb:=bCall hb hb1;clear hb1;obtain ⟨cB0,cB1,cB2,cB3,cB4⟩:=B.p5;go_wp2;go_ret;exact ⟨by simp,hb⟩
 · obtain rfl:=hd.out
   go_enter Tryz.func47,Tryz.ntmps47
   obtain⟨cB0,cB1,cB2,cB3,cB4⟩:=B.p5;go_wp2_with fail;refine (hI1 _).mono ?_;rintro _ w1 ⟨rfl,hb1⟩;clear cB0 cB1 cB2 cB3 cB4;replace B:=B.call hb1;replace hb:=bCall hb hb1;clear hb1;obtain ⟨cB0,cB1,cB2,cB3,cB4⟩:=B.p5;go_wp2_with fail;refine (hI2 _).mono ?_;rintro _ w2 ⟨rfl,hb1⟩;clear cB0 cB1 cB2 cB3 cB4;replace B:=B.call hb1;replace hb:=bCall hb hb1;clear hb1;obtain ⟨cB0,cB1,cB2,cB3,cB4⟩:=B.p5;go_wp2_with fail;refine (hI3 _).mono ?_;rintro _ w3 ⟨rfl,hb1⟩;clear cB0 cB1 cB2 cB3 cB4;replace B:=B.call hb1;replace hb:=bCall hb hb1;clear hb1;obtain ⟨cB0,cB1,cB2,cB3,cB4⟩:=B.p5;go_wp2_with fail;refine (hI4 _).mono ?_;rintro _ w4 ⟨rfl,hb1⟩;clear cB0 cB1 cB2 cB3 cB4;replace B:=B.call hb1;replace hb:=bCall hb hb1;clear hb1;obtain ⟨cB0,cB1,cB2,cB3,cB4⟩:=B.p5;go_wp2;go_ret;exact ⟨by simp,hb⟩
open Go.RowKit
def RowZ (e:TypeId) (size B n:Nat) (flat:List Value):Value->World->Prop:=fun v w=>(v=.slice none 0 0/\n=0/\flat=[])∨∃cap,RowC e size B cap n flat v w/\cap<=maxLen
theorem stab_rowZ (e:TypeId) (size B n:Nat) (flat:List Value):Stab (RowZ e size B n flat):=fun v w w' h hb=>by
 rcases h with h|⟨cap,h,hm⟩
 · exact .inl h
 · exact .inr ⟨cap,stab_rowC e size B cap n flat v w w' h hb,hm⟩
theorem append_rowZ {P:Program} (w:World) (t ty e:TypeId) (i:TypeInfo) (z:Value) (size B n m:Nat) (flat news:List Value) (v x:Value) (ht:P.underlying t=some (.slice e)) (hi:P.info? e=some i) (hz:i.zero=some z)
 (hsize:i.size=size) (hzs:z.cells.size=size) (hv:RowZ e size B n flat v w) (hB:B<=w.heap.size) (hs:Src P size t x m news w) (hm:0<m) (h63:n+m<=maxLen) (hb:(n+m)*i.bytes<=140737488355328) :
 ∃v' w',(Builtin.append_ #[t,t] ty #[v,x]).run P w=.ok v' w'/\Below B w w'/\RowZ e size B (n+m) (flat++news) v' w':=by
 rcases hv with ⟨rfl,rfl,rfl⟩|⟨cap,hv,hcm⟩
 · subst hsize;have hnl:=hs.newsLen;have hold:(Builtin.firstCells i.size 0 (.slice none 0 0)).run P w.drew=.ok ([]:List Value).toArray w.drew:=by simp[Builtin.firstCells,loadCells,loadCellsFrom]
   have hrun:=run_append_grow_src (P:=P) w t t ty e i z ht hi hz none 0 0 [] hold x m news hs (by omega) (by simp only[maxLen]at h63;omega) (growslice_fits (by omega) hb);have hge:=grownCap_ge w (0+m) 0 e;refine ⟨_,_,hrun,((Below.refl B w).drew).alloc hB _,.inr ⟨_,⟨w.heap.size,_,rfl,hB,hge,Bx.mk w.drew e _,?_,?_⟩,grownCap_le_maxLen w (0+m) 0 e h63⟩⟩
   · rw[Array.size_append,List.size_toArray,List.length_append,List.length_nil,hnl,size_zeroCells,hzs,Nat.zero_add,←Nat.add_mul]
     congr 1;omega
   · rw[Array.toList_append,List.take_append_of_le_length (by simp[hnl,Nat.add_mul])];rw [List.take_of_length_le (by simp[hnl,Nat.add_mul])]
 · obtain⟨v',w',cap',h1,h2,h3,h4,h5⟩:=append_row (P:=P) w t ty e i z size B cap n m flat news v x ht hi hz hsize hzs hv hB hs hcm h63 hb;exact ⟨v',w',h1,h2,.inr ⟨cap',h4,h5⟩⟩
theorem wpList_append_rowZ {P:Program} {w:World} {ops:Array Oper} {rest:List Oper} {o:Oper} {a:Act} {Q:Exit->Act->World->Prop} (hgd:o.guard=none) (s y:Operand) (t e:TypeId) (ho:o.op=.call { callee:=.builtin .append,args:=#[s,y],argTypes:=#[t,t] })
 (i:TypeInfo) (z:Value) (size B n m:Nat) (flat news:List Value) (v x:Value) (ht:P.underlying t=some (.slice e)) (hi:P.info? e=some i) (hz:i.zero=some z)
 (hsize:i.size=size) (hzs:z.cells.size=size) (hes:a.eval s=v) (hey:a.eval y=x) (hv:RowZ e size B n flat v w) (hB:B<=w.heap.size) (hs:Src P size t x m news w) (hm:0<m) (h63:n+m<=maxLen) (hb:(n+m)*i.bytes<=140737488355328)
 (h:∀v' w',Below B w w'->RowZ e size B (n+m) (flat++news) v' w'->wpList P ops Q rest (a.put o.dst v') w'):wpList P ops Q (o :: rest) a w:=by
 obtain⟨v',w',hr,h1,h2⟩:=append_rowZ (P:=P) w t o.type e i z size B n m flat news v x ht hi hz hsize hzs hv hB hs hm h63 hb;refine wpList_plain hgd fun _ hK=>?_
 unfold Oper.wp execOp
 simp only[ho,resolve,invoke,builtin,Sem.run_bind,Sem.run_pure,Result.andThen_ok,List.map_toArray,List.map_cons,List.map_nil,hes,hey,hr];exact hK _ _ (h v' w' h1 h2)
theorem RowZ.at {α:Type} {size:Nat} {f:α->List Value} {w:World} {e:TypeId} {B:Nat} {p:List α} {v:Value} (hf:∀c,(f c).length=size) (h:RowZ e size B p.length (p.flatMap f) v w) :
 ∃A cap,v=.slice A p.length cap/\At size f w w.heap.size A p/\p.length<=cap/\cap<=maxLen:=by
 rcases h with ⟨rfl,h0,-⟩|⟨cap,h,hm⟩
 · rw[h0];exact ⟨none,0,rfl,fun h=>by omega,by omega,Nat.zero_le _⟩
 · obtain⟨A,h1,h2,h3⟩:=RowC.at hf h;exact ⟨A,cap,h1,h2,h3,hm⟩
end Go.Proofs.YtelljijajgiabaaGreatDoor
namespace Tb
def cD (x y:Int):Int:=if Tp.pick x 8=7 then 1+Tp.pick y 1000 else 1+Tp.pick y 12
def cN (x y:Int):Int:=Tp.pick (x.tdiv 8) (cD x y+1)
theorem cD_in (x y:Int):1<=cD x y/\cD x y<=1000:=by
 unfold cD
 have h1:=Tp.pick_lt y (show (0:Int)<1000 by decide);have h2:=Tp.pick_lt y (show (0:Int)<12 by decide)
 split <;> omega
theorem cN_in (x y:Int):0<=cN x y/\cN x y<=cD x y:=by
 have h:=cD_in x y;have:=Tp.pick_lt (x.tdiv 8) (show 0<cD x y+1 by omega)
 unfold cN;omega
end Tb
namespace Go.Proofs.YtelljijajgiabaaGreatDoor
open Go.RowKit Go.Shelf
theorem tdiv8_i64 {x:Int} (h:I64 x):I64 (x.tdiv 8):=by
 obtain⟨h1,h2⟩:=h
 rcases Int.le_total 0 x with hx|hx
 · have a:=Int.tdiv_nonneg hx (show (0:Int)<=8 by decide);have b:=Int.tdiv_le_self 8 hx;exact ⟨by omega,by omega⟩
 · have a:=Int.tdiv_nonneg (a:= -x) (b:=8) (by omega) (by decide);have b:=Int.tdiv_le_self 8 (show 0<= -x by omega);rw [Int.neg_tdiv]at a b;exact ⟨by omega,by omega⟩
theorem results_C1 {fn:Func} {t:Tmp} {g:Nat} {a b:Int} (h:fn.results=#[.cell t 29]) (tmps:Array Value) (w:World) (ht:tmps.getD t undef=.pointer (some ⟨g,0,none⟩)) (hB:Bx w g 29 #[.int .i64 a,.int .i64 b]) :
 (results fn tmps).run Tryz.prog w=.ok (.agg #[.int .i64 a,.int .i64 b]) w:=by
 have h0:=hB.cell 0 rfl;have h1:=hB.cell 1 rfl;have ht':tmps[t]?.getD undef=.pointer (some ⟨g,0,none⟩):=by simpa using ht
 simp only[results,h];simp [go_sem,ht',h0,h1,loadVar]
theorem rChance_any (x y:Int) (w:World) (hx:I64 x) (hy:I64 y) :
 Calls Tryz.prog 43 #[.agg #[.int .i64 x,.int .i64 y]] w fun e w'=>e=.returned (.agg #[.int .i64 (Tb.cN x y),.int .i64 (Tb.cD x y)])/\Below w.heap.size w w':=by
 have B0:=(Bx.mk w 80 #[.int .i64 x,.int .i64 y]).new (.cells #[.int .i64 0,.int .i64 0] 29);have B1:=Bx.mk (w.alloc (.cells #[.int .i64 x,.int .i64 y] 80)) 29 #[.int .i64 0,.int .i64 0];rw [alloc_size]at B1;have hb:=bNew (bNewW w (.cells #[.int .i64 x,.int .i64 y] 80)) (.cells #[.int .i64 0,.int .i64 0] 29);have c0:=B0.cell 0 rfl;have c1:=B0.cell 1 rfl;have f0:=B1.frozen 0;have f1:=B1.frozen 1;have d1:=tdiv8_i64 hx;have p1:=fun w0=>rpick_any y 12 (by decide) hy w0
 have p2:=fun w0=>rpick_any x 8 (by decide) hx w0
 have p3:=fun w0=>rpick_any y 1000 (by decide) hy w0
 have hdi:=Tb.cD_in x y;have hni:=Tb.cN_in x y;have p4:=fun w0=>rpick_any (x.tdiv 8) (Tb.cD x y+1) (by omega) d1 w0
 have hD:Kp (Tb.cD x y=if Tp.pick x 8=7 then 1+Tp.pick y 1000 else 1+Tp.pick y 12):=⟨rfl⟩
 have e1:=Tp.pick_lt y (show (0:Int)<12 by decide);have e2:=Tp.pick_lt y (show (0:Int)<1000 by decide);have e3:=Tp.pick_lt x (show (0:Int)<8 by decide);rw [show Tp.pick (x.tdiv 8) (Tb.cD x y+1)=Tb.cN x y from rfl]at p4;generalize Tb.cN x y=N at *;generalize Tb.cD x y=D at *;generalize Tp.pick y 12=q1 at *;generalize Tp.pick x 8=q2 at *;generalize Tp.pick y 1000=q3 at *;have B4:=Bx.mk (w.alloc (.cells #[.int .i64 x,.int .i64 y] 80)) 29 #[.int .i64 N,.int .i64 D];rw [alloc_size]at B4;have hb4:=bNew (bNewW w (.cells #[.int .i64 x,.int .i64 y] 80)) (.cells #[.int .i64 N,.int .i64 D] 29);obtain ⟨x1,x2⟩:=hx;clear hy;replace d1:=Kp.mk d1;by_cases hq:q2=7
 · subst hq;have hD2:1+q3=D:=by rw[hD.out,if_pos rfl]
   clear hD
   go_enter Tryz.func43,Tryz.ntmps43
   go_wp2_with fail;refine (p1 _).mono ?_;rintro _ _ ⟨rfl,rfl⟩;go_wp2_with fail;refine (p2 _).mono ?_;rintro _ _ ⟨rfl,rfl⟩;go_wp2_with fail;refine (p3 _).mono ?_;rintro _ _ ⟨rfl,rfl⟩;go_wp2_with fail;refine (p4 _).mono ?_;rintro _ _ ⟨rfl,rfl⟩;go_wp2;exact bodyPost_ret (results_C1 rfl _ _ rfl B4) rfl ⟨rfl,hb4⟩
 · have hq':(q2==7)=false:=by simp[hq]
   have hD2:1+q1=D:=by rw[hD.out,if_neg hq]
   clear hD
   go_enter Tryz.func43,Tryz.ntmps43
   go_wp2_with fail;refine (p1 _).mono ?_;rintro _ _ ⟨rfl,rfl⟩;go_wp2_with fail;refine (p2 _).mono ?_;rintro _ _ ⟨rfl,rfl⟩;go_wp2_with fail;refine (p4 _).mono ?_;rintro _ _ ⟨rfl,rfl⟩;go_wp2;exact bodyPost_ret (results_C1 rfl _ _ rfl B4) rfl ⟨rfl,hb4⟩
section
variable {x y z:Rat} {xa xb ya yb za zb:List UInt8} {j k:Nat} (w:World) (lx:LQ x xa xb) (ly:LQ y ya yb) (lz:LQ z za zb) (hx:Rq.Qz j j x) (hy:Rq.Qz k k y) (hjk:j+k+1<=200)
include lx ly lz hx hy hjk
end
end Go.Proofs.YtelljijajgiabaaGreatDoor
