import Derived.Test.YtelljijajgiabaaGreatDoorQ25
import Derived.Test.YtelljijajgiabaaGreatDoorQ26
import Derived.Deep.Slices
import Derived.ProofKit
import Derived.OpenShut
import Derived.Test.YtelljijajgiabaaGreatDoorCards
import Derived.Test.YtelljijajgiabaaGreatDoorTie
import Derived.LaidMore
import Derived.Lay
import Derived.SevenTiedAt
import Derived.Stop.Joined
import Derived.Stop.LaidErr
import Derived.Lib.LaidTab
set_option linter.unusedVariables false
set_option linter.unusedSimpArgs false
set_option maxRecDepth 100000
set_option maxHeartbeats 8000000
namespace Go.Proofs.YtelljijajgiabaaGreatDoor
open Go.RowKit Go.Shelf
theorem gY (c n:Int) (h0:0<n) (h:I64 c) (w:World) :
 Calls Tryz.prog 44 #[.int .i64 c,.int .i64 n] w fun e w'=>e=.returned (.int .i64 (Tp.pick c n))/\w=w':=by
 obtain⟨h1,h2⟩:=h;by_cases hc:c<0
 · have hm:0<= -(c+1):=by omega
   go_enter Tryz.func44,Tryz.ntmps44
   go_wp2;go_ret;refine ⟨cu ?_,rfl⟩;rw [wS hc,←Int.neg_tmod];exact Int.tmod_eq_emod_of_nonneg hm
 · have hm:0<=c:=by omega
   go_enter Tryz.func44,Tryz.ntmps44
   go_wp2;go_ret;exact ⟨cu (wR hm).symm,rfl⟩
theorem Lj (c n:Int) (h0:0<n) (h:I64 c) (w:World) :
 Calls Tryz.prog 15 #[.int .i64 c,.int .i64 n] w fun e w'=>e=.returned (.int .i64 (Tp.pick c n))/\w=w':=by
 obtain⟨h1,h2⟩:=h;by_cases hc:c<0
 · have hm:0<= -(c+1):=by omega
   go_enter Tryz.func15,Tryz.ntmps15
   go_wp2;go_ret;refine ⟨cu ?_,rfl⟩;rw [wS hc,←Int.neg_tmod];exact Int.tmod_eq_emod_of_nonneg hm
 · have hm:0<=c:=by omega
   go_enter Tryz.func15,Tryz.ntmps15
   go_wp2;go_ret;exact ⟨cu (wR hm).symm,rfl⟩
theorem sS (x0 x1 x2 x3 x4:Int) (w:World) (h0:I64 x0) (h1:I64 x1) (h2:I64 x2) (h3:I64 x3) (h4:I64 x4) (r:Tf.Ru) (hr:Kp (Tf.vg (Tb.cN x0 x1) (Tb.cD x0 x1) x2 x3 x4=r)) :
 aW 12 #[.agg #[.int .i64 x0,.int .i64 x1,.int .i64 x2,.int .i64 x3,.int .i64 x4]] w (.agg #[.int .i64 r.c,.int .i64 r.e,.int .i64 r.lo,.int .i64 r.re,.int .i64 r.pay]):=by
 have hCh:=fun w0=>xP x0 x1 w0 h0 h1
 have hP2:=fun w0=>aB (gY x2 20 (by decide) h2 w0)
 have hP3:=fun w0=>aB (gY x3 20 (by decide) h3 w0)
 have hP4:=fun w0=>aB (gY x4 10 (by decide) h4 w0)
 have e1:=Tb.Dz x0 x1;have e2:=Tb.Ie x0 x1;have e3:=Tp.aZ x2 (show (0:Int)<20 by decide);have e4:=Tp.aZ x3 (show (0:Int)<20 by decide);have e5:=Tp.aZ x4 (show (0:Int)<10 by decide);have hr2:Kp (r=⟨if Tb.cN x0 x1=0 then 1 else Tb.cN x0 x1,Tb.cD x0 x1,1+Tp.pick x2 20,1+Tp.pick x3 20,Tp.pick x4 10⟩):=⟨hr.out.symm.trans rfl⟩
 clear hr;generalize Tb.cN x0 x1=cn at *;generalize Tb.cD x0 x1=cd at *;generalize Tp.pick x2 20=p2 at *;generalize Tp.pick x3 20=p3 at *;generalize Tp.pick x4 10=p4 at *;have hb:=bNew (au w (.cells #[.int .i64 x0,.int .i64 x1,.int .i64 x2,.int .i64 x3,.int .i64 x4] 22)) (.cells #[.int .i64 0,.int .i64 0,.int .i64 0,.int .i64 0,.int .i64 0] 31);have BX:=(Bx.mk w 22 #[.int .i64 x0,.int .i64 x1,.int .i64 x2,.int .i64 x3,.int .i64 x4]).new (.cells #[.int .i64 0,.int .i64 0,.int .i64 0,.int .i64 0,.int .i64 0] 31);have Q:=Bx.mk (w.alloc (.cells #[.int .i64 x0,.int .i64 x1,.int .i64 x2,.int .i64 x3,.int .i64 x4] 22)) 31 #[.int .i64 0,.int .i64 0,.int .i64 0,.int .i64 0,.int .i64 0];rw [ah]at Q
 go_enter Tryz.func12,Tryz.ntmps12
 go_upto_region 1 with fail;have Zb:=Q.lt;generalize (w.alloc (.cells #[.int .i64 x0,.int .i64 x1,.int .i64 x2,.int .i64 x3,.int .i64 x4] 22)).alloc (.cells #[.int .i64 0,.int .i64 0,.int .i64 0,.int .i64 0,.int .i64 0] 31)=W0 at *;refine RS.aA (RS.jD (W0.heap.size) 31 #[.int .i64 0,.int .i64 0,.int .i64 0,.int .i64 0,.int .i64 0] #[.int .i64 cn,.int .i64 cd,.int .i64 (1+p2),.int .i64 (1+p3),.int .i64 p4]) [(19,18)] [RS.ak (.pointer (some ⟨w.heap.size,0,none⟩)),RS.ak (.int .i64 x0),RS.ak (.pointer (some ⟨w.heap.size,1,none⟩)),RS.ak (.int .i64 x1),RS.ak (.agg #[.int .i64 x0,.int .i64 x1]),RS.ak (.agg #[.int .i64 cn,.int .i64 cd]),RS.ak (.pointer (some ⟨w.heap.size,2,none⟩)),RS.ak (.int .i64 x2),RS.ak (.int .i64 p2),RS.ak (.int .i64 (1+p2)),RS.ak (.pointer (some ⟨w.heap.size,3,none⟩)),RS.ak (.int .i64 x3),RS.ak (.int .i64 p3),RS.ak (.int .i64 (1+p3)),RS.ak (.pointer (some ⟨w.heap.size,4,none⟩)),RS.ak (.int .i64 x4),RS.ak (.int .i64 p4),RS.ak (.agg #[.int .i64 cn,.int .i64 cd,.int .i64 (1+p2),.int .i64 (1+p3),.int .i64 p4]),RS.vW (W0.heap.size) 31 #[.int .i64 0,.int .i64 0,.int .i64 0,.int .i64 0,.int .i64 0] #[.int .i64 cn,.int .i64 cd,.int .i64 (1+p2),.int .i64 (1+p3),.int .i64 p4],RS.vT (W0.heap.size) 31 #[.int .i64 cn,.int .i64 cd,.int .i64 (1+p2),.int .i64 (1+p3),.int .i64 p4]] 20 29 (by kernel_rfl) rfl rfl (by kernel_rfl) (by kernel_rfl) ?_ ?_ ?_
 · simp only[RS.bV]
   and_intros <;> first|exact RS.aF _|exact RS.iM|exact RS.iL|trivial
 · simp only[RS.bG,List.take,List.length];refine ⟨?_,?_,?_,?_,?_,?_,?_,?_,?_,?_,?_,?_,?_,?_,?_,?_,?_,?_,?_,?_,trivial⟩;all_goals (intro vs w2 hb2 hd;simp only[RS.aQ,Act.put,List.nil_append,List.cons_append,List.setIfInBounds_toArray,List.set_cons_succ,List.set_cons_zero,Nat.reduceAdd])
   · clear hd;go_wp2;first|exact⟨.rf ..,rfl⟩|simp[RS.ak,RS.KZ.rf]
   · have e0:vs 0=_:=hd 0 rfl;have q0:=(BX.below hb2.bl BX.lt).cell 0 rfl;clear hd;rw [e0];go_wp2;first|exact⟨.rf ..,rfl⟩|simp[RS.ak,RS.KZ.rf]
   · clear hd;go_wp2;first|exact⟨.rf ..,rfl⟩|simp[RS.ak,RS.KZ.rf]
   · have e0:vs 2=_:=hd 2 rfl;have q1:=(BX.below hb2.bl BX.lt).cell 1 rfl;clear hd;rw [e0];go_wp2;first|exact⟨.rf ..,rfl⟩|simp[RS.ak,RS.KZ.rf]
   · have e0:vs 1=_:=hd 1 rfl;have e1:vs 3=_:=hd 3 rfl;clear hd;rw [e0,e1];go_wp2;first|exact⟨.rf ..,rfl⟩|simp[RS.ak,RS.KZ.rf]
   · have e0:vs 4=_:=hd 4 rfl;have hC:=hCh w2;clear hd;rw [e0];go_wp2_with fail;refine hC.mono ?_;rintro _ w9 ⟨rfl,aY⟩;clear hC;have hK9:=hb2.call (Nat.le_refl _) aY;go_wp2;first|exact⟨hK9,rfl⟩|exact hK9|rfl
   · clear hd;go_wp2;first|exact⟨.rf ..,rfl⟩|simp[RS.ak,RS.KZ.rf]
   · have e0:vs 6=_:=hd 6 rfl;have q2:=(BX.below hb2.bl BX.lt).cell 2 rfl;clear hd;rw [e0];go_wp2;first|exact⟨.rf ..,rfl⟩|simp[RS.ak,RS.KZ.rf]
   · have e0:vs 7=_:=hd 7 rfl;have hC:=hP2 w2;clear hd;rw [e0];go_wp2_with fail;refine hC.mono ?_;rintro _ w9 ⟨rfl,aY⟩;clear hC;have hK9:=hb2.call (Nat.le_refl _) aY;go_wp2;first|exact⟨hK9,rfl⟩|exact hK9|rfl
   · have e0:vs 8=_:=hd 8 rfl;clear hd;rw [e0];go_wp2;first|exact⟨.rf ..,rfl⟩|simp[RS.ak,RS.KZ.rf]
   · clear hd;go_wp2;first|exact⟨.rf ..,rfl⟩|simp[RS.ak,RS.KZ.rf]
   · have e0:vs 10=_:=hd 10 rfl;have q3:=(BX.below hb2.bl BX.lt).cell 3 rfl;clear hd;rw [e0];go_wp2;first|exact⟨.rf ..,rfl⟩|simp[RS.ak,RS.KZ.rf]
   · have e0:vs 11=_:=hd 11 rfl;have hC:=hP3 w2;clear hd;rw [e0];go_wp2_with fail;refine hC.mono ?_;rintro _ w9 ⟨rfl,aY⟩;clear hC;have hK9:=hb2.call (Nat.le_refl _) aY;go_wp2;first|exact⟨hK9,rfl⟩|exact hK9|rfl
   · have e0:vs 12=_:=hd 12 rfl;clear hd;rw [e0];go_wp2;first|exact⟨.rf ..,rfl⟩|simp[RS.ak,RS.KZ.rf]
   · clear hd;go_wp2;first|exact⟨.rf ..,rfl⟩|simp[RS.ak,RS.KZ.rf]
   · have e0:vs 14=_:=hd 14 rfl;have q4:=(BX.below hb2.bl BX.lt).cell 4 rfl;clear hd;rw [e0];go_wp2;first|exact⟨.rf ..,rfl⟩|simp[RS.ak,RS.KZ.rf]
   · have e0:vs 15=_:=hd 15 rfl;have hC:=hP4 w2;clear hd;rw [e0];go_wp2_with fail;refine hC.mono ?_;rintro _ w9 ⟨rfl,aY⟩;clear hC;have hK9:=hb2.call (Nat.le_refl _) aY;go_wp2;first|exact⟨hK9,rfl⟩|exact hK9|rfl
   · have e0:vs 5=_:=hd 5 rfl;have e1:vs 9=_:=hd 9 rfl;have e2:vs 13=_:=hd 13 rfl;have e3:vs 16=_:=hd 16 rfl;clear hd;rw [e0,e1,e2,e3];go_wp2;first|exact⟨.rf ..,rfl⟩|simp[RS.ak,RS.KZ.rf]
   · have hK:=RS.KZ.new hb2 (Nat.le_refl _) undef;clear hd hb2;go_wp2;first|exact hK|exact hK.2|exact⟨hK.1,hK.2⟩
   · have e0:vs 17=_:=hd 17 rfl;obtain⟨g,eg,hg,hBg⟩:=hd 18 rfl;change vs 18=_ at eg;clear hd hb2
     rcases hBg with hBg|hBg
     · have hK:=RS.KZ.stores (B:=W0.heap.size) (t:=31) (z:=#[.int .i64 0,.int .i64 0,.int .i64 0,.int .i64 0,.int .i64 0]) (cs:=#[.int .i64 cn,.int .i64 cd,.int .i64 (1+p2),.int .i64 (1+p3),.int .i64 p4]) (w:=w2) (L:=[.int .i64 cn,.int .i64 cd,.int .i64 (1+p2),.int .i64 (1+p3),.int .i64 p4]) rfl rfl hg (.inl hBg) (vs 18) undef eg;obtain ⟨q0,q1,q2,q3,q4⟩:=hBg.p5;have f0:=fun i=>hBg.frozen i
       rw[eg,e0];clear hBg;go_wp2;first|exact hK|exact hK.2|exact⟨hK.1,g,eg,hK.2.2⟩
     · have hK:=RS.KZ.stores (B:=W0.heap.size) (t:=31) (z:=#[.int .i64 0,.int .i64 0,.int .i64 0,.int .i64 0,.int .i64 0]) (cs:=#[.int .i64 cn,.int .i64 cd,.int .i64 (1+p2),.int .i64 (1+p3),.int .i64 p4]) (w:=w2) (L:=[.int .i64 cn,.int .i64 cd,.int .i64 (1+p2),.int .i64 (1+p3),.int .i64 p4]) rfl rfl hg (.inr hBg) (vs 18) undef eg;obtain ⟨q0,q1,q2,q3,q4⟩:=hBg.p5;have f0:=fun i=>hBg.frozen i
       rw[eg,e0];clear hBg;go_wp2;first|exact hK|exact hK.2|exact⟨hK.1,g,eg,hK.2.2⟩
 · intro vs wa hba hR2;simp only[RS.cZ,RS.ak]at hR2;obtain ⟨e0,e1,e2,e3,e4,e5,e6,e7,e8,e9,e10,e11,e12,e13,e14,e15,e16,e17,e18,e19,-⟩:=hR2;obtain ⟨gm,YN,hgm,M⟩:=e19;change vs 18=_ at YN;clear e18;simp only[List.drop,List.take,List.map,RS.aQ,Act.put,List.setIfInBounds_toArray,List.set_cons_succ,List.set_cons_zero,Nat.reduceAdd];rw [e0,e1,e2,e3,e4,e5,e6,e7,e8,e9,e10,e11,e12,e13,e14,e15,e16,e17,YN];clear e0 e1 e2 e3 e4 e5 e6 e7 e8 e9 e10 e11 e12 e13 e14 e15 e16 e17 YN;have hb1:=hba.bl;replace Q:=Q.call hb1;replace hb:=aj hb hb1;have hgm2:w.heap.size+1<gm:=Nat.lt_of_lt_of_le Zb hgm;clear hba hb1 hCh hP2 hP3 hP4 BX;obtain ⟨m0,m1,m2,m3,m4⟩:=M.p5;have n0:=M.frozen 0;obtain ⟨q0,q1,q2,q3,q4⟩:=Q.p5;have f0:=fun i=>Q.frozen i
   by_cases hc:cn=0
   · subst hc;obtain rfl:r=⟨1,cd,1+p2,1+p3,p4⟩:=hr2.out;have M2:=M.set 0 (.int .i64 1);have Q2:=Q.far (p:=⟨gm,0,none⟩) (by show w.heap.size+1≠gm;omega) (.int .i64 1);have hb2:=aJ hb (p:=⟨gm,0,none⟩) (by show w.heap.size<=gm;omega) (.int .i64 1);go_wp2;exact bodyPost_ret (tJ rfl _ _ rfl (((((Q2.set 0 (.int .i64 1)).set 1 (.int .i64 cd)).set 2 (.int .i64 (1+p2))).set 3 (.int .i64 (1+p3))).set 4 (.int .i64 p4))) rfl ⟨rfl,(aJ (aJ (aJ (aJ (aJ hb2 (p:=⟨w.heap.size+1,0,none⟩) (Nat.le_succ _) (.int .i64 1)) (p:=⟨w.heap.size+1,1,none⟩) (Nat.le_succ _) (.int .i64 cd)) (p:=⟨w.heap.size+1,2,none⟩) (Nat.le_succ _) (.int .i64 (1+p2))) (p:=⟨w.heap.size+1,3,none⟩) (Nat.le_succ _) (.int .i64 (1+p3))) (p:=⟨w.heap.size+1,4,none⟩) (Nat.le_succ _) (.int .i64 p4))⟩
   · have hc2:(cn==0)=false:=by simpa using hc
     obtain rfl:r=⟨cn,cd,1+p2,1+p3,p4⟩:=by rw[hr2.out,if_neg hc]
     go_wp2;exact bodyPost_ret (tJ rfl _ _ rfl (((((Q.set 0 (.int .i64 cn)).set 1 (.int .i64 cd)).set 2 (.int .i64 (1+p2))).set 3 (.int .i64 (1+p3))).set 4 (.int .i64 p4))) rfl ⟨rfl,(aJ (aJ (aJ (aJ (aJ hb (p:=⟨w.heap.size+1,0,none⟩) (Nat.le_succ _) (.int .i64 cn)) (p:=⟨w.heap.size+1,1,none⟩) (Nat.le_succ _) (.int .i64 cd)) (p:=⟨w.heap.size+1,2,none⟩) (Nat.le_succ _) (.int .i64 (1+p2))) (p:=⟨w.heap.size+1,3,none⟩) (Nat.le_succ _) (.int .i64 (1+p3))) (p:=⟨w.heap.size+1,4,none⟩) (Nat.le_succ _) (.int .i64 p4))⟩
end Go.Proofs.YtelljijajgiabaaGreatDoor
namespace Go.Proofs.YtelljijajgiabaaGreatDoor.RS
open Go.RowKit
variable {t:TypeId} {z cs:Array Value}
def BoZ (g:Nat) (t:TypeId) (cs:Array Value):Rl:=fun _ _ w=>Bx w g t cs
theorem uM {g:Nat}:eP (KZ g t z cs) (BoZ g t cs):=fun x v w w' h hK=>hK.keep (Nat.le_refl _) h
def Or2 (a b:Value):Rl:=fun _ v _=>v=a∨v=b
theorem Po {K:World->World->Prop} {a b:Value}:eP K (Or2 a b):=fun x v w w' h _=>h
end Go.Proofs.YtelljijajgiabaaGreatDoor.RS
namespace Go.Proofs.YtelljijajgiabaaGreatDoor
def Ue (y:Tf.X4):List Value:=[.int .i64 y.a,.int .i64 y.b,.int .i64 y.c,.int .i64 y.d]
def VU (y:Tf.X6):List Value:=[.int .i64 y.a,.int .i64 y.b,.int .i64 y.c,.int .i64 y.d,.int .i64 y.e,.int .i64 y.f]
open Go.ChangeShapes Go.WideShapes Go.ChangeAt Go.RowKit
section
variable {H:Type} {enc:TypeId × Value->H} {P:Program} {W:World} {sp:Nat->Bool} {held:Bool}
theorem qX {α:Type} {Q:Nat->α->Prop}:∀n,(∀i,i<n->∃c,Q i c)->∃x:List α,x.length=n/\∀i c,x[i]? = some c->Q i c
 | 0,_=>⟨[],rfl,fun i c h=>by simp at h⟩
 | n+1,h=>by
  obtain⟨x,hl,hx⟩:=qX n fun i hi=>h i (by omega)
  obtain⟨c,hc⟩:=h n (by omega);refine ⟨x++[c],by simp[hl],fun i d hi=>?_⟩
  rcases Nat.lt_or_ge i x.length with h1|h1
  · rw[List.getElem?_append_left h1]at hi;exact hx i d hi
  · rw[List.getElem?_append_right h1]at hi
    have h2:i-x.length=0:=by
     rcases Nat.eq_zero_or_pos (i-x.length) with h3|h3
     · exact h3
     · rw[List.getElem?_eq_none (by simp;omega)]at hi;cases hi
    rw[h2]at hi;simp only[List.getElem?_cons_zero,Option.some.injEq]at hi;subst hi;rw [show i=n by omega];exact hc
theorem open_arr {n:Nat} {t e:TypeId} (ht:P.underlying t=some (.array n e)) (he:P.underlying e=some (.int .i64)) (ce:P.cellsOf e=1) (ct:P.cellsOf t=n) {fuel:Nat} {cs:List Value} {y:DataW H × List MemPlace}
 (h:DataW.trod enc P W 0 sp held fuel t cs=some y):∃zs:List Int,cs=zs.map (Value.int .i64)/\zs.length=n/\∀z∈zs,(Lit.int .i64 z).wf=true:=by
 obtain⟨xs,m,_,_,hl,hxl,hel⟩:=DataW.trod_array ht h;rw [ct]at hl
 obtain⟨zs,hz,hzz⟩:=qX (Q:=fun i z=>cs[i]? = some (Value.int .i64 z)/\(Lit.int .i64 z).wf=true) n fun i hi=>by
  have h1:=hel i hi;rw [ce,Nat.mul_one,List.getElem?_eq_getElem (by omega)]at h1;obtain ⟨z,e1,_,e3⟩:=DataW.trod_int he h1;refine ⟨z,?_,e3⟩;have h0:((cs.drop i).take 1)[0]? = some (Value.int .i64 z):=by rw[e1];rfl
  simpa using h0
 refine⟨zs,?_,hz,fun z hm=>?_⟩
 · apply List.ext_getElem?
   intro i;rw [List.getElem?_map]
   cases hi:zs[i]? with
   | none =>
    rw[List.getElem?_eq_none_iff]at hi;rw [List.getElem?_eq_none (by omega)];rfl
   | some z=>exact (hzz i z hi).1
 · obtain⟨i,hi⟩:=List.mem_iff_getElem?.1 hm;exact (hzz i z hi).2
theorem Ef {α:Type} {t e:TypeId} (size:Nat) (f:α->List Value) (Q:α->Prop) (ht:P.underlying t=some (.slice e)) (hce:P.cellsOf e=size) (hpos:0<size) (hsz:∀c,(f c).length=size)
 (hel:∀n cs y,DataW.trod enc P W 0 sp held n e cs=some y->∃c,cs=f c/\Q c) {r:Reach} {b0:Nat} {v:Value} {d:DataW H} {ps:List MemPlace} (hval:Value.okWide P W r b0 t v) (hd:DataW.Trod enc P W 0 sp held t v d ps) :
 ∃(A:Option Addr) (x:List α) (cap:Nat),v=.slice A x.length cap/\At size f W W.heap.size A x/\x.length<=cap/\cap<=maxLen/\∀c∈x,Q c:=by
 obtain⟨a0,len,cap,rfl⟩:=okWide_slice ht hval;obtain ⟨fuel,hf⟩:=hd
 rcases Go.Deep.open_slice ht hf with ⟨hcs,_⟩|⟨a,len',cap',m,n,D,Pl,hcs,hb,hl,hm,hmm,hx,hel2⟩
 · simp[Value.cells]at hcs
   obtain⟨rfl,rfl,rfl⟩:=hcs;exact ⟨none,[],0,rfl,At.nil,Nat.le_refl _,Nat.zero_le _,fun c h=>by cases h⟩
 · simp[Value.cells]at hcs
   obtain⟨rfl,rfl,rfl⟩:=hcs;have hlm:len<=m:=by rw[hmm];split <;> omega
   obtain⟨x,hxl,hxx⟩:=qX (Q:=fun i c=>W.cells? 0 (a.add (i*size)) size=some (f c)/\Q c) len fun i hi=>by
    obtain⟨cs',h1,h2⟩:=hel2 i (by omega);obtain ⟨c,rfl,hq⟩:=hel _ _ _ h2;rw [hce]at h1;exact ⟨c,h1,hq⟩
   refine⟨some a,x,cap,by rw[hxl],fun h0=>?_,by omega,hm,fun c hc=>?_⟩
   · have hcell:∀i c,x[i]? = some c->∀j u,(f c)[j]? = some u->W.cell? ((a.add (i*size)).add j)=some u:=fun i c hi j u hj=>by
      obtain⟨_,_,hc⟩:=World.cells?_some (hxx i c hi).1;have hjl:j<size:=by rw[←hsz c];exact (List.getElem?_eq_some_iff.1 hj).1
      rw[hc j hjl];exact hj
     have h00:0<(f x[0]).length:=by rw[hsz];exact hpos
     have h1:=hcell 0 x[0] (List.getElem?_eq_getElem h0) 0 _ (List.getElem?_eq_getElem h00)
     have hs:a.spot=none:=by
      cases hsp:a.spot with
      | none=>rfl
      | some k =>
       unfold World.cell? at h1
       split at h1
       · simp[Addr.add,hsp]at h1
       · cases h1
     obtain⟨b,off,spt⟩:=a;simp only at hs;subst hs
     have ha:∀o n:Nat,(⟨b,o,none⟩:Addr).add n=⟨b,o+n,none⟩:=by
      intro o n
      unfold Addr.add
      split
      · next h=>subst h;rfl
      · rfl
     refine⟨b,off,rfl,?_,fun i c hi j u hj=>?_⟩
     · have h2:=World.block_lt_of_cell? _ _ h1
       rwa [ha,ha]at h2
     · have:=hcell i c hi j u hj
       rwa [ha,ha]at this
   · obtain⟨i,hi⟩:=List.mem_iff_getElem?.1 hc;exact (hxx i c hi).2
theorem Gw {n:Nat} {t e:TypeId} (ht:P.underlying t=some (.array n e)) (he:P.underlying e=some (.int .i64)) (ce:P.cellsOf e=1) (ct:P.cellsOf t=n) {r:Reach} {b0:Nat} {v:Value} {d:DataW H} {ps:List MemPlace}
 (hval:Value.okWide P W r b0 t v) (hd:DataW.Trod enc P W 0 sp held t v d ps):∃zs:List Int,v=.agg (zs.map (Value.int .i64)).toArray/\zs.length=n/\∀z∈zs,(Lit.int .i64 z).wf=true:=by
 unfold Value.okWide at hval
 rw[ht]at hval;obtain ⟨cs,rfl,_,_⟩:=hval;obtain ⟨fuel,hf⟩:=hd;obtain ⟨zs,h1,h2,h3⟩:=open_arr ht he ce ct hf;refine ⟨zs,?_,h2,h3⟩;have:cs.toList=zs.map (Value.int .i64):=h1;rw [←this]
theorem uH (hl:laidOutB P=true) {W':World} (hb:Below W.heap.size W W'):∀ {ts:List TypeId} {vs:List Value} {ds:List (DataW H)} {ps:List MemPlace},(∀t∈ts,P.readableRec t=true/\t<P.types.size) ->
 DataW.TrodAll enc P W 0 (fun _=>true) true ts vs ds ps->(∀x∈ps,x.block<W.heap.size)->DataW.TrodAll enc P W' 0 (fun b=>decide (b<W.heap.size)) true ts vs ds ps
 | [],_,_,_,_,h,_=>by
  obtain⟨rfl,rfl,rfl⟩:=trodAll_nil h;rfl
 | t :: ts,vs,ds,ps,ht,h,hlt=>by
  obtain⟨v,vs',d,ds',p,q,rfl,rfl,rfl,hd,hrest⟩:=trodAll_cons h;have h1:=ht t (by simp);exact ⟨p,q,Below.trod hl h1.1 h1.2 hd hb (fun x hx=>hlt x (List.mem_append_left _ hx)),uH hl hb (fun u hu=>ht u (by simp[hu])) hrest (fun x hx=>hlt x (List.mem_append_right _ hx)),rfl⟩
end
set_option linter.constructorNameAsVariable false
theorem own:ownKnob Tryz.prog.godebug=none:=by kernel_rfl
theorem laidOut:laidOutB Tryz.prog=true:=by kernel_rfl
theorem d_ {z:Int} (h:(Lit.int .i64 z).wf=true):I64 z:=bounds_i64 h
theorem RU {W:World} (h:laidMetH Tryz.prog Rows.fraudVerdictsRow.laid W):Env W:=by
 rw[MakeChecks.laidMetH_plain _ _ _ (by kernel_rfl)]at h;have h3:=h.tail.tail;have e1:(Rows.laid_internal_strconv_uint64pow10:DataW Unit)=Lib.tabData .u64 Lib.pow10Tab:=by kernel_rfl
 simp only[e1]at h3;exact Lib.tabIs_of_head (g:=0) (t:=231) (e:=153) (n:=20) (by kernel_rfl) (by kernel_rfl) (by kernel_rfl) (by kernel_rfl) (by kernel_rfl) (by kernel_rfl) h3
theorem vw (os:Os) (args:Array Value):laidMetH Tryz.prog Rows.fraudVerdictsRow.laid ((World.laidAll Tryz.prog os Rows.fraudVerdictsRow.laid).forCall (fun _ _=>0) ⟨#[],args,[]⟩).memory:=by
 rw[MakeChecks.laidMetH_plain _ _ _ (by kernel_rfl)];exact laidMet_laidAll _ (by kernel_rfl) (by kernel_rfl)
theorem QB {zs:List Int} (h:zs.length=4):∃a b c d,zs=[a,b,c,d]:=by
 match zs,h with
 | [a,b,c,d],_=>exact⟨a,b,c,d,rfl⟩
theorem QC {zs:List Int} (h:zs.length=5):∃a b c d e,zs=[a,b,c,d,e]:=by
 match zs,h with
 | [a,b,c,d,e],_=>exact⟨a,b,c,d,e,rfl⟩
theorem Lc {zs:List Int} (h:zs.length=6):∃a b c d e f,zs=[a,b,c,d,e,f]:=by
 match zs,h with
 | [a,b,c,d,e,f],_=>exact⟨a,b,c,d,e,f,rfl⟩
theorem CY {H:Type} {enc:TypeId × Value->H} {W:World} {r:Reach} {b0:Nat} {v:Value} {d:DataW H} {ps:List MemPlace} (hval:Value.okWide Tryz.prog W r b0 22 v) (hd:DataW.Trod enc Tryz.prog W 0 (fun _=>true) true 22 v d ps) :
 ∃a b c d e,v=.agg #[.int .i64 a,.int .i64 b,.int .i64 c,.int .i64 d,.int .i64 e]/\I64 a/\I64 b/\I64 c/\I64 d/\I64 e:=by
 obtain⟨zs,rfl,hl,hw⟩:=Gw (P:=Tryz.prog) Tryz.underlying22 Tryz.underlying3 (by kernel_rfl) (by kernel_rfl) hval hd;obtain ⟨a,b,c,d,e,rfl⟩:=QC hl;exact ⟨a,b,c,d,e,rfl,d_ (hw a (by simp)),d_ (hw b (by simp)),d_ (hw c (by simp)),d_ (hw d (by simp)),d_ (hw e (by simp))⟩
theorem Qc {H:Type} {enc:TypeId × Value->H} {W:World} {r:Reach} {b0:Nat} {v:Value} {d:DataW H} {ps:List MemPlace} (hval:Value.okWide Tryz.prog W r b0 71 v) (hd:DataW.Trod enc Tryz.prog W 0 (fun _=>true) true 71 v d ps) :
 ∃a b c d e f,v=.agg #[.int .i64 a,.int .i64 b,.int .i64 c,.int .i64 d,.int .i64 e,.int .i64 f]/\I64 a/\I64 b/\I64 c/\I64 d/\I64 e/\I64 f:=by
 obtain⟨zs,rfl,hl,hw⟩:=Gw (P:=Tryz.prog) Tryz.underlying71 Tryz.underlying3 (by kernel_rfl) (by kernel_rfl) hval hd;obtain ⟨a,b,c,d,e,f,rfl⟩:=Lc hl;exact ⟨a,b,c,d,e,f,rfl,d_ (hw a (by simp)),d_ (hw b (by simp)),d_ (hw c (by simp)),d_ (hw d (by simp)),d_ (hw e (by simp)),d_ (hw f (by simp))⟩
theorem Gv {H:Type} {enc:TypeId × Value->H} {W:World} {r:Reach} {b0:Nat} {v:Value} {d:DataW H} {ps:List MemPlace} (hval:Value.okWide Tryz.prog W r b0 23 v) (hd:DataW.Trod enc Tryz.prog W 0 (fun _=>true) true 23 v d ps) :
 ∃(A:Option Addr) (x:List Tf.X4) (cap:Nat),v=.slice A x.length cap/\At 4 Ue W W.heap.size A x/\x.length<=cap/\cap<=maxLen/\∀c∈x,I64 c.a/\I64 c.b/\I64 c.c/\I64 c.d :=
 Ef (P := Tryz.prog) (e := 81) 4 Ue (fun c => I64 c.a ∧ I64 c.b ∧ I64 c.c ∧ I64 c.d) Tryz.underlying23 (by kernel_rfl) (by decide) (fun _ => rfl) (fun n cs y h => by
  obtain⟨zs,rfl,hl,hw⟩:=open_arr (P:=Tryz.prog) Tryz.underlying81 Tryz.underlying3 (by kernel_rfl) (by kernel_rfl) h;obtain ⟨a,b,c,d,rfl⟩:=QB hl
  exact⟨⟨a,b,c,d⟩,rfl,d_ (hw a (by simp)),d_ (hw b (by simp)),d_ (hw c (by simp)),d_ (hw d (by simp))⟩) hval hd
theorem Gu {H:Type} {enc:TypeId × Value->H} {W:World} {r:Reach} {b0:Nat} {v:Value} {d:DataW H} {ps:List MemPlace} (hval:Value.okWide Tryz.prog W r b0 24 v) (hd:DataW.Trod enc Tryz.prog W 0 (fun _=>true) true 24 v d ps) :
 ∃(A:Option Addr) (x:List Tf.X6) (cap:Nat),v=.slice A x.length cap/\At 6 VU W W.heap.size A x/\x.length<=cap/\cap<=maxLen/\∀c∈x,I64 c.a/\I64 c.b/\I64 c.c/\I64 c.d/\I64 c.e/\I64 c.f :=
 Ef (P := Tryz.prog) (e := 71) 6 VU (fun c => I64 c.a ∧ I64 c.b ∧ I64 c.c ∧ I64 c.d ∧ I64 c.e ∧ I64 c.f) Tryz.underlying24 (by kernel_rfl) (by decide) (fun _ => rfl) (fun n cs y h => by
  obtain⟨zs,rfl,hl,hw⟩:=open_arr (P:=Tryz.prog) Tryz.underlying71 Tryz.underlying3 (by kernel_rfl) (by kernel_rfl) h;obtain ⟨a,b,c,d,e,f,rfl⟩:=Lc hl
  exact⟨⟨a,b,c,d,e,f⟩,rfl,d_ (hw a (by simp)),d_ (hw b (by simp)),d_ (hw c (by simp)),d_ (hw d (by simp)),d_ (hw e (by simp)),d_ (hw f (by simp))⟩) hval hd
theorem KL {H:Type} {enc:TypeId × Value->H} {W:World} {ts:List TypeId} {vs:List Value} {ds:List (DataW H)} {ps:List MemPlace} (h9:(ts.all fun t=>Tryz.prog.readableRec t&&decide (t<Tryz.prog.types.size))=true) (hA:DataW.TrodAll enc Tryz.prog W 0 (fun _=>true) true ts vs ds ps)
 (hlt:∀x∈ps,x.block<W.heap.size) (W':World) (hb:Below W.heap.size W W'):DataW.TrodAll enc Tryz.prog W' 0 (fun b=>decide (b<W.heap.size)) true ts vs ds ps :=
 uH laidOut hb (fun t ht=>by simpa using List.all_eq_true.1 h9 t ht) hA hlt
theorem open_ints {H:Type} {enc:TypeId × Value->H} {W:World} {r:Reach} {b0:Nat} {v:Value} {d:DataW H} {ps:List MemPlace} (hval:Value.okWide Tryz.prog W r b0 25 v) (hd:DataW.Trod enc Tryz.prog W 0 (fun _=>true) true 25 v d ps) :
 ∃(A:Option Addr) (x:List Int) (cap:Nat),v=.slice A x.length cap/\At 1 aO W W.heap.size A x/\x.length<=cap/\cap<=maxLen/\∀c∈x,I64 c :=
 Ef (P := Tryz.prog) (e := 3) 1 aO (fun c => I64 c) Tryz.underlying25 (by kernel_rfl) (by decide) (fun _ => rfl) (fun n cs y h => by
  obtain⟨z,rfl,_,hw⟩:=DataW.trod_int Tryz.underlying3 h
  exact⟨z,rfl,d_ hw⟩) hval hd
end Go.Proofs.YtelljijajgiabaaGreatDoor
