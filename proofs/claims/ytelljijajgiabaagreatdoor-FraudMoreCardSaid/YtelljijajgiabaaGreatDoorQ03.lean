import Derived.Test.YtelljijajgiabaaGreatDoorQ02
import Derived.Laws.MakeOwn
import Derived.Laws.EntriesVeiled
import Derived.Deep.RegionWith
set_option linter.unusedVariables false
set_option linter.unusedSimpArgs false
set_option maxRecDepth 100000
set_option maxHeartbeats 8000000
namespace Go.Proofs.YtelljijajgiabaaGreatDoor
open Go.RowKit Go.Shelf
attribute [local go_sem] Oper.semAt_some
theorem uV {B n:Nat} {v:Value} {bs:List Value} {w w':World} (h:w.ownsRow B 5 1 v n bs) (hb:Below w.heap.size w w'):w'.ownsRow B 5 1 v n bs:=by
 refine⟨h.1,?_⟩
 rcases h.2 with h1|⟨g,cap,cur,h1,h2,h3,h4⟩
 · exact .inl h1
 · exact .inr ⟨g,cap,cur,h1,h2,(hb.block g (Array.getElem?_eq_some_iff.1 h3).1).trans h3,h4⟩
theorem Ir {B b:Nat} {p:Value} {bs:List Value} {w w':World} (h:Lib.BuilderAt 168 5 B b p bs w) (hb:Below w.heap.size w w'):Lib.BuilderAt 168 5 B b p bs w':=by
 have hlt:=h.lt;obtain ⟨h1,v,h2,h3,h4⟩:=h;exact ⟨h1,v,(hb.block b hlt).trans h2,uV h3 hb,h4⟩
theorem Aj {B b:Nat} {bs:List Value} {w w':World} (h:Lib.IsBuilder 168 5 B b bs w) (hb:Below w.heap.size w w'):Lib.IsBuilder 168 5 B b bs w' :=
 h.elim (fun h=>.inl (Ir h hb)) (fun h=>.inr (Ir h hb))
theorem P_ {B n:Nat} {v:Value} {bs:List Value} {W W':World} {row:Option Nat} (h:W.ownsRow B 5 1 v n bs) (hg:W.grownBy W' row) (hr:∀r,row=some r->∃o:Obj,W.heap[r]? = some o/\o.isCells=false):W'.ownsRow B 5 1 v n bs:=by
 refine⟨h.1,?_⟩
 rcases h.2 with h1|⟨g,cap,cur,h1,h2,h3,h4⟩
 · exact .inl h1
 · exact .inr ⟨g,cap,cur,h1,h2,fH (show Bx W g 5 cur from h3) hg hr,h4⟩
theorem Iq {B b:Nat} {p:Value} {bs:List Value} {W W':World} {row:Option Nat} (h:Lib.BuilderAt 168 5 B b p bs W) (hg:W.grownBy W' row) (hr:∀r,row=some r->∃o:Obj,W.heap[r]? = some o/\o.isCells=false):Lib.BuilderAt 168 5 B b p bs W':=by
 obtain⟨h1,v,h2,h3,h4⟩:=h;exact ⟨h1,v,fH (show Bx W b 168 #[p,v] from h2) hg hr,P_ h3 hg hr,h4⟩
theorem Tq {B b:Nat} {bs:List Value} {W W':World} {row:Option Nat} (h:Lib.IsBuilder 168 5 B b bs W) (hg:W.grownBy W' row) (hr:∀r,row=some r->∃o:Obj,W.heap[r]? = some o/\o.isCells=false):Lib.IsBuilder 168 5 B b bs W' :=
 h.elim (fun h=>.inl (Iq h hg hr)) (fun h=>.inr (Iq h hg hr))
theorem xQ {b:Nat} {W W':World} (h:Lib.OthersKept 5 (some b) W W') (hs:W.heap.size<=W'.heap.size) {B:Nat} (hB:b<B):KeepsFrom B W W':=⟨hs,fun k o hk ho hc=>h k o ho (by simp;omega) (fun c fz e=>by rw[e]at hc;cases hc)⟩
theorem CX {b g:Nat} {t:TypeId} {cs:Array Value} {W W':World} (h:Lib.OthersKept 5 (some b) W W') (hB:Bx W g t cs) (hg:g≠b) (ht:t≠5):Bx W' g t cs:=h g _ hB (by simp;omega) (fun c fz e=>by simp only[Obj.cells.injEq]at e;exact ht e.2.1)
def Ac (d:Nat):Nat:=(Lib.decDigits d).length
theorem PS (k:Nat):Lib.repeatL [48] k=List.replicate k 48:=by
 induction k with
 | zero=>rfl
 | succ k ih=>rw[List.replicate_succ,←ih];simp[Lib.repeatL,List.replicate_succ]
structure Mc (w:World) (neg:Bool) (v:Value) (l:List Int) (pre:List (Fin l.length)) (W:World):Prop where
 hb:Below w.heap.size w W
 le:w.heap.size+3<=W.heap.size
 B1:Bx W w.heap.size 129 #[.bool neg,v]
 Bb:Lib.IsBuilder 168 5 (w.heap.size+1) (w.heap.size+1) (Lib.byteCells (txt l pre)) W
 B3:Bx W (w.heap.size+1+1) 127 #[v]
theorem Mc.kept {w W W':World} {neg:Bool} {v:Value} {l:List Int} {pre:List (Fin l.length)} {row:Option Nat} (h:Mc w neg v l pre W) (hg:W.grownBy W' row) (hr:∀r,row=some r->w.heap.size<=r/\∃o:Obj,W.heap[r]? = some o/\o.isCells=false):Mc w neg v l pre W' :=
 ⟨h.hb.grown hg h.hb.size (fun k e=>(hr k e).1),Nat.le_trans h.le hg.size,fH h.B1 hg (fun r e=>(hr r e).2),Tq h.Bb hg (fun r e=>(hr r e).2),fH h.B3 hg (fun r e=>(hr r e).2)⟩
theorem MJ (neg:Bool) (A1:Option Addr) (c1:Nat) (w:World) :
 aW 102 #[.agg #[.bool neg,.slice A1 0 c1]] w (.tuple #[.string ⟨#[48]⟩,.int .i64 0]):=by
 have hb:=au w (.cells #[.bool neg,.slice A1 0 c1] 129)
 go_enter Tryz.func102,Tryz.ntmps102
 go_wp2
 go_ret2
 exact⟨rfl,hb⟩
theorem O8 (neg:Bool) (a:Nat) (A1:Option Addr) (c1:Nat) (w:World) (hA1:At 1 aO w w.heap.size A1 (Ig.grp a)) (hn1:(Ig.grp a).length<=c1) (h0:a≠0) (la:(Ig.grp a).length<=50000) (hE:Env w) (r:List UInt8) (k:Int)
 (hr1:Lib.nDigits a<=200->Kp (r=(if neg then 45 :: Lib.decDigits a else Lib.decDigits a)/\k=0)) (hr2:¬Lib.nDigits a<=200->Kp (r=[]/\k=30)) :
 aW 102 #[.agg #[.bool neg,.slice A1 (Ig.grp a).length c1]] w (.tuple #[.string ⟨r.toArray⟩,.int .i64 k]):=by
 have hl0:(Ig.grp a).length≠0:=fun e=>h0 (Ig.jh.1 e)
 have t0:decide (((Ig.grp a).length:Int)=0)=false:=decide_eq_false (by omega);have t1:(((Ig.grp a).length:Int)==0)=false:=beq_eq_false_iff_ne.2 (by omega);refine (callsIn_wide (n:=3)).1 ?_;refine callsIn_of_wp_marks Tryz.func102 rfl trivial ?_ rfl;simp only[Tryz.ntmps102,List.size_toArray,List.length_cons,List.length_nil,Nat.reduceAdd,Nat.reduceSub,Array.replicate_succ,Array.replicate_zero,List.push_toArray,List.append_toArray,List.nil_append,List.cons_append]
 gi_wp2_with (refine ⟨trivial,?_⟩;gi_at_call 137;refine (yR Fence.wide 2 trivial rfl _ _ _ _).mono ?_;rintro e w' ⟨rfl,rfl⟩)
 have hb0:=bNew (bNew (au w (.cells #[.bool neg,.slice A1 (Ig.grp a).length c1] 129)) (.cells #[.pointer none,.slice none 0 0] 168)) (.cells #[.slice A1 (Ig.grp a).length c1] 127);have B1:=((Bx.mk w 129 #[.bool neg,.slice A1 (Ig.grp a).length c1]).new (.cells #[.pointer none,.slice none 0 0] 168)).new (.cells #[.slice A1 (Ig.grp a).length c1] 127);have Bb:=Aj (Lib.fresh_isBuilder 168 5 (w.alloc (.cells #[.bool neg,.slice A1 (Ig.grp a).length c1] 129))) (au _ (.cells #[.slice A1 (Ig.grp a).length c1] 127));have B7:=Bx.mk ((w.alloc (.cells #[.bool neg,.slice A1 (Ig.grp a).length c1] 129)).alloc (.cells #[.pointer none,.slice none 0 0] 168)) 127 #[.slice A1 (Ig.grp a).length c1];have hsz:(((w.alloc (.cells #[.bool neg,.slice A1 (Ig.grp a).length c1] 129)).alloc (.cells #[.pointer none,.slice none 0 0] 168)).alloc (.cells #[.slice A1 (Ig.grp a).length c1] 127)).heap.size=w.heap.size+3:=by rw[ah,ah,ah]
 rw[ah]at Bb;rw [ah,ah]at B7;generalize (((w.alloc (.cells #[.bool neg,.slice A1 (Ig.grp a).length c1] 129)).alloc (.cells #[.pointer none,.slice none 0 0] 168)).alloc (.cells #[.slice A1 (Ig.grp a).length c1] 127))=W0 at *
 refine wpIn_rangeFunc_ownG rfl (by decide) (gf:=180) (lb:=#[.pointer (some ⟨w.heap.size+1+1,0,none⟩)]) rfl trivial (enters_of Tryz.func180 (by kernel_rfl) rfl)
  (pV Fence.wide 2 trivial rfl (by decide) (w.heap.size+1+1) w.heap.size A1 c1 (Ig.grp a) (by omega) W0 (by omega) (by omega) (B7.cell 0 rfl) (hA1.below hb0)) vY.trans (Ll (by omega) (by omega)) (Below.refl _ _) (fun _=>rfl)
  (fun pre W=>Mc w neg (.slice A1 (Ig.grp a).length c1) (Ig.grp a) pre W) (fun _ _ _=>False)
  (fun pre W W' row hs hg hr=>hs.kept hg (fun r e=>⟨by have:=(hr r e).1;omega,(hr r e).2⟩))
  (fun _ _ _ _ _ hs _ _=>hs)
  ⟨hb0,by omega,B1,Bb,B7⟩
  (fun x=>{ tmps:=#[.agg #[.bool neg,.slice A1 (Ig.grp a).length c1],.pointer (some ⟨w.heap.size,0,none⟩),.string ⟨#[]⟩,.int .i64 0,.pointer (some ⟨w.heap.size+1,0,none⟩),.int .i64 (x.1:Int),.int .i64 (Ig.grp a)[x.1],undef,undef,.pointer (some ⟨w.heap.size,1,none⟩),.slice A1 (Ig.grp a).length c1,.int .i64 ((Ig.grp a).length:Int),.bool false,.pointer (some ⟨w.heap.size,1,none⟩),.slice A1 (Ig.grp a).length c1,
   .func (.func 180) #[] #[.pointer (some ⟨w.heap.size+1+1,0,none⟩)],.int .i64 (x.1:Int),.int .i64 (Ig.grp a)[x.1],undef,undef,undef,undef,undef,undef,undef,undef,undef,undef,undef,undef,undef,undef,undef,undef,undef,undef,undef,undef,undef,undef,undef,undef,undef],defers:=[] }) ?assign ?body ?done ?stop
 case assign =>
  intro l x W K hK;simp only[handed]
  gi_wp2
  exact hK
 case body =>
  rintro l pre x W ⟨hb,hle,B1,Bb,B3⟩ hlt;have hgx:=Ig.dn a (Ig.grp a)[x.1] (List.getElem_mem x.2);obtain ⟨d,hd⟩:=Int.eq_ofNat_of_zero_le hgx.1;have hd9:d<10000:=by omega
  have hsn:=yT (Ig.grp a) pre x;have htl:=Uk (Ig.dn a) pre;rw [hd,Int.toNat_natCast]at hsn;have hit:Lib.itoa (d:Int)=Lib.decDigits d:=by rw[Ig.itoa_nonneg (by omega),Int.natAbs_natCast]
  have hI:=IK (d:Int) W (by omega) (by omega) (hE.below hb);rw [hit]at hI;have hdl:=Ig.jC d;have hd4:=Ig.nd4 hd9;simp only[hd];clear hgx hd hit;have hc1:=fun w1 (hb1:Below W.heap.size W w1)=>(B1.call hb1).cell 1 rfl
  by_cases hx:x.1+1<(Ig.grp a).length
  · have t2:decide ((x.1:Int)<((Ig.grp a).length:Int)-1)=true:=by simp;omega
    have hR:=fun w1=>Kt [48] (4-(Ac d:Int)) w1 (by unfold Ac;omega) (by unfold Ac;omega) (by decide)
    have Yd:Lib.repeatL [48] (4-(Ac d:Int)).toNat++Lib.decDigits d=Ig.four d:=by
     rw[←Ig.P8 hd9,PS]
     unfold Ac
     rw[hdl,show (4-((Lib.nDigits d:Nat):Int)).toNat=4-Lib.nDigits d by omega]
    rw[if_pos hx,←Yd]at hsn;have hlr:(Lib.repeatL [48] (4-(Ac d:Int)).toNat++Lib.decDigits d).length=4:=by rw[Yd];rfl
    have hs4:(Lib.decDigits d).length<=4:=by rw[hdl];exact hd4
    clear Yd hdl hd4
    unfold Ac at hR hlr hsn
    generalize Lib.decDigits d=s at *
    gi_wp2_with fail
    refine⟨trivial,((callsIn_wide.2 hI).inRound _).mono ?_⟩;rintro _ w1 ⟨rfl,hb1⟩;have c1':=hc1 w1 hb1;clear hc1 hI
    gi_wp2_with fail
    refine⟨trivial,((callsIn_wide.2 (hR _)).inRound _).mono ?_⟩;rintro _ w2 ⟨rfl,hb2⟩;have oC:=aj hb1 hb2;have hW:=qo (w.heap.size+1) (w.heap.size+1) _ (Lib.repeatL [48] (4-(s.length:Int)).toNat++s) w2 (Aj Bb oC) (by rw[Lib.byteCells_length,hlr];omega) (by have:=oC.size;omega);rw [←Lib.byteCells_append,←hsn]at hW;rw [List.length_append]at hlr;clear hR hsn;generalize Lib.repeatL [48] (4-(s.length:Int)).toNat=s2 at *;have hnl:¬ 9223372036854775807<s2.length+s.length:=by omega
    clear hlr
    gi_wp2_with fail
    refine⟨trivial,((callsIn_wide.2 hW).inRound _).mono ?_⟩;rintro _ w3 ⟨rfl,hb3,hb4,hk4⟩
    gi_wp2
    have hs3:=hb4.size;have hB1:=(B1.call oC).below hb4 (Nat.lt_succ_self _);have hB3:=CX hk4 (B3.call oC) (by omega) (by decide);have hb5:=(aj hb oC).trans (hb4.mono (Nat.le_succ _));exact ⟨(fF oC W0.heap.size).trans (xQ hk4 hs3 (by omega)),⟨(oC.mono (by omega)).trans (hb4.mono (Nat.le_succ _)),hB3.trans B3.symm⟩,hb5,Nat.le_trans hle (Nat.le_trans oC.size hs3),hB1,.inr hb3,hB3⟩
  · have t2:decide ((x.1:Int)<((Ig.grp a).length:Int)-1)=false:=by simp;omega
    rw[if_neg hx]at hsn;have hs4:(Lib.decDigits d).length<=4:=by rw[hdl];exact hd4
    clear hdl hd4;generalize Lib.decDigits d=s at *
    gi_wp2_with fail
    refine⟨trivial,((callsIn_wide.2 hI).inRound _).mono ?_⟩;rintro _ w2 ⟨rfl,oC⟩;have c1':=hc1 w2 oC;clear hc1 hI;have hW:=qo (w.heap.size+1) (w.heap.size+1) _ s w2 (Aj Bb oC) (by rw[Lib.byteCells_length];omega) (by have:=oC.size;omega);rw [←Lib.byteCells_append,←hsn]at hW
    gi_wp2_with fail
    refine⟨trivial,((callsIn_wide.2 hW).inRound _).mono ?_⟩;rintro _ w3 ⟨rfl,hb3,hb4,hk4⟩
    gi_wp2
    have hs3:=hb4.size;have hB1:=(B1.call oC).below hb4 (Nat.lt_succ_self _);have hB3:=CX hk4 (B3.call oC) (by omega) (by decide);have hb5:=(aj hb oC).trans (hb4.mono (Nat.le_succ _));exact ⟨(fF oC W0.heap.size).trans (xQ hk4 hs3 (by omega)),⟨(oC.mono (by omega)).trans (hb4.mono (Nat.le_succ _)),hB3.trans B3.symm⟩,hb5,Nat.le_trans hle (Nat.le_trans oC.size hs3),hB1,.inr hb3,hB3⟩
 case done =>
  rintro D ys W hD rfl ⟨hb,hle,B1,Bb,B3⟩ hK;rw [Ul h0]at Bb;have hS:=IQ _ _ _ _ Bb (Ig.Aa a);have hdl:=Ig.jC a;have c0:=fun w1 (hb1:Below (w.heap.size+1) W w1)=>(B1.below hb1 (Nat.lt_succ_self _)).cell 0 rfl
  have hKk:∀w1,Lib.OthersKept 5 (some (w.heap.size+1)) W w1->w1.heap[D]? = some (.deferred (some [])):=fun w1 h1=>h1 D _ hK (by simp;omega) (fun c fz e=>by cases e)
  have hDw:w.heap.size<=D:=by omega
  clear B1 Bb B3 hK hD;by_cases hnd:Lib.nDigits a<=200
  · have hfin:=hr1 hnd;have t3:decide (((Lib.decDigits a).length:Int) > 200)=false:=decide_eq_false (by rw[hdl];omega);have hnl:¬ 9223372036854775807<(Lib.decDigits a).length:=by rw[hdl];omega
    have hnl2:¬ 9223372036854775807<1+(Lib.decDigits a).length:=by rw[hdl];omega
    clear hdl;generalize Lib.decDigits a=s at *
    gi_wp2_with fail
    refine⟨trivial,(callsIn_wide.2 hS).mono ?_⟩;rintro _ w1 ⟨rfl,hb1,hk1⟩;have hK:=hKk w1 hk1;have c1':=c0 w1 hb1;have hb2:=hb.trans (hb1.mono (Nat.le_succ _));clear hS hKk c0 hk1 hb1 hb;have hg:=grownBy_putObj' w1 D (.deferred none);have hbf:Below w.heap.size w (w1.putObj D (.deferred none)):=hb2.trans (belowK_b (w:=w) (Nat.le_refl _) w1 D _ _ hDw hK rfl rfl);cases neg
    · gi_wp2
      refine⟨by simp,.inl ⟨_,_,rfl,run_takeDeferred hK,?_⟩⟩;exact ⟨_,results_tmp2 rfl _ _ _,by rw[hfin.out.1,hfin.out.2];rfl,hbf⟩
    · gi_wp2
      refine⟨by simp,.inl ⟨_,_,rfl,run_takeDeferred hK,?_⟩⟩;exact ⟨_,results_tmp2 rfl _ _ _,by rw[hfin.out.1,hfin.out.2];rfl,hbf⟩
  · have hfin:=hr2 hnd;have t3:decide (((Lib.decDigits a).length:Int) > 200)=true:=decide_eq_true (by rw[hdl];omega);clear hdl;generalize Lib.decDigits a=s at *
    gi_wp2_with fail
    refine⟨trivial,(callsIn_wide.2 hS).mono ?_⟩;rintro _ w1 ⟨rfl,hb1,hk1⟩;have hK:=hKk w1 hk1;have hb2:=hb.trans (hb1.mono (Nat.le_succ _));clear hS hKk c0 hk1 hb1 hb;have hbf:Below w.heap.size w (w1.putObj D (.deferred none)):=hb2.trans (belowK_b (w:=w) (Nat.le_refl _) w1 D _ _ hDw hK rfl rfl)
    gi_wp2
    refine⟨by simp,.inl ⟨_,_,rfl,run_takeDeferred hK,?_⟩⟩;exact ⟨_,results_tmp2 rfl _ _ _,by rw[hfin.out.1,hfin.out.2];rfl,hbf⟩
 case stop =>
  rintro D c pre W _ _ h _;exact h.elim
def dM (neg:Bool) (a:Nat):Int:=if neg then -(a:Int) else a
theorem kG (neg:Bool) (a:Nat):(dM neg a).natAbs=a:=by cases neg <;> simp[dM]
theorem dY (neg:Bool) (a:Nat) (v:Value) (w:World) (h:aI w a v) (la:(Ig.grp a).length<=50000) (hE:Env w) :
 aW 102 #[.agg #[.bool neg,v]] w (.tuple #[.string ⟨(Ig.iq (dM neg a)).toArray⟩,.int .i64 (Ig.resE (dM neg a))]):=by
 obtain⟨A1,c1,rfl,hA1,hn1,hm1⟩:=h.out;by_cases h0:a=0
 · subst h0;have e1:Ig.iq (dM neg 0)=[48]:=by cases neg <;> decide +kernel
   have e2:Ig.resE (dM neg 0)=0:=by cases neg <;> decide +kernel
   have hl:(Ig.grp 0).length=0:=by rw[Ig.aP];rfl
   rw[e1,e2,hl];exact MJ neg A1 c1 w
 · refine O8 neg a A1 c1 w hA1 hn1 h0 la hE _ _ (fun h=>⟨?_,?_⟩) (fun h=>⟨?_,?_⟩)
   · rw[Ig.iq,kG,if_pos h];cases neg
     · rw[Ig.itoa_nonneg (by simp[dM]),kG];rfl
     · rw[Ig.itoa_neg (by simp[dM];omega),kG];rfl
   · rw[Ig.resE,kG,if_pos h]
   · rw[Ig.iq,kG,if_neg h]
   · rw[Ig.resE,kG,if_neg h]
def dA (a b:Int):Int:=if a<b then -1 else if a > b then 1 else 0
theorem wU (a:Int) (w:World):Calls Tryz.prog 186 #[.int .i64 a] w fun e w'=>e=.returned (.bool false)/\w=w':=by
 go_enter Tryz.func186,Tryz.ntmps186
 go_wp2;go_ret;exact ⟨by simp,rfl⟩
theorem LX (a b:Int) (w:World):Calls Tryz.prog 149 #[.int .i64 a,.int .i64 b] w fun e w'=>e=.returned (.int .i64 (dA a b))/\w=w':=by
 rcases (show (a<b)∨(a=b)∨(b<a) by omega) with h|h|h
 · have t1:decide (a<b)=true:=by simp;omega
   have e:dA a b= -1:=by unfold dA;rw[if_pos h]
   go_enter Tryz.func149,Tryz.ntmps149
   go_wp2_with (go_at_call 186;refine (wU _ _).mono ?_;rintro e w' ⟨rfl,rfl⟩)
   go_ret;exact ⟨by rw[e];rfl,rfl⟩
 · subst h;have e:dA a a=0:=by unfold dA;rw[if_neg (by omega),if_neg (by omega)]
   go_enter Tryz.func149,Tryz.ntmps149
   go_wp2_with (go_at_call 186;refine (wU _ _).mono ?_;rintro e w' ⟨rfl,rfl⟩)
   go_ret;exact ⟨by rw[e];rfl,rfl⟩
 · have t1:decide (a<b)=false:=by simp;omega
   have t2:decide (a > b)=true:=by simp;omega
   have e:dA a b=1:=by unfold dA;rw[if_neg (by omega),if_pos h]
   go_enter Tryz.func149,Tryz.ntmps149
   go_wp2_with (go_at_call 186;refine (wU _ _).mono ?_;rintro e w' ⟨rfl,rfl⟩)
   go_ret;exact ⟨by rw[e];rfl,rfl⟩
attribute [local go_sem] Oper.semAt_some
theorem oW {fn:Func} {t:Tmp} {g:Nat} {x:Int} (h:fn.results=#[.cell t 3]) (tmps:Array Value) (w:World) (ht:tmps.getD t undef=.pointer (some ⟨g,0,none⟩)) (hB:Bx w g 3 #[.int .i64 x]) :
 (results fn tmps).run Tryz.prog w=.ok (.int .i64 x) w:=by
 have h0:=hB.cell 0 rfl;have ht':tmps[t]?.getD undef=.pointer (some ⟨g,0,none⟩):=by simpa using ht
 simp only[results,h];simp [go_sem,ht',h0,loadVar]
theorem SH {a b:Nat} (h:(Ig.grp a).length≠(Ig.grp b).length):dA ((Ig.grp a).length:Int) ((Ig.grp b).length:Int)=Ig.dX a b:=by
 rw[Ig.ER h]
 unfold dA
 split
 · rw[if_pos (by omega)]
 · rw[if_pos (by omega),if_neg (by omega)]
theorem Vx {a b:Nat} (hlen:(Ig.grp a).length=(Ig.grp b).length) (k:Nat) (hk:k<(Ig.grp a).length) (hd:∀t,k<t->t<(Ig.grp a).length->Ig.bW (Ig.grp a) t=Ig.bW (Ig.grp b) t) (hne:Ig.bW (Ig.grp a) k≠Ig.bW (Ig.grp b) k):dA (Ig.bW (Ig.grp a) k) (Ig.bW (Ig.grp b) k)=Ig.dX a b:=by
 have h1:(Ig.grp a).drop (k+1)=(Ig.grp b).drop (k+1):=by
  apply List.ext_getElem (by simp[hlen])
  intro i h1 h2;simp only[List.length_drop]at h1 h2;have:=hd (k+1+i) (by omega) (by omega);rw [Ig.dS (by omega),Ig.dS (by omega)]at this;simpa using this
 rw[Ig.J7 hlen k hk h1 hne]
 unfold dA
 split
 · rfl
 · rw[if_pos (by omega)]
theorem SK {a b:Nat} (hlen:(Ig.grp a).length=(Ig.grp b).length) (h:∀t,t<(Ig.grp a).length->Ig.bW (Ig.grp a) t=Ig.bW (Ig.grp b) t):Ig.dX a b=0:=by
 refine Ig.Ae (List.ext_getElem hlen fun i h1 h2=>?_);have:=h i h1
 rwa [Ig.dS h1,Ig.dS h2]at this
theorem AZ {n k:Nat} (hk:k<=n):∀t:Fin n,t∈(dL n).take k↔n-k<=t.1:=by
 induction k with
 | zero=>intro t;simp
 | succ k ih =>
  intro t;have hs:=j_ (n:=n) (t:=n-(k+1)) (by omega);rw [show n-(n-(k+1))=k+1 by omega,show n-(n-(k+1)+1)=k by omega]at hs;rw [hs,List.mem_append,ih (by omega),List.mem_singleton,Fin.ext_iff];simp only;omega
theorem J5 (a b:Nat) (v1 v2:Value) (w:World) (h1:aI w a v1) (h2:aI w b v2) (la:(Ig.grp a).length<=90000) (lb:(Ig.grp b).length<=90000) (hne:(Ig.grp a).length≠(Ig.grp b).length) :
 aW 103 #[v1,v2] w (.int .i64 (Ig.dX a b)):=by
 obtain⟨A1,c1,rfl,hA1,hn1,hm1⟩:=h1.out;obtain ⟨A2,c2,rfl,hA2,hn2,hm2⟩:=h2.out;have he:=SH hne;have hb0:=bNew (au w (.cells #[.slice A2 (Ig.grp b).length c2] 127)) (.cells #[.int .i64 0] 3);generalize (Ig.grp a).length=n1 at *;generalize (Ig.grp b).length=n2 at *;have t0:decide ((n1:Int)=(n2:Int))=false:=by simp;omega
 have t1:((n1:Int)==(n2:Int))=false:=by simp;omega
 go_enter Tryz.func103,Tryz.ntmps103
 go_wp2_with (go_at_call 149;refine (LX _ _ _).mono ?_;rintro e w' ⟨rfl,rfl⟩)
 have B4:Bx ((w.alloc (.cells #[.slice A2 n2 c2] 127)).alloc (.cells #[.int .i64 (Ig.dX a b)] 3)) (w.heap.size+1) 3 #[.int .i64 (Ig.dX a b)]:=by
  have:=Bx.mk (w.alloc (.cells #[.slice A2 n2 c2] 127)) 3 #[.int .i64 (Ig.dX a b)]
  rwa [ah]at this
 refine bodyPost_ret (oW rfl _ _ rfl B4) rfl ⟨rfl,bNew (au w _) _⟩
structure IL (w:World) (a b:Nat) (v2:Value) (pre:List (Fin (Ig.grp a).length)) (W:World):Prop where
 hb:Below w.heap.size w W
 le:w.heap.size+3<=W.heap.size
 B3:Bx W w.heap.size 127 #[v2]
 B4:Bx W (w.heap.size+1) 3 #[.int .i64 0]
 same:∀t∈pre,Ig.bW (Ig.grp a) t.1=Ig.bW (Ig.grp b) t.1
structure DN (w:World) (a b:Nat) (pre:List (Fin (Ig.grp a).length)) (W:World):Prop where
 hb:Below w.heap.size w W
 le:w.heap.size+3<=W.heap.size
 out:∃m x,pre=m++[x]/\(∀t∈m,Ig.bW (Ig.grp a) t.1=Ig.bW (Ig.grp b) t.1)/\Ig.bW (Ig.grp a) x.1≠Ig.bW (Ig.grp b) x.1/\Bx W (w.heap.size+1) 3 #[.int .i64 (dA (Ig.bW (Ig.grp a) x.1) (Ig.bW (Ig.grp b) x.1))]
theorem IL.kept {w W W':World} {a b:Nat} {v2:Value} {pre:List (Fin (Ig.grp a).length)} {row:Option Nat} (h:IL w a b v2 pre W) (hg:W.grownBy W' row) (hr:∀r,row=some r->w.heap.size<=r/\∃o:Obj,W.heap[r]? = some o/\o.isCells=false):IL w a b v2 pre W' :=
 ⟨h.hb.grown hg h.hb.size (fun k e=>(hr k e).1),Nat.le_trans h.le hg.size,fH h.B3 hg (fun r e=>(hr r e).2),fH h.B4 hg (fun r e=>(hr r e).2),h.same⟩
theorem DN.kept {w W W':World} {a b:Nat} {pre:List (Fin (Ig.grp a).length)} {row:Option Nat} (h:DN w a b pre W) (hg:W.grownBy W' row) (hr:∀r,row=some r->w.heap.size<=r/\∃o:Obj,W.heap[r]? = some o/\o.isCells=false):DN w a b pre W':=by
 obtain⟨m,x,h1,h2,h3,h4⟩:=h.out;exact ⟨h.hb.grown hg h.hb.size (fun k e=>(hr k e).1),Nat.le_trans h.le hg.size,m,x,h1,h2,h3,fH h4 hg (fun r e=>(hr r e).2)⟩
theorem DN.answer {w W:World} {a b k:Nat} (hlen:(Ig.grp a).length=(Ig.grp b).length) (hk:k<=(Ig.grp a).length) (h:DN w a b ((dL (Ig.grp a).length).take k) W):Bx W (w.heap.size+1) 3 #[.int .i64 (Ig.dX a b)]:=by
 obtain⟨m,x,h1,h2,h3,h4⟩:=h.out
 obtain⟨j,rfl⟩:∃j,k=j+1:=⟨k-1,by
  rcases k with _|k;· simp at h1
  · rfl⟩
 have hs:=j_ (n:=(Ig.grp a).length) (t:=(Ig.grp a).length-(j+1)) (by omega);rw [show (Ig.grp a).length-((Ig.grp a).length-(j+1))=j+1 by omega,show (Ig.grp a).length-((Ig.grp a).length-(j+1)+1)=j by omega]at hs;rw [hs]at h1;have h5:=List.append_inj_left' h1 rfl
 have h6:x.1=(Ig.grp a).length-(j+1):=by
  have:=List.append_inj_right' h1 rfl;simp only[List.cons.injEq,and_true]at this;rw [←this]
 rw[Vx hlen x.1 x.2 (fun t h7 h8=>h2 ⟨t,h8⟩ (by rw[←h5,AZ (by omega)];simp only;omega)) h3]at h4;exact h4
theorem J6 (a b:Nat) (v1 v2:Value) (w:World) (h1:aI w a v1) (h2:aI w b v2) (la:(Ig.grp a).length<=90000) (hl:(Ig.grp a).length=(Ig.grp b).length) :
 aW 103 #[v1,v2] w (.int .i64 (Ig.dX a b)):=by
 obtain⟨A1,c1,rfl,hA1,hn1,hm1⟩:=h1.out;obtain ⟨A2,c2,rfl,hA2,hn2,hm2⟩:=h2.out;have t0:decide (((Ig.grp a).length:Int)=((Ig.grp b).length:Int))=true:=by simp;omega
 have t1:(((Ig.grp a).length:Int)==((Ig.grp b).length:Int))=true:=by simp;omega
 have t2:(((Ig.grp a).length:Int) != ((Ig.grp b).length:Int))=false:=by simp;omega
 have hlk:Kp ((Ig.grp a).length=(Ig.grp b).length):=⟨hl⟩
 clear hl;refine (callsIn_wide (n:=3)).1 ?_;refine callsIn_of_wp_marks Tryz.func103 rfl trivial ?_ rfl;simp only[Tryz.ntmps103,List.size_toArray,List.length_cons,List.length_nil,Nat.reduceAdd,Nat.reduceSub,Array.replicate_succ,Array.replicate_zero,List.push_toArray,List.append_toArray,List.nil_append,List.cons_append]
 gi_wp2_with (refine ⟨trivial,?_⟩;gi_at_call 137;refine (yR Fence.wide 2 trivial rfl _ _ _ _).mono ?_;rintro e w' ⟨rfl,rfl⟩)
 have hb0:=bNew (bNew (au w (.cells #[.slice A2 (Ig.grp b).length c2] 127)) (.cells #[.int .i64 0] 3)) (.cells #[.slice A1 (Ig.grp a).length c1] 127);have B3:=((Bx.mk w 127 #[.slice A2 (Ig.grp b).length c2]).new (.cells #[.int .i64 0] 3)).new (.cells #[.slice A1 (Ig.grp a).length c1] 127);have B4:=(Bx.mk (w.alloc (.cells #[.slice A2 (Ig.grp b).length c2] 127)) 3 #[.int .i64 0]).new (.cells #[.slice A1 (Ig.grp a).length c1] 127);have B7:=Bx.mk ((w.alloc (.cells #[.slice A2 (Ig.grp b).length c2] 127)).alloc (.cells #[.int .i64 0] 3)) 127 #[.slice A1 (Ig.grp a).length c1];have hsz:(((w.alloc (.cells #[.slice A2 (Ig.grp b).length c2] 127)).alloc (.cells #[.int .i64 0] 3)).alloc (.cells #[.slice A1 (Ig.grp a).length c1] 127)).heap.size=w.heap.size+3:=by rw[ah,ah,ah]
 rw[ah]at B4;rw [ah,ah]at B7;generalize (((w.alloc (.cells #[.slice A2 (Ig.grp b).length c2] 127)).alloc (.cells #[.int .i64 0] 3)).alloc (.cells #[.slice A1 (Ig.grp a).length c1] 127))=W0 at *
 refine wpIn_rangeFunc_ownG rfl (by decide) (gf:=180) (lb:=#[.pointer (some ⟨w.heap.size+1+1,0,none⟩)]) rfl trivial (enters_of Tryz.func180 (by kernel_rfl) rfl)
  (pV Fence.wide 2 trivial rfl (by decide) (w.heap.size+1+1) w.heap.size A1 c1 (Ig.grp a) (by omega) W0 (by omega) (by omega) (B7.cell 0 rfl) (hA1.below hb0)) vY.trans (Ll (by omega) (by omega)) (Below.refl _ _) (fun _=>rfl)
  (fun pre W=>IL w a b (.slice A2 (Ig.grp b).length c2) pre W) (fun c pre W=>c=.ret/\DN w a b pre W)
  (fun pre W W' row hs hg hr=>hs.kept hg (fun r e=>⟨by have:=(hr r e).1;omega,(hr r e).2⟩))
  (fun c pre W W' row hs hg hr=>⟨hs.1,hs.2.kept hg (fun r e=>⟨by have:=(hr r e).1;omega,(hr r e).2⟩)⟩)
  ⟨hb0,by omega,B3,B4,fun t ht=>by cases ht⟩
  (fun x=>{ tmps:=#[.slice A1 (Ig.grp a).length c1,.slice A2 (Ig.grp b).length c2,undef,.pointer (some ⟨w.heap.size,0,none⟩),.pointer (some ⟨w.heap.size+1,0,none⟩),.int .i64 (x.1:Int),.int .i64 (Ig.grp a)[x.1],.slice A1 (Ig.grp a).length c1,.int .i64 ((Ig.grp a).length:Int),.slice A2 (Ig.grp b).length c2,.int .i64 ((Ig.grp b).length:Int),.bool false,
   undef,undef,undef,undef,undef,.slice A1 (Ig.grp a).length c1,.func (.func 180) #[] #[.pointer (some ⟨w.heap.size+1+1,0,none⟩)],.int .i64 (x.1:Int),.int .i64 (Ig.grp a)[x.1],undef,undef,undef,undef,undef,undef,undef,undef,undef,undef,undef,undef],defers:=[] }) ?assign ?body ?done ?stop
 case assign =>
  intro l x W K hK;simp only[handed]
  gi_wp2
  exact hK
 case body =>
  rintro l pre x W ⟨hb,hle,B3',Xq,hsame⟩ hlt;have hxb:x.1<(Ig.grp b).length:=by have:=x.2;have:=hlk.out;omega
  have hA2':=hA2.below hb;obtain ⟨b2,off,rfl,hbB,hcell⟩:=hA2' (by omega)
  have c0:W.cell? ⟨b2,off+x.1,none⟩=some (.int .i64 (Ig.grp b)[x.1]):=by
   have:=hcell x.1 _ (List.getElem?_eq_getElem hxb) 0 _ rfl;simpa using this
  have e1:Ig.bW (Ig.grp a) x.1=(Ig.grp a)[x.1]:=Ig.dS x.2;have e2:Ig.bW (Ig.grp b) x.1=(Ig.grp b)[x.1]:=Ig.dS hxb;have c3:=B3'.cell 0 rfl;have c4:=Xq.cell 0 rfl;have f4:=Xq.frozen 0;have hxk:Kp (x.1<(Ig.grp b).length):=⟨hxb⟩
  by_cases heq:(Ig.grp a)[x.1]=(Ig.grp b)[x.1]
  · have t3:decide ((Ig.grp a)[x.1]=(Ig.grp b)[x.1])=true:=by simp[heq]
    have hfin:IL w a b (.slice (some ⟨b2,off,none⟩) (Ig.grp b).length c2) (pre++[x]) W:=⟨hb,hle,B3',Xq,fun t ht=>by
     rcases List.mem_append.1 ht with h|h
     · exact hsame t h
     · rw[List.mem_singleton.1 h,e1,e2,heq]⟩
    gi_wp2
    exact⟨KeepsFrom.refl _ _,vY.refl _ _ _,hfin⟩
  · have t3:decide ((Ig.grp a)[x.1]=(Ig.grp b)[x.1])=false:=by simp[heq]
    gi_wp2_with (refine ⟨by first|trivial|(intro h;cases h),?_⟩;gi_at_call 149;refine ((callsIn_wide.2 (LX _ _ _)).inRound _).mono ?_;rintro e w' ⟨rfl,rfl⟩)
    exact⟨(KeepsOthers.setCell _ _ _).from _,rfl,aJ hb (Nat.le_succ _) _,Nat.le_trans hle (KeepsOthers.setCell _ _ _).size,pre,x,rfl,hsame,by rw[e1,e2];exact heq,by rw[e1,e2];exact Xq.set 0 _⟩
 case done =>
  rintro D ys W hD rfl ⟨hb,hle,B3',Xq,hsame⟩ hK;have hz:Ig.dX a b=0:=SK hlk.out (fun t ht=>hsame ⟨t,ht⟩ (by simp[dL]));have c4:=Xq.cell 0 rfl;have f4:=Xq.frozen 0
  gi_wp2
  have hK2:=(Below.heap_setCell W ⟨w.heap.size+1,0,none⟩ (.int .i64 0) D (by show D≠w.heap.size+1;omega)).trans hK;have B42:=Xq.set 0 (.int .i64 0);have hb2:=aJ hb (p:=⟨w.heap.size+1,0,none⟩) (Nat.le_succ _) (.int .i64 0);generalize W.setCell ⟨w.heap.size+1,0,none⟩ (.int .i64 0)=W2 at *;refine ⟨by simp,.inl ⟨_,_,rfl,run_takeDeferred hK2,?_⟩⟩;have hg:=grownBy_putObj' W2 D (.deferred none);have hr:∀r,some D=some r->∃o:Obj,W2.heap[r]? = some o/\o.isCells=false:=fun r e=>by cases e;exact⟨_,hK2,rfl⟩
  rw[hz];exact ⟨_,oW rfl _ _ rfl (fH B42 hg hr),rfl,hb2.trans (belowK_b (w:=w) (Nat.le_refl _) W2 D _ _ (by omega) hK2 rfl rfl)⟩
 case stop =>
  rintro D c pre W hD ⟨k,hk,rfl⟩ ⟨rfl,hX⟩ hK;have hB:=hX.answer hlk.out hk
  gi_wp2
  refine⟨by simp,.inl ⟨_,_,rfl,run_takeDeferred hK,?_⟩⟩;have hg:=grownBy_putObj' W D (.deferred none);have hr:∀r,some D=some r->∃o:Obj,W.heap[r]? = some o/\o.isCells=false:=fun r e=>by cases e;exact⟨_,hK,rfl⟩
  exact⟨_,oW rfl _ _ rfl (fH hB hg hr),rfl,hX.hb.trans (belowK_b (w:=w) (Nat.le_refl _) W D _ _ (by omega) hK rfl rfl)⟩
theorem kX (a b:Nat) (v1 v2:Value) (w:World) (h1:aI w a v1) (h2:aI w b v2) (la:(Ig.grp a).length<=90000) (lb:(Ig.grp b).length<=90000) :
 aW 103 #[v1,v2] w (.int .i64 (Ig.dX a b)):=by
 by_cases hl:(Ig.grp a).length=(Ig.grp b).length
 · exact J6 a b v1 v2 w h1 h2 la hl
 · exact J5 a b v1 v2 w h1 h2 la lb hl
theorem SI (a b:Nat):decide (Ig.dX a b > 0)=decide (b<a):=by
 rcases (show a<b∨a=b∨b<a by omega) with h|h|h
 · rw[Ig.kK h];simp;omega
 · subst h;rw[Ig.nR];simp
 · rw[Ig.kL h];simp;omega
theorem Nc (b r d:Nat) (v2 v5:Value) (g8 g5:Nat) (w:World) (B8:Bx w g8 160 #[.func (.func 139) #[v2] #[]]) (B5:Bx w g5 127 #[v5]) (h2:aI w b v2) (h5:aI w r v5) (hd:d<10000)
 (l2:(Ig.grp b).length<=20000) (l5:(Ig.grp r).length<=90000) (l3:(Ig.grp (b*(d+1))).length<=90000) :
 aW 140 #[.int .i64 d,.pointer (some ⟨g8,0,none⟩),.pointer (some ⟨g5,0,none⟩)] w (.bool (decide (r<b*(d+1)))):=by
 go_enter Tryz.func140,Tryz.ntmps140
 go_wp2_with fail;have hay:=fun w1 (hb1:Below w.heap.size w w1)=>(B8.call hb1).cell 0 rfl
 have hby:=fun w1 (hb1:Below w.heap.size w w1)=>(B5.call hb1).cell 0 rfl
 have hcp:=SI (b*(d+1)) r;refine aA [ak (.func (.func 139) #[v2] #[]),ak (.int .i64 d),ak (.int .i64 ((d+1:Nat):Int)),(fun v W=>aI W (b*(d+1)) v),ak v5,ak (.int .i64 (Ig.dX (b*(d+1)) r)),ak (.bool (decide (r<b*(d+1)))),ak (.bool (decide (r<b*(d+1))))] 8 12 (by kernel_rfl) rfl rfl (by kernel_rfl) ?_ ?_ ?_
 · simp only[bV]
   and_intros <;> first|exact aF _|exact fun v w w' h hb=>h.call hb|trivial
 · simp only[Users,List.take,List.length];refine ⟨?_,?_,?_,?_,?_,?_,?_,?_,trivial⟩;all_goals (intro vs w1 hb1 hd0;have c8:=hay w1 hb1;have c5:=hby w1 hb1;have Ro:=h2.call hb1;have hN5:=h5.call hb1;clear hay hby;simp only[aQ,Act.put,List.nil_append,List.cons_append,List.setIfInBounds_toArray,List.set_cons_succ,List.set_cons_zero,Nat.reduceAdd])
   · clear hd0;go_wp2;exact⟨Below.refl _ _,rfl⟩
   · clear hd0;go_wp2;exact⟨Below.refl _ _,rfl⟩
   · have e:vs 1=.int .i64 d:=hd0 1 rfl;clear hd0;rw[e];go_wp2;exact⟨Below.refl _ _,rfl⟩
   · have e:vs 0=.func (.func 139) #[v2] #[]:=hd0 0 rfl;have e':vs 2=.int .i64 ((d+1:Nat):Int):=hd0 2 rfl;clear hd0;rw [e,e'];have hC:=EU b (d+1) v2 w1 Ro (by omega) (by omega);go_wp2_with fail;refine hC.mono ?_;clear hC;rintro _ w9 ⟨v9,rfl,rZ,aY⟩;go_wp2;exact rZ
   · clear hd0;go_wp2;exact⟨Below.refl _ _,rfl⟩
   · have e:aI w1 (b*(d+1)) (vs 3):=hd0 3 rfl;have e':vs 4=v5:=hd0 4 rfl;clear hd0;rw [e'];have hC:=kX (b*(d+1)) r (vs 3) v5 w1 e hN5 (by omega) (by omega);go_wp2_with fail;refine hC.mono ?_;clear hC;rintro _ w9 ⟨rfl,aY⟩;go_wp2;rfl
   · have e:vs 5=.int .i64 (Ig.dX (b*(d+1)) r):=hd0 5 rfl;clear hd0;rw[e];go_wp2;exact ⟨Below.refl _ _,rfl⟩
   · have e:vs 6=.bool (decide (r<b*(d+1))):=hd0 6 rfl;clear hd0;rw[e];go_wp2;exact⟨Below.refl _ _,rfl⟩
 · intro vs wa hba hR;simp only[cZ,ak]at hR;obtain ⟨-,-,-,-,-,-,-,e7,-⟩:=hR;simp only[List.drop,List.take,List.map,aQ,Act.put,List.setIfInBounds_toArray,List.set_cons_succ,List.set_cons_zero,Nat.reduceAdd];rw [e7];go_wp2;go_ret;exact ⟨rfl,hba⟩
def U8:Value->Nat
 | .int _ x=>x.toNat
 | _=>0
theorem Jg (q:Nat) (g8 g5:Nat) (w:World) (hq:q<=9999)
 (hf:∀(W:World) (d:Nat),Below w.heap.size w W->d<9999->aW 140 #[.int .i64 d,.pointer (some ⟨g8,0,none⟩),.pointer (some ⟨g5,0,none⟩)] W (.bool (decide (q<=d)))) :
 aW 141 #[.int .i64 9999,.func (.func 140) #[] #[.pointer (some ⟨g8,0,none⟩),.pointer (some ⟨g5,0,none⟩)]] w (.int .i64 q):=by
 go_enter Tryz.func141,Tryz.ntmps141
 go_wp2
 go_loopw [5,6,7] (fun s5 s6 s7 wr=>∃(i j:Nat),s5=.int .i64 i/\s6=.int .i64 j/\i<=q/\q<=j/\j<=9999/\Below w.heap.size w wr) (fun s5 s6 s7 wr=>U8 s6-U8 s5)
 case atStart=>exact⟨0,9999,rfl,rfl,Nat.zero_le _,hq,Nat.le_refl _,Below.refl _ _⟩
 case round =>
  obtain⟨i,j,rfl,rfl,hi,hj,hj9,hb⟩:=hrel;by_cases h:i<j
  · have t0:decide ((i:Int)<(j:Int))=true:=by simp;omega
    have hC:=hf wr ((i+j) / 2) hb (by omega);have hm1:i<=(i+j) / 2:=by omega
    have hm2:(i+j) / 2<j:=by omega
    go_wp2_with fail;have em:((i:Int)+(j:Int)) / 2=(((i+j) / 2:Nat):Int):=by omega
    simp only[em];generalize (i+j) / 2=m at *;clear em;by_cases hqm:q<=m
    · have t1:decide (q<=m)=true:=by simp;omega
      rw[t1]at hC;refine hC.mono ?_;clear hC;rintro _ w9 ⟨rfl,aY⟩;go_wp2;exact ⟨⟨i,m,rfl,rfl,by omega,by omega,by omega,aj hb aY⟩,by simp only[U8];omega⟩
    · have t1:decide (q<=m)=false:=by simp;omega
      rw[t1]at hC;refine hC.mono ?_;clear hC;rintro _ w9 ⟨rfl,aY⟩;go_wp2;exact ⟨⟨m+1,j,by go_num,rfl,by omega,by omega,by omega,aj hb aY⟩,by simp only[U8];omega⟩
  · have t0:decide ((i:Int)<(j:Int))=false:=by simp;omega
    obtain rfl:i=q:=by omega
    go_wp2;go_ret;exact ⟨rfl,hb⟩
theorem vG:Ig.grp 1=[1]:=by
 rw[Ig.dQ (by decide),show 1 / 10000=0 from rfl,Ig.aP];rfl
theorem one_any (w:World):Calls Tryz.prog 100 #[] w fun e w'=>∃v,e=.returned v/\aI w' 1 v/\Below w.heap.size w w':=by
 have hB:=Bx.mk w 3 #[.int .i64 1];have hb:=au w (.cells #[.int .i64 1] 3)
 have hN:aI (w.alloc (.cells #[.int .i64 1] 3)) 1 (.slice (some ⟨w.heap.size,0,none⟩) 1 1):=by
  refine⟨some ⟨w.heap.size,0,none⟩,1,by rw[vG];rfl,?_,by rw[vG];decide,by decide⟩;rw [vG];intro _;refine ⟨w.heap.size,0,rfl,hB.lt,fun i c hi j u hj=>?_⟩
  obtain rfl:i=0:=by
   rcases i with _|i;· rfl
   · simp at hi
  obtain rfl:c=1:=by simpa using hi.symm
  obtain rfl:j=0:=by
   rcases j with _|j;· rfl
   · simp[aO]at hj
  obtain rfl:u=.int .i64 1:=by simpa [aO] using hj.symm
  exact hB.cell 0 rfl
 go_enter Tryz.func100,Tryz.ntmps100
 go_wp2;go_ret;exact ⟨_,rfl,hN,hb⟩
theorem ku (s:List UInt8) (hs:s.length<=1000000) (w:World) :
 aW 94 #[.string ⟨s.toArray⟩] w (.bool (Ig.bF s)):=by
 have hV:=nM s hs w
 go_enter Tryz.func94,Tryz.ntmps94
 go_wp2_with fail;refine hV.mono ?_;rintro _ w9 ⟨rfl,aY⟩;clear hV;go_wp2;go_ret;exact ⟨rfl,aY⟩
def dq (l:List Int) (b:Nat) (pre:List (Fin l.length)):Nat->Nat :=
 (pre.foldl (fun (st:Nat × (Nat->Nat)) t=>(st.1*10000+l[t.1].toNat,fun k=>if k=t.1 then (st.1*10000+l[t.1].toNat) / b % 10000 else st.2 k)) (0,fun _=>0)).2
theorem YO (l:List Int) (b:Nat) (pre:List (Fin l.length)):(pre.foldl (fun (st:Nat × (Nat->Nat)) t=>(st.1*10000+l[t.1].toNat,fun k=>if k=t.1 then (st.1*10000+l[t.1].toNat) / b % 10000 else st.2 k)) (0,fun _=>0)).1=hor l pre:=by
 have:∀(n:Nat) (pre:List (Fin l.length)),pre.length=n->(pre.foldl (fun (st:Nat × (Nat->Nat)) t=>(st.1*10000+l[t.1].toNat,fun k=>if k=t.1 then (st.1*10000+l[t.1].toNat) / b % 10000 else st.2 k)) (0,fun _=>0)).1=hor l pre:=by
  intro n
  induction n with
  | zero=>intro pre h;rw[List.length_eq_zero_iff.1 h];rfl
  | succ n ih =>
   intro pre h
   rcases List.eq_nil_or_concat pre with h0|⟨m,t,h0⟩
   · rw[h0];rfl
   · obtain rfl:pre=m++[t]:=by simpa using h0
     rw[ou,←ih m (by simpa using h),List.foldl_append];rfl
 exact this _ _ rfl
theorem RZ (l:List Int) (b k:Nat):dq l b [] k=0:=rfl
theorem EL (l:List Int) (b:Nat) (pre:List (Fin l.length)) (t:Fin l.length) (k:Nat):dq l b (pre++[t]) k=if k=t.1 then hor l (pre++[t]) / b % 10000 else dq l b pre k:=by
 rw[ou,←YO l b pre]
 unfold dq
 rw[List.foldl_append];rfl
theorem LU {l:List Int} (hl:Ig.Gr l) (b:Nat):∀k,k<=l.length->∀t,l.length-k<=t->t<l.length->dq l b ((dL l.length).take k) t=(Ig.from_ l t).toNat / b % 10000
 | 0,_,t,h1,h2=>by omega
 | k+1,hk,t,h1,h2=>by
  have hs:=j_ (n:=l.length) (t:=l.length-(k+1)) (by omega);rw [show l.length-(l.length-(k+1))=k+1 by omega,show l.length-(l.length-(k+1)+1)=k by omega]at hs;rw [hs,EL,←hs];by_cases h:t=l.length-(k+1)
  · rw[if_pos (by simpa using h),h,←zI l hl (k+1) hk,Int.toNat_natCast]
  · rw[if_neg (by simpa using h)];exact LU hl b k (by omega) t (by omega) h2
theorem LV {l:List Int} (hl:Ig.Gr l) {b:Nat} (hb:0<b):∀k,k<=l.length->Ig.aT (((List.range l.length).map fun t=>((dq l b (dL l.length) t:Nat):Int)).drop (l.length-k))=(((Ig.from_ l (l.length-k)).toNat / b:Nat):Int)
 | 0,_=>by
  rw[Nat.sub_zero,Ig.qR (Nat.le_refl _),List.drop_eq_nil_of_le (by simp)];simp [Ig.aT]
 | k+1,hk=>by
  have ih:=LV hl hb k (by omega);have ht:l.length-(k+1)<l.length:=by omega
  have hd:=LU hl b l.length (Nat.le_refl _) (l.length-(k+1)) (by omega) ht;rw [List.take_of_length_le (by rw[jl];omega)]at hd;rw [List.drop_eq_getElem_cons (by simp;omega),show l.length-(k+1)+1=l.length-k by omega];simp only[List.getElem_map,List.getElem_range];rw [hd]
  show _+10000*Ig.aT _=_
  rw[ih];have h1:=Ig.lT ht;rw [show l.length-(k+1)+1=l.length-k by omega]at h1;have h2:=Ig.qQ hl (l.length-k);have h3:=hl l[l.length-(k+1)] (List.getElem_mem ht);generalize Ig.from_ l (l.length-k)=F at *;generalize Ig.from_ l (l.length-(k+1))=G at *;generalize l[l.length-(k+1)]=g at *;obtain ⟨F,rfl⟩:=Int.eq_ofNat_of_zero_le h2;obtain ⟨g,rfl⟩:=Int.eq_ofNat_of_zero_le h3.1;obtain rfl:G=((g+10000*F:Nat):Int):=by omega
  rw[Int.toNat_natCast]
  have h4:(g+10000*F) / b / 10000=F / b:=by
   rw[Nat.div_div_eq_div_mul,Nat.mul_comm b 10000,←Nat.div_div_eq_div_mul]
   congr 1
   omega
  have h5:(Int.toNat (Int.ofNat F))=F:=rfl;have h6:=Nat.mod_add_div ((g+10000*F) / b) 10000;rw [h4]at h6;first|(rw [h5];omega)|(simp only[Int.toNat_natCast];omega)
def mO (l:List Int) (b:Nat) (pre:List (Fin l.length)):Array Value:=((List.range l.length).map fun t=>Value.int .i64 ((dq l b pre t:Nat):Int)).toArray
theorem Jp (l:List Int) (b:Nat) (pre:List (Fin l.length)) (x:Fin l.length):(mO l b pre).setIfInBounds x.1 (.int .i64 ((hor l (pre++[x]) / b % 10000:Nat):Int))=mO l b (pre++[x]):=by
 have h:((List.range l.length).map fun t=>Value.int .i64 ((dq l b pre t:Nat):Int)).set x.1 (.int .i64 ((hor l (pre++[x]) / b % 10000:Nat):Int))=(List.range l.length).map fun t=>Value.int .i64 ((dq l b (pre++[x]) t:Nat):Int):=by
  apply List.ext_getElem (by simp)
  intro i h1 h2;rw [List.getElem_set,List.getElem_map,List.getElem_map,List.getElem_range,EL];by_cases h:x.1=i
  · rw[if_pos h,if_pos h.symm]
  · rw[if_neg h,if_neg (fun e=>h e.symm)]
 unfold mO
 rw[List.setIfInBounds_toArray,h]
theorem Jq (l:List Int) (b:Nat):madeCells #[.int .i64 0] l.length=mO l b []:=by
 apply Array.ext (by simp[madeCells,mO])
 intro i h1 h2;simp [madeCells,mO,RZ,Nat.mod_one]
structure IJ (w:World) (a b:Nat) (v2:Value) (pre:List (Fin (Ig.grp a).length)) (W:World):Prop where
 hb:Below w.heap.size w W
 le:w.heap.size+5<=W.heap.size
 B3:Bx W w.heap.size 127 #[v2]
 Bq:Bx W (w.heap.size+1) 127 #[.slice (some ⟨w.heap.size+1+1+1,0,none⟩) (Ig.grp a).length (Ig.grp a).length]
 Br:∃v,Bx W (w.heap.size+1+1) 127 #[v]/\aI W (hor (Ig.grp a) pre % b) v
 Bc:Bx W (w.heap.size+1+1+1) 3 (mO (Ig.grp a) b pre)
theorem IJ.kept {w W W':World} {a b:Nat} {v2:Value} {pre:List (Fin (Ig.grp a).length)} {row:Option Nat} (h:IJ w a b v2 pre W) (hg:W.grownBy W' row) (hr:∀r,row=some r->w.heap.size<=r/\∃o:Obj,W.heap[r]? = some o/\o.isCells=false):IJ w a b v2 pre W':=by
 obtain⟨v,h1,h2⟩:=h.Br;exact ⟨h.hb.grown hg h.hb.size (fun k e=>(hr k e).1),Nat.le_trans h.le hg.size,fH h.B3 hg (fun r e=>(hr r e).2),fH h.Bq hg (fun r e=>(hr r e).2),⟨v,fH h1 hg (fun r e=>(hr r e).2),qM h2 hg (fun r e=>(hr r e).2)⟩,fH h.Bc hg (fun r e=>(hr r e).2)⟩
attribute [local go_sem] Oper.semAt_some
theorem ZU:∃i,Tryz.prog.info? 3=some i/\i.zero=some (.int .i64 0)/\i.size=1/\i.bytes=8:=by
 have h:(Tryz.prog.info? 3).map (fun i=>(i.size,i.bytes,i.zero))=some (1,8,some (.int .i64 0)):=by kernel_rfl
 cases hi:Tryz.prog.info? 3 with
 | none=>rw[hi]at h;cases h
 | some i =>
  rw[hi]at h;simp only[Option.map_some,Option.some.injEq,Prod.mk.injEq]at h;exact ⟨i,rfl,h.2.2,h.1,h.2.1⟩
theorem Nr (n:Nat) (hn:n<=1000000) (w:World):(Instr.makeSlice 127 (.int .i64 n) (.int .i64 n)).run Tryz.prog w=.ok (.slice (some ⟨w.heap.size,0,none⟩) n n) (w.alloc (.cells (madeCells #[.int .i64 0] n) 3)):=by
 obtain⟨i,h1,h2,h3,h4⟩:=ZU;have h:=run_make (P:=Tryz.prog) w 127 3 i (.int .i64 0) Tryz.underlying127 h1 h2 .i64 .i64 n n (by omega) (by omega) (by rw[h4];omega) (by omega);rw [h3,Nat.mul_one,Int.toNat_natCast]at h;exact h
theorem Vo {r d:Nat} (hd:d<10000):Ig.Gr ((d:Int) :: Ig.grp r):=fun g hg=>by
 rcases List.mem_cons.1 hg with h|h
 · subst h;omega
 · exact Ig.dn r g h
theorem MI {r d:Nat} (hd:d<10000):Ig.bf ((d:Int) :: Ig.grp r)=Ig.grp (d+10000*r):=by
 rw[Ig.kN (Vo hd)]
 have h:Ig.aT ((d:Int) :: Ig.grp r)=((d+10000*r:Nat):Int):=by
  show (d:Int)+10000*Ig.aT (Ig.grp r)=_
  rw[Ig.bY];omega
 rw[h,Int.toNat_natCast]
theorem ED {r d m:Nat} (hd:d<10000) (h:(Ig.grp r).length<=m):(Ig.grp (d+10000*r)).length<=m+1:=by
 refine Ig.fG ?_;have h1:=Nat.lt_of_lt_of_le (Ig.iZ r) (Nat.pow_le_pow_right (show 0<10000 by decide) h);rw [Nat.pow_succ];generalize 10000 ^ m=p at *;omega
theorem EY {W:World} {g o B:Nat} {A:Option Addr} {p:List Int} (h:At 1 aO W B A p) (hne:∀b off,A=some ⟨b,off,none⟩->b≠g) (u:Value):At 1 aO (W.setCell ⟨g,o,none⟩ u) B A p:=fun h0=>by
 obtain⟨b,off,e,hb,hc⟩:=h h0;exact ⟨b,off,e,hb,fun i c hi j v hj=>(ni (Below.heap_setCell W ⟨g,o,none⟩ u b (hne b off e))).trans (hc i c hi j v hj)⟩
theorem UU {W:World} {g o a n c b off:Nat} (h:aI W a (.slice (some ⟨b,off,none⟩) n c)) (hne:b≠g) (u:Value):aI (W.setCell ⟨g,o,none⟩ u) a (.slice (some ⟨b,off,none⟩) n c):=by
 obtain⟨A',cap,h1,h2,h3,h4⟩:=h.out;simp only[Value.slice.injEq]at h1;obtain ⟨rfl,rfl,rfl⟩:=h1;exact ⟨_,_,rfl,(EY h2 (fun b' off' e=>by simp only[Option.some.injEq,Addr.mk.injEq]at e;omega) u).more (KeepsOthers.setCell W _ u).size,h3,h4⟩
def JZ (l:List Int) (b:Nat) (pre:List (Fin l.length)):List Int:=(List.range l.length).map fun t=>((dq l b pre t:Nat):Int)
theorem R_ (l:List Int) (b:Nat) (pre:List (Fin l.length)):(JZ l b pre).length=l.length:=by simp[JZ]
theorem MZ {W:World} {g b:Nat} {l:List Int} {pre:List (Fin l.length)} (h:Bx W g 3 (mO l b pre)):At 1 aO W W.heap.size (some ⟨g,0,none⟩) (JZ l b pre):=fun _=>by
 refine⟨g,0,rfl,h.lt,fun i c hi j u hj=>?_⟩
 obtain rfl:j=0:=by
  rcases j with _|j;· rfl
  · simp[aO]at hj
 obtain rfl:u=.int .i64 c:=by simpa [aO] using hj.symm
 rw[Nat.zero_add,Nat.mul_one,Nat.add_zero];refine h.cell i ?_
 unfold JZ at hi
 unfold mO
 rw[List.getElem?_map]at hi;rw [List.getElem?_toArray,List.getElem?_map]
 cases hr:(List.range l.length)[i]? with
 | none=>rw[hr]at hi;cases hi
 | some t=>rw[hr]at hi;simp only[Option.map_some,Option.some.injEq]at hi ⊢;rw[hi]
theorem W_ (l:List Int) (b:Nat):∀(n:Nat) (pre:List (Fin l.length)),pre.length=n->∀t,dq l b pre t<10000
 | 0,pre,h,t=>by rw[List.length_eq_zero_iff.1 h,RZ];decide
 | n+1,pre,h,t=>by
  rcases List.eq_nil_or_concat pre with h0|⟨m,x,h0⟩
  · rw[h0]at h;simp at h
  · obtain rfl:pre=m++[x]:=by simpa using h0
    rw[EL]
    split
    · exact Nat.mod_lt _ (by decide)
    · exact W_ l b n m (by simpa using h) t
theorem NW (a:Nat) {b:Nat} (hb:0<b):Ig.bf (JZ (Ig.grp a) b (dL (Ig.grp a).length))=Ig.grp (a / b):=by
 rw[Ig.kN (fun g hg=>by
  obtain⟨t,_,rfl⟩:=List.mem_map.1 hg;have:=W_ (Ig.grp a) b _ (dL (Ig.grp a).length) rfl t
  omega)]
 have h:=LV (Ig.dn a) hb (Ig.grp a).length (Nat.le_refl _);rw [Nat.sub_self,List.drop_zero,Ig.oD,Ig.bY,Int.toNat_natCast]at h
 unfold JZ
 rw[h,Int.toNat_natCast]
theorem zf {fn:Func} {t u:Tmp} {g g':Nat} {A A':Option Addr} {n n' c c':Nat} (h:fn.results=#[.cell t 127,.cell u 127]) (tmps:Array Value) (w:World) (ht:tmps.getD t undef=.pointer (some ⟨g,0,none⟩)) (hu:tmps.getD u undef=.pointer (some ⟨g',0,none⟩))
 (hB:Bx w g 127 #[.slice A n c]) (hB':Bx w g' 127 #[.slice A' n' c']) :
 (results fn tmps).run Tryz.prog w=.ok (.tuple #[.slice A n c,.slice A' n' c']) w:=by
 have h0:=hB.cell 0 rfl;have h0':=hB'.cell 0 rfl;have ht':tmps[t]?.getD undef=.pointer (some ⟨g,0,none⟩):=by simpa using ht
 have hu':tmps[u]?.getD undef=.pointer (some ⟨g',0,none⟩):=by simpa using hu
 simp only[results,h];simp [go_sem,ht',hu',h0,h0',loadVar]
theorem Gs (a b:Nat) (v1 v2:Value) (w:World) (h1:aI w a v1) (h2:aI w b v2) (hb0:0<b) (la:(Ig.grp a).length<=20000) (lb:(Ig.grp b).length<=15000) :
 Calls Tryz.prog 98 #[v1,v2] w fun e w'=>∃q r,e=.returned (.tuple #[q,r])/\aI w' (a / b) q/\aI w' (a % b) r/\Below w.heap.size w w':=by
 obtain⟨A1,c1,rfl,hA1,hn1,hm1⟩:=h1.out;obtain ⟨A2,c2,rfl,hA2,hn2,hm2⟩:=h2.out;have rZ:(Ig.grp a).length<=20000:=la;refine (callsIn_wide (n:=3)).1 ?_;refine callsIn_of_wp_marks Tryz.func98 rfl trivial ?_ rfl;simp only[Tryz.ntmps98,List.size_toArray,List.length_cons,List.length_nil,Nat.reduceAdd,Nat.reduceSub,Array.replicate_succ,Array.replicate_zero,List.push_toArray,List.append_toArray,List.nil_append,List.cons_append];have hmk:=Nr (Ig.grp a).length (by omega)
 gi_wp2_with (refine ⟨trivial,?_⟩;gi_at_call 137;refine (yR Fence.wide 2 trivial rfl _ _ _ _).mono ?_;rintro e w' ⟨rfl,rfl⟩)
 obtain⟨W1,hW1⟩:∃W1,W1=w.alloc (.cells #[.slice A2 (Ig.grp b).length c2] 127):=⟨_,rfl⟩
 obtain⟨W2,hW2⟩:∃W2,W2=W1.alloc (.cells #[.slice (some ⟨w.heap.size+1+1+1,0,none⟩) (Ig.grp a).length (Ig.grp a).length] 127):=⟨_,rfl⟩
 obtain⟨W3,hW3⟩:∃W3,W3=W2.alloc (.cells #[.slice none 0 0] 127):=⟨_,rfl⟩
 obtain⟨W4,OM⟩:∃W4,W4=W3.alloc (.cells (madeCells #[.int .i64 0] (Ig.grp a).length) 3):=⟨_,rfl⟩
 obtain⟨W0,hW0⟩:∃W0,W0=W4.alloc (.cells #[.slice A1 (Ig.grp a).length c1] 127):=⟨_,rfl⟩
 rw[←hW1,←hW2,←hW3,←OM,←hW0];have s1:W1.heap.size=w.heap.size+1:=by rw[hW1,ah]
 have s2:W2.heap.size=w.heap.size+1+1:=by rw[hW2,ah,s1]
 have s3:W3.heap.size=w.heap.size+1+1+1:=by rw[hW3,ah,s2]
 have s4:W4.heap.size=w.heap.size+1+1+1+1:=by rw[OM,ah,s3]
 have hsz:W0.heap.size=w.heap.size+5:=by rw[hW0,ah,s4]
 have hb5:Below w.heap.size w W0:=by rw[hW0,OM,hW3,hW2,hW1];exact bNew (bNew (bNew (bNew (au w _) _) _) _) _
 have b1:=Bx.mk w 127 #[.slice A2 (Ig.grp b).length c2];have b2:=Bx.mk W1 127 #[.slice (some ⟨w.heap.size+1+1+1,0,none⟩) (Ig.grp a).length (Ig.grp a).length];have b3:=Bx.mk W2 127 #[.slice none 0 0];have b4:=Bx.mk W3 3 (madeCells #[.int .i64 0] (Ig.grp a).length);have B7:=Bx.mk W4 127 #[.slice A1 (Ig.grp a).length c1];rw [←hW1]at b1;rw [←hW2,s1]at b2;rw [←hW3,s2]at b3;rw [←OM,s3,Jq (Ig.grp a) b]at b4;rw [←hW0,s4]at B7;have b4':=b4.new (.cells #[.slice A1 (Ig.grp a).length c1] 127);have b3':=(b3.new (.cells (madeCells #[.int .i64 0] (Ig.grp a).length) 3)).new (.cells #[.slice A1 (Ig.grp a).length c1] 127);have b2':=((b2.new (.cells #[.slice none 0 0] 127)).new (.cells (madeCells #[.int .i64 0] (Ig.grp a).length) 3)).new (.cells #[.slice A1 (Ig.grp a).length c1] 127);have b1':=(((b1.new (.cells #[.slice (some ⟨w.heap.size+1+1+1,0,none⟩) (Ig.grp a).length (Ig.grp a).length] 127)).new (.cells #[.slice none 0 0] 127)).new (.cells (madeCells #[.int .i64 0] (Ig.grp a).length) 3)).new (.cells #[.slice A1 (Ig.grp a).length c1] 127);rw [←hW0]at b4';rw [←OM,←hW0]at b3';rw [←hW3,←OM,←hW0]at b2';rw [←hW2,←hW3,←OM,←hW0]at b1';have hI0:IJ w a b (.slice A2 (Ig.grp b).length c2) [] W0:=⟨hb5,by omega,b1',b2',⟨_,b3',⟨none,0,by simp[hor,Ig.aP],by simp only[hor,List.foldl_nil,Nat.zero_mod,Ig.aP];exact At.nil,by simp[hor,Ig.aP],Nat.zero_le _⟩⟩,b4'⟩
 clear b1 b2 b3 b4 b1' b2' b3' b4' hW0 hW1 hW2 hW3 OM hmk s1 s2 s3 s4 hb5
 refine wpIn_rangeFunc_ownG rfl (by decide) (gf:=180) (lb:=#[.pointer (some ⟨w.heap.size+1+1+1+1,0,none⟩)]) rfl trivial (enters_of Tryz.func180 (by kernel_rfl) rfl)
  (pV Fence.wide 2 trivial rfl (by decide) (w.heap.size+1+1+1+1) w.heap.size A1 c1 (Ig.grp a) (by omega) W0 (by omega) (by omega) (B7.cell 0 rfl) (hA1.below hI0.hb)) vY.trans (Ll (by omega) (by omega)) (Below.refl _ _) (fun _=>rfl)
  (fun pre W=>IJ w a b (.slice A2 (Ig.grp b).length c2) pre W) (fun _ _ _=>False)
  (fun pre W W' row hs hg hr=>hs.kept hg (fun r e=>⟨by have:=(hr r e).1;omega,(hr r e).2⟩))
  (fun _ _ _ _ _ hs _ _=>hs)
  hI0
  (fun x=>{ tmps:=#[.slice A1 (Ig.grp a).length c1,.slice A2 (Ig.grp b).length c2,undef,.pointer (some ⟨w.heap.size,0,none⟩),.pointer (some ⟨w.heap.size+1,0,none⟩),.pointer (some ⟨w.heap.size+1+1,0,none⟩),.int .i64 (x.1:Int),.int .i64 (Ig.grp a)[x.1],undef,undef,.slice A1 (Ig.grp a).length c1,.int .i64 ((Ig.grp a).length:Int),.slice (some ⟨w.heap.size+1+1+1,0,none⟩) (Ig.grp a).length (Ig.grp a).length,
   .slice A1 (Ig.grp a).length c1,.func (.func 180) #[] #[.pointer (some ⟨w.heap.size+1+1+1+1,0,none⟩)],.int .i64 (x.1:Int),.int .i64 (Ig.grp a)[x.1],undef,undef,undef,undef,undef,undef,undef,undef,undef,undef,undef,undef,undef,undef,undef,undef,undef,undef,undef,undef,undef,undef,undef,undef],defers:=[] }) ?assign ?body ?done ?stop
 case assign =>
  intro l x W K hK;simp only[handed]
  gi_wp2
  exact hK
 case body =>
  rintro l pre x W ⟨hb,hle,B3,Bq,⟨v,Br,Zn⟩,Bc⟩ hlt;have hgx:=Ig.dn a (Ig.grp a)[x.1] (List.getElem_mem x.2);obtain ⟨d,hd⟩:=Int.eq_ofNat_of_zero_le hgx.1;have hd9:d<10000:=by omega
  have hsn:Kp (hor (Ig.grp a) (pre++[x])=hor (Ig.grp a) pre*10000+d):=⟨by rw[ou,hd,Int.toNat_natCast]⟩
  simp only[hd];generalize hor (Ig.grp a) pre=y at *;obtain ⟨A5,c5,rfl,YD,OL,Vf⟩:=Zn.out;have hyl:(Ig.grp (y % b)).length<=15000:=Nat.le_trans (Ig.fG (Nat.lt_of_lt_of_le (Nat.mod_lt y hb0) (Nat.le_of_lt (Ig.iZ b)))) lb;have B51:=Br.new (.cells #[.int .i64 d] 3);have hcell1:=B51.cell 0 rfl;have hP:Src Tryz.prog 1 127 (.slice A5 (Ig.grp (y % b)).length c5) (Ig.grp (y % b)).length ((Ig.grp (y % b)).flatMap aO) (W.alloc (.cells #[.int .i64 d] 3)):=At.src (f:=aO) (size:=1) (e:=3) (fun _=>rfl) (fun c u hu=>by simp[aO]at hu;subst hu;rfl) Tryz.underlying127 (YD.below (au W _)) c5
  gi_wp2_with (gi_at_builtin;refine nJ _ _ _ (by kernel_rfl) ?_;refine aK rfl (.tmp 18) (.tmp 19) rfl W.heap.size 1 1 (Ig.grp (y % b)).length [.int .i64 d] ((Ig.grp (y % b)).flatMap aO) _ _ rfl rfl ⟨W.heap.size,_,rfl,Nat.le_refl _,Nat.le_refl _,Bx.mk _ _ _,rfl,rfl⟩ (by rw[ah];omega) hP (by decide) (by omega) ?_;intro v' w' cap' e1 e2 e3 e4)
  have hb7:=(au W (.cells #[.int .i64 d] 3)).trans ((e2 trivial).mono (by rw[ah];omega));have hlen:1+(Ig.grp (y % b)).length=((d:Int) :: Ig.grp (y % b)).length:=by rw[List.length_cons];omega
  have hfl:[Value.int .i64 d]++(Ig.grp (y % b)).flatMap aO=((d:Int) :: Ig.grp (y % b)).flatMap aO:=rfl;rw [hlen,hfl]at e3;obtain ⟨g6,hv6,hg6⟩:∃g6,v'=.slice (some ⟨g6,0,none⟩) ((d:Int) :: Ig.grp (y % b)).length cap'/\W.heap.size<=g6:=by obtain⟨g7,_,h,h7,_⟩:=e3;exact⟨g7,h,h7⟩
  obtain⟨A6,Vb,hA6,hcap6⟩:=cO.at (f:=aO) (size:=1) (fun _=>rfl) e3;obtain rfl:A6=some ⟨g6,0,none⟩:=by rw[hv6]at Vb;simp only[Value.slice.injEq]at Vb;exact Vb.1.symm
  subst hv6;clear Vb;have hT:=jk ((d:Int) :: Ig.grp (y % b)) (some ⟨g6,0,none⟩) cap' w' hA6 hcap6 (by rw[←hlen];omega);have Br7:=Br.call hb7;have Yr:=Br7.cell 0 rfl;have Yq:=Br7.frozen 0;clear hlen hfl hP hcell1 B51 e1 e2;have OO:aI w' (d+10000*(y % b)) (.slice (some ⟨g6,0,none⟩) (Ig.bf ((d:Int) :: Ig.grp (y % b))).length cap'):=wP hA6 hcap6 e4 ⟨MI hd9⟩;generalize (Ig.bf ((d:Int) :: Ig.grp (y % b))).length=n6 at *
  go_wp2_with (go_at_call 138;refine hT.mono ?_;rintro e w9 ⟨rfl,rfl⟩)
  have hb8:=aJ (aj hb hb7) (p:=⟨w.heap.size+1+1,0,none⟩) (by show w.heap.size<=w.heap.size+1+1;omega) (.slice (some ⟨g6,0,none⟩) n6 cap');have Ud:=(B3.call hb7).far (p:=⟨w.heap.size+1+1,0,none⟩) (by simp;omega) (.slice (some ⟨g6,0,none⟩) n6 cap');have OC:=(Bq.call hb7).far (p:=⟨w.heap.size+1+1,0,none⟩) (by simp) (.slice (some ⟨g6,0,none⟩) n6 cap');have Kw:=(Bc.call hb7).far (p:=⟨w.heap.size+1+1,0,none⟩) (by simp) (.slice (some ⟨g6,0,none⟩) n6 cap');have Kv:Bx (w'.setCell ⟨w.heap.size+1+1,0,none⟩ (.slice (some ⟨g6,0,none⟩) n6 cap')) (w.heap.size+1+1) 127 #[.slice (some ⟨g6,0,none⟩) n6 cap']:=Br7.set 0 _;have Vm:=kH Br7 OO (.slice (some ⟨g6,0,none⟩) n6 cap');have aai:=(fF hb7 W0.heap.size).trans ((KeepsOthers.setCell w' ⟨w.heap.size+1+1,0,none⟩ (.slice (some ⟨g6,0,none⟩) n6 cap')).from W0.heap.size);have Ym:vY w.heap.size (w.heap.size+1+1+1+1) W (w'.setCell ⟨w.heap.size+1+1,0,none⟩ (.slice (some ⟨g6,0,none⟩) n6 cap')):=vY.trans ⟨hb7.mono (by omega),hb7.block _ (by omega)⟩ ⟨(Below.refl _ _).setCell (by show w.heap.size<=w.heap.size+1+1;omega) _,Below.heap_setCell _ _ _ _ (by simp;omega)⟩;clear hT Yr Yq Br7 hb7 OO hA6 hcap6 e3 e4;generalize w'.setCell ⟨w.heap.size+1+1,0,none⟩ (.slice (some ⟨g6,0,none⟩) n6 cap')=W8 at *;have hst:=Ig.vM (R:=y) hb0 hd9;have Z8:Kp (hor (Ig.grp a) (pre++[x]) / b % 10000=(d+10000*(y % b)) / b):=⟨by rw[hsn.out,show y*10000+d=d+10000*y by omega,hst.2.1,Nat.add_mul_mod_self_left,Nat.mod_eq_of_lt hst.1]⟩
  have hsn3:Kp (hor (Ig.grp a) (pre++[x]) % b=(d+10000*(y % b))-b*((d+10000*(y % b)) / b)):=⟨by rw[hsn.out,show y*10000+d=d+10000*y by omega,hst.2.2];exact Nat.mod_eq_sub_mul_div⟩
  have aac:b*((d+10000*(y % b)) / b)<=d+10000*(y % b):=Nat.mul_div_le _ _;have hq9:(d+10000*(y % b)) / b<=9999:=by have:=hst.1;omega
  have hRl:(Ig.grp (d+10000*(y % b))).length<=15000+1:=ED hd9 hyl;have hdf:=fun e=>Ig.Dv (R:=d+10000*(y % b)) (d:=e) hb0
  clear hst hsn hyl;generalize d+10000*(y % b)=R at *;generalize R / b=q at *;have hbN:aI W8 b (.slice A2 (Ig.grp b).length c2):=⟨A2,c2,rfl,(hA2.below hb8).more hb8.size,hn2,hm2⟩
  have hs8:w.heap.size+1+1+1+1<W8.heap.size:=Nat.lt_of_lt_of_le (by omega) Ym.1.size;obtain ⟨W9,hW9⟩:∃W9,W9=W8.alloc (.cells #[.func (.func 139) #[.slice A2 (Ig.grp b).length c2] #[]] 160):=⟨_,rfl⟩
  have hbn:=au W8 (.cells #[.func (.func 139) #[.slice A2 (Ig.grp b).length c2] #[]] 160);have Xo:=Bx.mk W8 160 #[.func (.func 139) #[.slice A2 (Ig.grp b).length c2] #[]];rw [←hW9]at hbn Xo;have k3:=Ud.cell 0 rfl
  gi_wp2
  rw[←hW9];have aY:=aj hb8 hbn;have Vh:=aai.trans (fF hbn W0.heap.size);have Vg:vY w.heap.size (w.heap.size+1+1+1+1) W W9:=vY.trans Ym ⟨hbn.mono (by omega),hbn.block _ hs8⟩;replace Ud:=Ud.call hbn;replace OC:=OC.call hbn;replace Kv:=Kv.call hbn;replace Kw:=Kw.call hbn;replace Vm:=Vm.call hbn;replace hbN:=hbN.call hbn;have h98:W8.heap.size<W9.heap.size:=by rw[hW9,ah];omega
  clear hb8 aai Ym k3 hbn hW9;generalize W8.heap.size=g8 at *;have hl3:∀e,e<10000->(Ig.grp (b*(e+1))).length<=90000:=fun e he=>Nat.le_trans (nO (n:=2) lb (Nat.lt_of_lt_of_le (show e+1<10002 by omega) (by decide))) (by omega)
  have hf:=fun (W':World) (e:Nat) (hW:Below W9.heap.size W9 W') (he:e<9999)=>Nc b R e (.slice A2 (Ig.grp b).length c2) (.slice (some ⟨g6,0,none⟩) n6 cap') g8 (w.heap.size+1+1) W' (Xo.call hW) (Kv.call hW) (hbN.call hW) (Vm.call hW) (by omega) (by omega) (by omega) (hl3 e (by omega))
  have Zk:∀e,decide (R<b*(e+1))=decide (q<=e):=fun e=>by
   have:=hdf e
   rcases Nat.lt_or_ge e q with h|h
   · rw[decide_eq_false (by omega),decide_eq_false (by omega)]
   · rw[decide_eq_true (by omega),decide_eq_true (by omega)]
  simp only[Zk]at hf;clear hl3 hdf Zk;obtain ⟨v6,hv6⟩:∃v6,v6=Value.slice (some ⟨g6,0,none⟩) n6 cap':=⟨_,rfl⟩
  have ZY:x.1<(mO (Ig.grp a) b pre).size:=by simp[mO]
  have hxn:=x.2;have cq:=fun w1 (hb1:Below W9.heap.size W9 w1)=>(hb1.cell (p:=⟨w.heap.size+1,0,none⟩) OC.lt).trans (OC.cell 0 rfl)
  refine jf [ak (.slice (some ⟨w.heap.size+1+1+1,0,none⟩) (Ig.grp a).length (Ig.grp a).length),ak (.int .i64 (x.1:Int)),ak (.func (.func 140) #[] #[.pointer (some ⟨g8,0,none⟩),.pointer (some ⟨w.heap.size+1+1,0,none⟩)]),ak (.int .i64 (q:Int)),ak (.pointer (some ⟨w.heap.size+1+1+1,x.1,none⟩))] 5 41 (by kernel_rfl) (by kernel_rfl) rfl rfl (by kernel_rfl) ?_ ?_ ?_
  · simp only[bV]
    and_intros <;> first|exact aF _|trivial
  · simp only[Users,List.take,List.length];refine ⟨?_,?_,?_,?_,?_,trivial⟩;all_goals (intro vs w1 hb1 hd;have c3:=cq w1 hb1;clear cq;simp only[aQ,Act.put,List.nil_append,List.cons_append,List.setIfInBounds_toArray,List.set_cons_succ,List.set_cons_zero,Nat.reduceAdd])
    · clear hd hf;go_wp2;exact⟨Below.refl _ _,rfl⟩
    · clear hd hf;go_wp2;exact⟨Below.refl _ _,rfl⟩
    · clear hd hf;go_wp2;exact⟨Below.refl _ _,rfl⟩
    · have h2:vs 2=.func (.func 140) #[] #[.pointer (some ⟨g8,0,none⟩),.pointer (some ⟨w.heap.size+1+1,0,none⟩)]:=hd 2 rfl;have hC:=Jg q g8 (w.heap.size+1+1) w1 hq9 (fun W' e hW he=>hf W' e (aj hb1 hW) he);clear hd hf;rw [h2];go_wp2_with fail;refine hC.mono ?_;clear hC;rintro _ w9 ⟨rfl,aY⟩;go_wp2;rfl
    · have h0:vs 0=.slice (some ⟨w.heap.size+1+1+1,0,none⟩) (Ig.grp a).length (Ig.grp a).length:=hd 0 rfl;have h1:vs 1=.int .i64 (x.1:Int):=hd 1 rfl;clear hd hf;rw [h0,h1];go_wp2;exact ⟨Below.refl _ _,rfl⟩
  · clear cq hf;intro vs wa hba hR;simp only[cZ,ak]at hR;obtain ⟨-,-,-,e3,e4,-⟩:=hR;simp only[List.drop,List.take,List.map,aQ,Act.put,List.setIfInBounds_toArray,List.set_cons_succ,List.set_cons_zero,Nat.reduceAdd];rw [e3,e4];generalize vs 0=z0,vs 1=z1,vs 2=z2;clear e3 e4;replace Ud:=Ud.call hba;replace OC:=OC.call hba;replace Kv:=Kv.call hba;replace Kw:=Kw.call hba;replace Xo:=Xo.call hba;replace Vm:=Vm.call hba;replace hbN:=hbN.call hba;replace aY:=aj aY hba;replace Vh:=Vh.trans (fF hba W0.heap.size);replace Vg:vY w.heap.size (w.heap.size+1+1+1+1) W wa:=Vg.trans ⟨hba.mono (by have:=aY.size;omega),hba.block _ (by omega)⟩;have hce:=Kw.cell x.1 (Array.getElem?_eq_getElem ZY);have hfr:=Kw.frozen x.1;go_wp2;have JL:=aJ aY (p:=⟨w.heap.size+1+1+1,x.1,none⟩) (by show w.heap.size<=w.heap.size+1+1+1;omega) (.int .i64 (q:Int));have aak:=Vh.trans ((KeepsOthers.setCell wa ⟨w.heap.size+1+1+1,x.1,none⟩ (.int .i64 (q:Int))).from W0.heap.size);have aah:vY w.heap.size (w.heap.size+1+1+1+1) W (wa.setCell ⟨w.heap.size+1+1+1,x.1,none⟩ (.int .i64 (q:Int))):=Vg.trans ⟨(Below.refl _ _).setCell (by show w.heap.size<=w.heap.size+1+1+1;omega) _,Below.heap_setCell _ _ _ _ (by simp)⟩;have h810:g8<(wa.setCell ⟨w.heap.size+1+1+1,x.1,none⟩ (.int .i64 (q:Int))).heap.size:=Nat.lt_of_lt_of_le (Nat.lt_of_lt_of_le h98 hba.size) (KeepsOthers.setCell wa _ _).size;replace Ud:=Ud.far (p:=⟨w.heap.size+1+1+1,x.1,none⟩) (by simp;omega) (.int .i64 (q:Int));replace OC:=OC.far (p:=⟨w.heap.size+1+1+1,x.1,none⟩) (by simp) (.int .i64 (q:Int));replace Kv:=Kv.far (p:=⟨w.heap.size+1+1+1,x.1,none⟩) (by simp) (.int .i64 (q:Int));replace Xo:=Xo.far (p:=⟨w.heap.size+1+1+1,x.1,none⟩) (by simp;omega) (.int .i64 (q:Int));replace Kw:=Kw.set x.1 (.int .i64 (q:Int));replace Vm:=UU (g:=w.heap.size+1+1+1) (o:=x.1) Vm (by omega) (.int .i64 (q:Int));have aat:aI (wa.setCell ⟨w.heap.size+1+1+1,x.1,none⟩ (.int .i64 (q:Int))) b (.slice A2 (Ig.grp b).length c2):=⟨A2,c2,rfl,(hA2.below JL).more JL.size,hn2,hm2⟩
    have hcx:=Kw.cell x.1 (v:=.int .i64 (q:Int)) (by rw[Array.getElem?_setIfInBounds_self_of_lt ZY]);rw [←Z8.out,Jp]at Kw;clear hbN aY Vh Vg hce hfr hba;rw [Z8.out]at Kw;generalize wa.setCell ⟨w.heap.size+1+1+1,x.1,none⟩ (.int .i64 (q:Int))=Xe at *
    gi_wp2
    have hbl:(Ig.grp (b*q)).length<=15000+1:=Nat.le_trans (Ry aac) hRl;have cq:=fun w1 (hb1:Below Xe.heap.size Xe w1)=>(hb1.cell (p:=⟨w.heap.size+1,0,none⟩) OC.lt).trans (OC.cell 0 rfl)
    have cr:=fun w1 (hb1:Below Xe.heap.size Xe w1)=>(hb1.cell (p:=⟨w.heap.size+1+1,0,none⟩) Kv.lt).trans (Kv.cell 0 rfl)
    have c9:=fun w1 (hb1:Below Xe.heap.size Xe w1)=>(hb1.cell (p:=⟨g8,0,none⟩) Xo.lt).trans (Xo.cell 0 rfl)
    have cx:=fun w1 (hb1:Below Xe.heap.size Xe w1)=>(hb1.cell (p:=⟨w.heap.size+1+1+1,x.1,none⟩) Kw.lt).trans hcx
    refine jf [ak (.slice (some ⟨g6,0,none⟩) n6 cap'),ak (.func (.func 139) #[.slice A2 (Ig.grp b).length c2] #[]),ak (.slice (some ⟨w.heap.size+1+1+1,0,none⟩) (Ig.grp a).length (Ig.grp a).length),ak (.int .i64 (x.1:Int)),ak (.pointer (some ⟨w.heap.size+1+1+1,x.1,none⟩)),ak (.int .i64 (q:Int)),(fun v W=>aI W (b*q) v),(fun v W=>aI W (R-b*q) v)] 8 41 (by kernel_rfl) (by kernel_rfl) rfl rfl (by kernel_rfl) ?_ ?_ ?_
    · simp only[bV]
      and_intros <;> first|exact aF _|exact fun v w w' h hb=>h.call hb|trivial
    · simp only[Users,List.take,List.length];refine ⟨?_,?_,?_,?_,?_,?_,?_,?_,trivial⟩;all_goals (intro vs w1 hb1 hd;have c2':=cq w1 hb1;have c3':=cr w1 hb1;have c4':=c9 w1 hb1;have c5':=cx w1 hb1;have Ro:=aat.call hb1;have OO:=Vm.call hb1;clear cq cr c9 cx;simp only[aQ,Act.put,List.nil_append,List.cons_append,List.setIfInBounds_toArray,List.set_cons_succ,List.set_cons_zero,Nat.reduceAdd])
      · clear hd;go_wp2;exact⟨Below.refl _ _,rfl⟩
      · clear hd;go_wp2;exact⟨Below.refl _ _,rfl⟩
      · clear hd;go_wp2;exact⟨Below.refl _ _,rfl⟩
      · clear hd;go_wp2;exact⟨Below.refl _ _,rfl⟩
      · have h2:vs 2=.slice (some ⟨w.heap.size+1+1+1,0,none⟩) (Ig.grp a).length (Ig.grp a).length:=hd 2 rfl;have h3:vs 3=.int .i64 (x.1:Int):=hd 3 rfl;clear hd;rw [h2,h3];go_wp2;exact ⟨Below.refl _ _,rfl⟩
      · have h4:vs 4=.pointer (some ⟨w.heap.size+1+1+1,x.1,none⟩):=hd 4 rfl;clear hd;rw [h4];go_wp2;exact ⟨Below.refl _ _,rfl⟩
      · have h1':vs 1=.func (.func 139) #[.slice A2 (Ig.grp b).length c2] #[]:=hd 1 rfl;have h5:vs 5=.int .i64 (q:Int):=hd 5 rfl;clear hd;rw [h1',h5];have hC:=EU b q _ _ Ro (by omega) (by omega);go_wp2_with fail;refine hC.mono ?_;clear hC;rintro _ w9 ⟨v9,rfl,rZ,aY⟩;go_wp2;exact rZ
      · have h0:vs 0=.slice (some ⟨g6,0,none⟩) n6 cap':=hd 0 rfl;have h6:aI w1 (b*q) (vs 6):=hd 6 rfl;clear hd;rw [h0];have hC:=rX R (b*q) _ (vs 6) w1 OO h6 aac (by omega);go_wp2_with fail;refine hC.mono ?_;clear hC;rintro _ w9 ⟨v9,rfl,rZ,aY⟩;go_wp2;exact rZ
    · clear cq cr c9 cx;intro vs wb hbb hR;simp only[cZ,ak]at hR;obtain ⟨-,-,-,-,-,-,-,e7,-⟩:=hR;simp only[List.drop,List.take,List.map,aQ,Act.put,List.setIfInBounds_toArray,List.set_cons_succ,List.set_cons_zero,Nat.reduceAdd];replace Ud:=Ud.call hbb;replace OC:=OC.call hbb;replace Kv:=Kv.call hbb;replace Kw:=Kw.call hbb;have Vk:=aj JL hbb;have aaj:=aak.trans (fF hbb W0.heap.size);have WQ:vY w.heap.size (w.heap.size+1+1+1+1) W wb:=aah.trans ⟨hbb.mono (by have:=JL.size;omega),hbb.block _ (by omega)⟩;generalize vs 7=z7 at *;generalize vs 0=z0,vs 1=z1,vs 2=z2,vs 3=z3,vs 4=z4,vs 5=z5,vs 6=z6;obtain ⟨A9,c9,rfl,Fv,hn9',QN⟩:=e7.out;have hce:=Kv.cell 0 rfl;have hfr:=Kv.frozen 0;clear Fv hn9' QN Vm aat hcx;generalize (Ig.grp (R-b*q)).length=n9 at *;go_wp2;refine ⟨aaj.trans ((KeepsOthers.setCell _ _ _).from _),WQ.trans ⟨(Below.refl _ _).setCell (by show w.heap.size<=w.heap.size+1+1;omega) _,Below.heap_setCell _ _ _ _ (by simp;omega)⟩,aJ Vk (by show w.heap.size<=w.heap.size+1+1;omega) _,Nat.le_trans hle (Nat.le_trans WQ.1.size (KeepsOthers.setCell _ _ _).size),Ud.far (by simp;omega) _,OC.far (by simp) _,⟨_,Kv.set 0 _,?_⟩,Kw.far (by simp) _⟩;rw [hsn3.out];exact kH Kv e7 _
 case done =>
  rintro D ys W hD rfl ⟨hb,hle,B3,Bq,⟨v,Br,Zn⟩,Bc⟩ hK;rw [Ls]at Zn;have hdl:=R_ (Ig.grp a) b (dL (Ig.grp a).length);have hda:=fun w1 (hb1:Below W.heap.size W w1)=>MZ (Bc.call hb1)
  have hdt:=NW a hb0;have cq:=fun w1 (hb1:Below W.heap.size W w1)=>(hb1.cell (p:=⟨w.heap.size+1,0,none⟩) Bq.lt).trans (Bq.cell 0 rfl)
  have cr:=fun w1 (hb1:Below W.heap.size W w1)=>(hb1.cell (p:=⟨w.heap.size+1+1,0,none⟩) Br.lt).trans (Br.cell 0 rfl)
  generalize JZ (Ig.grp a) b (dL (Ig.grp a).length)=ds at *;obtain ⟨A5,c5,rfl,YD,OL,Vf⟩:=Zn.out
  gi_wp2
  refine wpIn_wide.2 ?_;have hT:=fun w1 (hb1:Below W.heap.size W w1)=>jk ds (some ⟨w.heap.size+1+1+1,0,none⟩) (Ig.grp a).length w1 (hda w1 hb1) (by rw[hdl];omega) (by rw[hdl];omega)
  rw[hdl]at hT;have hNq:aI W (a / b) (.slice (some ⟨w.heap.size+1+1+1,0,none⟩) (Ig.bf ds).length (Ig.grp a).length):=wP (hda W (Below.refl _ _)) (by rw[hdl];omega) (by unfold maxLen;omega) ⟨hdt⟩;clear hdt hda hdl cq cr;generalize (Ig.bf ds).length=n6 at *;generalize (Ig.grp (a % b)).length=n7 at *;have hq0:=Bq.cell 0 rfl;have WM:=Bq.frozen 0;have hr0:=Br.cell 0 rfl;have hrf:=Br.frozen 0;have Bq2:=Bq.set 0 (.slice (some ⟨w.heap.size+1+1+1,0,none⟩) n6 (Ig.grp a).length);have Zq:=Br.far (p:=⟨w.heap.size+1,0,none⟩) (by simp) (.slice (some ⟨w.heap.size+1+1+1,0,none⟩) n6 (Ig.grp a).length);have hNq2:=kH Bq hNq (.slice (some ⟨w.heap.size+1+1+1,0,none⟩) n6 (Ig.grp a).length);have hNr2:=kH Bq Zn (.slice (some ⟨w.heap.size+1+1+1,0,none⟩) n6 (Ig.grp a).length);have hb2:=aJ hb (p:=⟨w.heap.size+1,0,none⟩) (by show w.heap.size<=w.heap.size+1;omega) (.slice (some ⟨w.heap.size+1+1+1,0,none⟩) n6 (Ig.grp a).length);have Bq3:=Bq2.far (p:=⟨w.heap.size+1+1,0,none⟩) (by simp) (.slice A5 n7 c5);have Br3:=Zq.set 0 (.slice A5 n7 c5);have Yz:=kH Zq hNq2 (.slice A5 n7 c5);have Yy:=kH Zq hNr2 (.slice A5 n7 c5);have hb3:=aJ hb2 (p:=⟨w.heap.size+1+1,0,none⟩) (by show w.heap.size<=w.heap.size+1+1;omega) (.slice A5 n7 c5);have hr4:=Zq.cell 0 rfl;have hrf4:=Zq.frozen 0;have hK1:=(Below.heap_setCell W ⟨w.heap.size+1,0,none⟩ (.slice (some ⟨w.heap.size+1+1+1,0,none⟩) n6 (Ig.grp a).length) D (by show D≠w.heap.size+1;omega)).trans hK;have hK2:=(Below.heap_setCell (W.setCell ⟨w.heap.size+1,0,none⟩ (.slice (some ⟨w.heap.size+1+1+1,0,none⟩) n6 (Ig.grp a).length)) ⟨w.heap.size+1+1,0,none⟩ (.slice A5 n7 c5) D (by show D≠w.heap.size+1+1;omega)).trans hK1;clear hb hle B3 Bq Br Zn Bc hNq hb2 hNq2 hNr2 Bq2 Zq YD OL Vf hK1;have hdr:=(Below.refl ((W.setCell ⟨w.heap.size+1,0,none⟩ (.slice (some ⟨w.heap.size+1+1+1,0,none⟩) n6 (Ig.grp a).length)).setCell ⟨w.heap.size+1+1,0,none⟩ (.slice A5 n7 c5)).heap.size ((W.setCell ⟨w.heap.size+1,0,none⟩ (.slice (some ⟨w.heap.size+1+1+1,0,none⟩) n6 (Ig.grp a).length)).setCell ⟨w.heap.size+1+1,0,none⟩ (.slice A5 n7 c5))).drew;replace Yz:=Yz.call hdr;replace Yy:=Yy.call hdr;replace Bq3:=Bq3.call hdr;replace Br3:=Br3.call hdr;replace hb3:=aj hb3 hdr;clear hdr;replace hK2:(((W.setCell ⟨w.heap.size+1,0,none⟩ (.slice (some ⟨w.heap.size+1+1+1,0,none⟩) n6 (Ig.grp a).length)).setCell ⟨w.heap.size+1+1,0,none⟩ (.slice A5 n7 c5)).drew).heap[D]? = some (.deferred (some [])):=hK2;have hT1:=hT W.drew ((Below.refl _ _).drew);clear hT
  go_region_with (refine hT1.mono ?_;rintro _ _ ⟨rfl,rfl⟩)
  all_goals (
   gi_wp2
   clear hT1 hq0 hr0 WM hrf hr4 hrf4;generalize ((W.setCell ⟨w.heap.size+1,0,none⟩ (.slice (some ⟨w.heap.size+1+1+1,0,none⟩) n6 (Ig.grp a).length)).setCell ⟨w.heap.size+1+1,0,none⟩ (.slice A5 n7 c5)).drew=W5 at *;refine ⟨by simp,.inl ⟨_,_,rfl,run_takeDeferred hK2,?_⟩⟩;have hg:=grownBy_putObj' W5 D (.deferred none);have hr:∀r,some D=some r->∃o:Obj,W5.heap[r]? = some o/\o.isCells=false:=fun r e=>by cases e;exact⟨_,hK2,rfl⟩
   exact⟨_,zf rfl _ _ rfl rfl (fH Bq3 hg hr) (fH Br3 hg hr),_,_,rfl,qM Yz hg hr,qM Yy hg hr,hb3.trans (belowK_b (w:=w) (Nat.le_refl _) W5 D _ _ (by omega) hK2 rfl rfl)⟩)
 case stop =>
  rintro D c pre W _ _ h _;exact h.elim
end Go.Proofs.YtelljijajgiabaaGreatDoor
