import Derived.Test.YtohgjenaclfegaaGreatDoorQI01
import Derived.Laws.MakeOwn
set_option linter.unusedVariables false
set_option linter.unusedSimpArgs false
set_option maxRecDepth 100000
set_option maxHeartbeats 8000000
namespace Go.Proofs.YtohgjenaclfegaaGreatDoor
open Go.RowKit Go.Shelf
attribute [local go_sem] Oper.semAt_some
theorem Pn {B n:Nat} {v:Value} {bs:List Value} {w w':World} (h:w.ownsRow B 5 1 v n bs) (hb:Below w.heap.size w w'):w'.ownsRow B 5 1 v n bs:=by
 refine⟨h.1,?_⟩
 rcases h.2 with h1|⟨g,cap,cur,h1,h2,h3,h4⟩
 · exact .inl h1
 · exact .inr ⟨g,cap,cur,h1,h2,(hb.block g (Array.getElem?_eq_some_iff.1 h3).1).trans h3,h4⟩
theorem FP {B b:Nat} {p:Value} {bs:List Value} {w w':World} (h:Lib.BuilderAt 169 5 B b p bs w) (hb:Below w.heap.size w w'):Lib.BuilderAt 169 5 B b p bs w':=by
 have hlt:=h.lt;obtain ⟨h1,v,h2,h3,h4⟩:=h;exact ⟨h1,v,(hb.block b hlt).trans h2,Pn h3 hb,h4⟩
theorem yS {B b:Nat} {bs:List Value} {w w':World} (h:Lib.IsBuilder 169 5 B b bs w) (hb:Below w.heap.size w w'):Lib.IsBuilder 169 5 B b bs w' :=
 h.elim (fun h=>.inl (FP h hb)) (fun h=>.inr (FP h hb))
theorem Pj {B n:Nat} {v:Value} {bs:List Value} {W W':World} {row:Option Nat} (h:W.ownsRow B 5 1 v n bs) (hg:W.grownBy W' row) (hr:∀r,row=some r->∃o:Obj,W.heap[r]? = some o/\o.isCells=false):W'.ownsRow B 5 1 v n bs:=by
 refine⟨h.1,?_⟩
 rcases h.2 with h1|⟨g,cap,cur,h1,h2,h3,h4⟩
 · exact .inl h1
 · exact .inr ⟨g,cap,cur,h1,h2,eU (show Bx W g 5 cur from h3) hg hr,h4⟩
theorem FN {B b:Nat} {p:Value} {bs:List Value} {W W':World} {row:Option Nat} (h:Lib.BuilderAt 169 5 B b p bs W) (hg:W.grownBy W' row) (hr:∀r,row=some r->∃o:Obj,W.heap[r]? = some o/\o.isCells=false):Lib.BuilderAt 169 5 B b p bs W':=by
 obtain⟨h1,v,h2,h3,h4⟩:=h;exact ⟨h1,v,eU (show Bx W b 169 #[p,v] from h2) hg hr,Pj h3 hg hr,h4⟩
theorem TA {B b:Nat} {bs:List Value} {W W':World} {row:Option Nat} (h:Lib.IsBuilder 169 5 B b bs W) (hg:W.grownBy W' row) (hr:∀r,row=some r->∃o:Obj,W.heap[r]? = some o/\o.isCells=false):Lib.IsBuilder 169 5 B b bs W' :=
 h.elim (fun h=>.inl (FN h hg hr)) (fun h=>.inr (FN h hg hr))
theorem vw {b:Nat} {W W':World} (h:Lib.OthersKept 5 (some b) W W') (hs:W.heap.size<=W'.heap.size) {B:Nat} (hB:b<B):KeepsFrom B W W':=⟨hs,fun k o hk ho hc=>h k o ho (by simp;omega) (fun c fz e=>by rw[e]at hc;cases hc)⟩
theorem Am {b g:Nat} {t:TypeId} {cs:Array Value} {W W':World} (h:Lib.OthersKept 5 (some b) W W') (hB:Bx W g t cs) (hg:g≠b) (ht:t≠5):Bx W' g t cs:=h g _ hB (by simp;omega) (fun c fz e=>by simp only[Obj.cells.injEq]at e;exact ht e.2.1)
def yN (d:Nat):Nat:=(Lib.decDigits d).length
theorem OX (k:Nat):Lib.repeatL [48] k=List.replicate k 48:=by
 induction k with
 | zero=>rfl
 | succ k ih=>rw[List.replicate_succ,←ih];simp[Lib.repeatL,List.replicate_succ]
structure KE (w:World) (neg:Bool) (v:Value) (l:List Int) (pre:List (Fin l.length)) (W:World):Prop where
 hb:Below w.heap.size w W
 le:w.heap.size+3<=W.heap.size
 B1:Bx W w.heap.size 299 #[.bool neg,v]
 Bb:Lib.IsBuilder 169 5 (w.heap.size+1) (w.heap.size+1) (Lib.byteCells (txt l pre)) W
 B3:Bx W (w.heap.size+1+1) 297 #[v]
theorem KE.kept {w W W':World} {neg:Bool} {v:Value} {l:List Int} {pre:List (Fin l.length)} {row:Option Nat} (h:KE w neg v l pre W) (hg:W.grownBy W' row) (hr:∀r,row=some r->w.heap.size<=r/\∃o:Obj,W.heap[r]? = some o/\o.isCells=false):KE w neg v l pre W' :=
 ⟨h.hb.grown hg h.hb.size (fun k e=>(hr k e).1),Nat.le_trans h.le hg.size,eU h.B1 hg (fun r e=>(hr r e).2),TA h.Bb hg (fun r e=>(hr r e).2),eU h.B3 hg (fun r e=>(hr r e).2)⟩
theorem K_ (neg:Bool) (A1:Option Addr) (c1:Nat) (w:World) :
 aT 217 #[.agg #[.bool neg,.slice A1 0 c1]] w (.tuple #[.string ⟨#[48]⟩,.int .i64 0]):=by
 have hb:=aA w (.cells #[.bool neg,.slice A1 0 c1] 299)
 go_enter Tryz.func217,Tryz.ntmps217
 go_wp2
 go_ret2
 exact⟨rfl,hb⟩
theorem Oi (neg:Bool) (a:Nat) (A1:Option Addr) (c1:Nat) (w:World) (hA1:At 1 aZ w w.heap.size A1 (Ig.grp a)) (hn1:(Ig.grp a).length<=c1) (h0:a≠0) (la:(Ig.grp a).length<=50000) (hE:Env w) (r:List UInt8) (k:Int)
 (hr1:Lib.nDigits a<=200->Kp (r=(if neg then 45 :: Lib.decDigits a else Lib.decDigits a)/\k=0)) (hr2:¬Lib.nDigits a<=200->Kp (r=[]/\k=30)) :
 aT 217 #[.agg #[.bool neg,.slice A1 (Ig.grp a).length c1]] w (.tuple #[.string ⟨r.toArray⟩,.int .i64 k]):=by
 have hl0:(Ig.grp a).length≠0:=fun e=>h0 (Ig.h_.1 e)
 have t0:decide (((Ig.grp a).length:Int)=0)=false:=decide_eq_false (by omega);have t1:(((Ig.grp a).length:Int)==0)=false:=beq_eq_false_iff_ne.2 (by omega);refine (callsIn_wide (n:=3)).1 ?_;refine callsIn_of_wp_marks Tryz.func217 rfl trivial ?_ rfl;simp only[Tryz.ntmps217,List.size_toArray,List.length_cons,List.length_nil,Nat.reduceAdd,Nat.reduceSub,Array.replicate_succ,Array.replicate_zero,List.push_toArray,List.append_toArray,List.nil_append,List.cons_append]
 gi_wp2_with (refine ⟨trivial,?_⟩;gi_at_call 258;refine (wS Fence.wide 2 trivial rfl _ _ _ _).mono ?_;rintro e w' ⟨rfl,rfl⟩)
 have hb0:=bNew (bNew (aA w (.cells #[.bool neg,.slice A1 (Ig.grp a).length c1] 299)) (.cells #[.pointer none,.slice none 0 0] 169)) (.cells #[.slice A1 (Ig.grp a).length c1] 297);have B1:=((Bx.mk w 299 #[.bool neg,.slice A1 (Ig.grp a).length c1]).new (.cells #[.pointer none,.slice none 0 0] 169)).new (.cells #[.slice A1 (Ig.grp a).length c1] 297);have Bb:=yS (Lib.fresh_isBuilder 169 5 (w.alloc (.cells #[.bool neg,.slice A1 (Ig.grp a).length c1] 299))) (aA _ (.cells #[.slice A1 (Ig.grp a).length c1] 297));have B7:=Bx.mk ((w.alloc (.cells #[.bool neg,.slice A1 (Ig.grp a).length c1] 299)).alloc (.cells #[.pointer none,.slice none 0 0] 169)) 297 #[.slice A1 (Ig.grp a).length c1];have hsz:(((w.alloc (.cells #[.bool neg,.slice A1 (Ig.grp a).length c1] 299)).alloc (.cells #[.pointer none,.slice none 0 0] 169)).alloc (.cells #[.slice A1 (Ig.grp a).length c1] 297)).heap.size=w.heap.size+3:=by rw[aj,aj,aj]
 rw[aj]at Bb;rw [aj,aj]at B7;generalize (((w.alloc (.cells #[.bool neg,.slice A1 (Ig.grp a).length c1] 299)).alloc (.cells #[.pointer none,.slice none 0 0] 169)).alloc (.cells #[.slice A1 (Ig.grp a).length c1] 297))=W0 at *
 refine wpIn_rangeFunc_ownG rfl (by decide) (gf:=289) (lb:=#[.pointer (some ⟨w.heap.size+1+1,0,none⟩)]) rfl trivial (enters_of Tryz.func289 (by kernel_rfl) rfl)
  (ni Fence.wide 2 trivial rfl (by decide) (w.heap.size+1+1) w.heap.size A1 c1 (Ig.grp a) (by omega) W0 (by omega) (by omega) (B7.cell 0 rfl) (hA1.below hb0)) ug.trans (JH (by omega) (by omega)) (Below.refl _ _) (fun _=>rfl)
  (fun pre W=>KE w neg (.slice A1 (Ig.grp a).length c1) (Ig.grp a) pre W) (fun _ _ _=>False)
  (fun pre W W' row hs hg hr=>hs.kept hg (fun r e=>⟨by have:=(hr r e).1;omega,(hr r e).2⟩))
  (fun _ _ _ _ _ hs _ _=>hs)
  ⟨hb0,by omega,B1,Bb,B7⟩
  (fun x=>{ tmps:=#[.agg #[.bool neg,.slice A1 (Ig.grp a).length c1],.pointer (some ⟨w.heap.size,0,none⟩),.string ⟨#[]⟩,.int .i64 0,.pointer (some ⟨w.heap.size+1,0,none⟩),.int .i64 (x.1:Int),.int .i64 (Ig.grp a)[x.1],undef,undef,.pointer (some ⟨w.heap.size,1,none⟩),.slice A1 (Ig.grp a).length c1,.int .i64 ((Ig.grp a).length:Int),.bool false,.pointer (some ⟨w.heap.size,1,none⟩),.slice A1 (Ig.grp a).length c1,
   .func (.func 289) #[] #[.pointer (some ⟨w.heap.size+1+1,0,none⟩)],.int .i64 (x.1:Int),.int .i64 (Ig.grp a)[x.1],undef,undef,undef,undef,undef,undef,undef,undef,undef,undef,undef,undef,undef,undef,undef,undef,undef,undef,undef,undef,undef,undef,undef,undef,undef],defers:=[] }) ?assign ?body ?done ?stop
 case assign =>
  intro l x W K hK;simp only[handed]
  gi_wp2
  exact hK
 case body =>
  rintro l pre x W ⟨hb,hle,B1,Bb,B3⟩ hlt;have hgx:=Ig.dO a (Ig.grp a)[x.1] (List.getElem_mem x.2);obtain ⟨d,hd⟩:=Int.eq_ofNat_of_zero_le hgx.1;have hd9:d<10000:=by omega
  have hsn:=wZ (Ig.grp a) pre x;have htl:=UE (Ig.dO a) pre;rw [hd,Int.toNat_natCast]at hsn;have hit:Lib.itoa (d:Int)=Lib.decDigits d:=by rw[Ig.itoa_nonneg (by omega),Int.natAbs_natCast]
  have hI:=F8 (d:Int) W (by omega) (by omega) (hE.below hb);rw [hit]at hI;have hdl:=Ig.jv d;have hd4:=Ig.nd4 hd9;simp only[hd];clear hgx hd hit;have hc1:=fun w1 (hb1:Below W.heap.size W w1)=>(B1.call hb1).cell 1 rfl
  by_cases hx:x.1+1<(Ig.grp a).length
  · have t2:decide ((x.1:Int)<((Ig.grp a).length:Int)-1)=true:=by simp;omega
    have hR:=fun w1=>Jd [48] (4-(yN d:Int)) w1 (by unfold yN;omega) (by unfold yN;omega) (by decide)
    have Y2:Lib.repeatL [48] (4-(yN d:Int)).toNat++Lib.decDigits d=Ig.four d:=by
     rw[←Ig.Pg hd9,OX]
     unfold yN
     rw[hdl,show (4-((Lib.nDigits d:Nat):Int)).toNat=4-Lib.nDigits d by omega]
    rw[if_pos hx,←Y2]at hsn;have hlr:(Lib.repeatL [48] (4-(yN d:Int)).toNat++Lib.decDigits d).length=4:=by rw[Y2];rfl
    have hs4:(Lib.decDigits d).length<=4:=by rw[hdl];exact hd4
    clear Y2 hdl hd4
    unfold yN at hR hlr hsn
    generalize Lib.decDigits d=s at *
    gi_wp2_with fail
    refine⟨trivial,((callsIn_wide.2 hI).inRound _).mono ?_⟩;rintro _ w1 ⟨rfl,hb1⟩;have c1':=hc1 w1 hb1;clear hc1 hI
    gi_wp2_with fail
    refine⟨trivial,((callsIn_wide.2 (hR _)).inRound _).mono ?_⟩;rintro _ w2 ⟨rfl,hb2⟩;have nP:=ah hb1 hb2;have hW:=nJ (w.heap.size+1) (w.heap.size+1) _ (Lib.repeatL [48] (4-(s.length:Int)).toNat++s) w2 (yS Bb nP) (by rw[Lib.byteCells_length,hlr];omega) (by have:=nP.size;omega);rw [←Lib.byteCells_append,←hsn]at hW;rw [List.length_append]at hlr;clear hR hsn;generalize Lib.repeatL [48] (4-(s.length:Int)).toNat=s2 at *;have hnl:¬ 9223372036854775807<s2.length+s.length:=by omega
    clear hlr
    gi_wp2_with fail
    refine⟨trivial,((callsIn_wide.2 hW).inRound _).mono ?_⟩;rintro _ w3 ⟨rfl,hb3,hb4,hk4⟩
    gi_wp2
    have hs3:=hb4.size;have hB1:=(B1.call nP).below hb4 (Nat.lt_succ_self _);have hB3:=Am hk4 (B3.call nP) (by omega) (by decide);have hb5:=(ah hb nP).trans (hb4.mono (Nat.le_succ _));exact ⟨(eH nP W0.heap.size).trans (vw hk4 hs3 (by omega)),⟨(nP.mono (by omega)).trans (hb4.mono (Nat.le_succ _)),hB3.trans B3.symm⟩,hb5,Nat.le_trans hle (Nat.le_trans nP.size hs3),hB1,.inr hb3,hB3⟩
  · have t2:decide ((x.1:Int)<((Ig.grp a).length:Int)-1)=false:=by simp;omega
    rw[if_neg hx]at hsn;have hs4:(Lib.decDigits d).length<=4:=by rw[hdl];exact hd4
    clear hdl hd4;generalize Lib.decDigits d=s at *
    gi_wp2_with fail
    refine⟨trivial,((callsIn_wide.2 hI).inRound _).mono ?_⟩;rintro _ w2 ⟨rfl,nP⟩;have c1':=hc1 w2 nP;clear hc1 hI;have hW:=nJ (w.heap.size+1) (w.heap.size+1) _ s w2 (yS Bb nP) (by rw[Lib.byteCells_length];omega) (by have:=nP.size;omega);rw [←Lib.byteCells_append,←hsn]at hW
    gi_wp2_with fail
    refine⟨trivial,((callsIn_wide.2 hW).inRound _).mono ?_⟩;rintro _ w3 ⟨rfl,hb3,hb4,hk4⟩
    gi_wp2
    have hs3:=hb4.size;have hB1:=(B1.call nP).below hb4 (Nat.lt_succ_self _);have hB3:=Am hk4 (B3.call nP) (by omega) (by decide);have hb5:=(ah hb nP).trans (hb4.mono (Nat.le_succ _));exact ⟨(eH nP W0.heap.size).trans (vw hk4 hs3 (by omega)),⟨(nP.mono (by omega)).trans (hb4.mono (Nat.le_succ _)),hB3.trans B3.symm⟩,hb5,Nat.le_trans hle (Nat.le_trans nP.size hs3),hB1,.inr hb3,hB3⟩
 case done =>
  rintro D ys W hD rfl ⟨hb,hle,B1,Bb,B3⟩ hK;rw [UF h0]at Bb;have hS:=Gf _ _ _ _ Bb (Ig.Dj a);have hdl:=Ig.jv a;have c0:=fun w1 (hb1:Below (w.heap.size+1) W w1)=>(B1.below hb1 (Nat.lt_succ_self _)).cell 0 rfl
  have hKk:∀w1,Lib.OthersKept 5 (some (w.heap.size+1)) W w1->w1.heap[D]? = some (.deferred (some [])):=fun w1 h1=>h1 D _ hK (by simp;omega) (fun c fz e=>by cases e)
  have hDw:w.heap.size<=D:=by omega
  clear B1 Bb B3 hK hD;by_cases hnd:Lib.nDigits a<=200
  · have hfin:=hr1 hnd;have t3:decide (((Lib.decDigits a).length:Int) > 200)=false:=decide_eq_false (by rw[hdl];omega);have hnl:¬ 9223372036854775807<(Lib.decDigits a).length:=by rw[hdl];omega
    have hnl2:¬ 9223372036854775807<1+(Lib.decDigits a).length:=by rw[hdl];omega
    clear hdl;generalize Lib.decDigits a=s at *
    gi_wp2_with fail
    refine⟨trivial,(callsIn_wide.2 hS).mono ?_⟩;rintro _ w1 ⟨rfl,hb1,hk1⟩;have hK:=hKk w1 hk1;have c1':=c0 w1 hb1;have hb2:=hb.trans (hb1.mono (Nat.le_succ _));clear hS hKk c0 hk1 hb1 hb;have hg:=grownBy_putObj' w1 D (.deferred none);have hbf:Below w.heap.size w (w1.putObj D (.deferred none)):=hb2.trans (belowK_b (w:=w) (Nat.le_refl _) w1 D _ _ hDw hK rfl rfl);cases neg
    · gi_wp2
      refine⟨by simp,.inl ⟨_,_,rfl,run_takeDeferred hK,?_⟩⟩;exact ⟨_,results_tmp2 rfl _ _ _,by rw[hfin.out.1,hfin.out.2];rfl,hbf⟩
    · gi_wp2
      refine⟨by simp,.inl ⟨_,_,rfl,run_takeDeferred hK,?_⟩⟩;exact ⟨_,results_tmp2 rfl _ _ _,by rw[hfin.out.1,hfin.out.2];rfl,hbf⟩
  · have hfin:=hr2 hnd;have t3:decide (((Lib.decDigits a).length:Int) > 200)=true:=decide_eq_true (by rw[hdl];omega);clear hdl;generalize Lib.decDigits a=s at *
    gi_wp2_with fail
    refine⟨trivial,(callsIn_wide.2 hS).mono ?_⟩;rintro _ w1 ⟨rfl,hb1,hk1⟩;have hK:=hKk w1 hk1;have hb2:=hb.trans (hb1.mono (Nat.le_succ _));clear hS hKk c0 hk1 hb1 hb;have hbf:Below w.heap.size w (w1.putObj D (.deferred none)):=hb2.trans (belowK_b (w:=w) (Nat.le_refl _) w1 D _ _ hDw hK rfl rfl)
    gi_wp2
    refine⟨by simp,.inl ⟨_,_,rfl,run_takeDeferred hK,?_⟩⟩;exact ⟨_,results_tmp2 rfl _ _ _,by rw[hfin.out.1,hfin.out.2];rfl,hbf⟩
 case stop =>
  rintro D c pre W _ _ h _;exact h.elim
def iG (neg:Bool) (a:Nat):Int:=if neg then -(a:Int) else a
theorem o_ (neg:Bool) (a:Nat):(iG neg a).natAbs=a:=by cases neg <;> simp[iG]
theorem dR (neg:Bool) (a:Nat) (v:Value) (w:World) (h:aC w a v) (la:(Ig.grp a).length<=50000) (hE:Env w) :
 aT 217 #[.agg #[.bool neg,v]] w (.tuple #[.string ⟨(Ig.iL (iG neg a)).toArray⟩,.int .i64 (Ig.resE (iG neg a))]):=by
 obtain⟨A1,c1,rfl,hA1,hn1,hm1⟩:=h.out;by_cases h0:a=0
 · subst h0;have e1:Ig.iL (iG neg 0)=[48]:=by cases neg <;> decide +kernel
   have e2:Ig.resE (iG neg 0)=0:=by cases neg <;> decide +kernel
   have hl:(Ig.grp 0).length=0:=by rw[Ig.aW];rfl
   rw[e1,e2,hl];exact K_ neg A1 c1 w
 · refine Oi neg a A1 c1 w hA1 hn1 h0 la hE _ _ (fun h=>⟨?_,?_⟩) (fun h=>⟨?_,?_⟩)
   · rw[Ig.iL,o_,if_pos h];cases neg
     · rw[Ig.itoa_nonneg (by simp[iG]),o_];rfl
     · rw[Ig.itoa_neg (by simp[iG];omega),o_];rfl
   · rw[Ig.resE,o_,if_pos h]
   · rw[Ig.iL,o_,if_neg h]
   · rw[Ig.resE,o_,if_neg h]
def dJ (a b:Int):Int:=if a<b then -1 else if a > b then 1 else 0
theorem uK (a:Int) (w:World):Calls Tryz.prog 288 #[.int .i64 a] w fun e w'=>e=.returned (.bool false)/\w=w':=by
 go_enter Tryz.func288,Tryz.ntmps288
 go_wp2;go_ret;exact ⟨by simp,rfl⟩
theorem Kt (a b:Int) (w:World):Calls Tryz.prog 257 #[.int .i64 a,.int .i64 b] w fun e w'=>e=.returned (.int .i64 (dJ a b))/\w=w':=by
 rcases (show (a<b)∨(a=b)∨(b<a) by omega) with h|h|h
 · have t1:decide (a<b)=true:=by simp;omega
   have e:dJ a b= -1:=by unfold dJ;rw[if_pos h]
   go_enter Tryz.func257,Tryz.ntmps257
   go_wp2_with (go_at_call 288;refine (uK _ _).mono ?_;rintro e w' ⟨rfl,rfl⟩)
   go_ret;exact ⟨by rw[e];rfl,rfl⟩
 · subst h;have e:dJ a a=0:=by unfold dJ;rw[if_neg (by omega),if_neg (by omega)]
   go_enter Tryz.func257,Tryz.ntmps257
   go_wp2_with (go_at_call 288;refine (uK _ _).mono ?_;rintro e w' ⟨rfl,rfl⟩)
   go_ret;exact ⟨by rw[e];rfl,rfl⟩
 · have t1:decide (a<b)=false:=by simp;omega
   have t2:decide (a > b)=true:=by simp;omega
   have e:dJ a b=1:=by unfold dJ;rw[if_neg (by omega),if_pos h]
   go_enter Tryz.func257,Tryz.ntmps257
   go_wp2_with (go_at_call 288;refine (uK _ _).mono ?_;rintro e w' ⟨rfl,rfl⟩)
   go_ret;exact ⟨by rw[e];rfl,rfl⟩
attribute [local go_sem] Oper.semAt_some
theorem mJ {fn:Func} {t:Tmp} {g:Nat} {x:Int} (h:fn.results=#[.cell t 3]) (tmps:Array Value) (w:World) (ht:tmps.getD t undef=.pointer (some ⟨g,0,none⟩)) (hB:Bx w g 3 #[.int .i64 x]) :
 (results fn tmps).run Tryz.prog w=.ok (.int .i64 x) w:=by
 have h0:=hB.cell 0 rfl;have ht':tmps[t]?.getD undef=.pointer (some ⟨g,0,none⟩):=by simpa using ht
 simp only[results,h];simp [go_sem,ht',h0,loadVar]
theorem Sr {a b:Nat} (h:(Ig.grp a).length≠(Ig.grp b).length):dJ ((Ig.grp a).length:Int) ((Ig.grp b).length:Int)=Ig.gq a b:=by
 rw[Ig.Kr h]
 unfold dJ
 split
 · rw[if_pos (by omega)]
 · rw[if_pos (by omega),if_neg (by omega)]
theorem V_ {a b:Nat} (hlen:(Ig.grp a).length=(Ig.grp b).length) (k:Nat) (hk:k<(Ig.grp a).length) (hd:∀t,k<t->t<(Ig.grp a).length->Ig.dN (Ig.grp a) t=Ig.dN (Ig.grp b) t) (hne:Ig.dN (Ig.grp a) k≠Ig.dN (Ig.grp b) k):dJ (Ig.dN (Ig.grp a) k) (Ig.dN (Ig.grp b) k)=Ig.gq a b:=by
 have h1:(Ig.grp a).drop (k+1)=(Ig.grp b).drop (k+1):=by
  apply List.ext_getElem (by simp[hlen])
  intro i h1 h2;simp only[List.length_drop]at h1 h2;have:=hd (k+1+i) (by omega) (by omega);rw [Ig.ig (by omega),Ig.ig (by omega)]at this;simpa using this
 rw[Ig.Sl hlen k hk h1 hne]
 unfold dJ
 split
 · rfl
 · rw[if_pos (by omega)]
theorem SA {a b:Nat} (hlen:(Ig.grp a).length=(Ig.grp b).length) (h:∀t,t<(Ig.grp a).length->Ig.dN (Ig.grp a) t=Ig.dN (Ig.grp b) t):Ig.gq a b=0:=by
 refine Ig.FD (List.ext_getElem hlen fun i h1 h2=>?_);have:=h i h1
 rwa [Ig.ig h1,Ig.ig h2]at this
theorem zH {n k:Nat} (hk:k<=n):∀t:Fin n,t∈(dF n).take k↔n-k<=t.1:=by
 induction k with
 | zero=>intro t;simp
 | succ k ih =>
  intro t;have hs:=iU (n:=n) (t:=n-(k+1)) (by omega);rw [show n-(n-(k+1))=k+1 by omega,show n-(n-(k+1)+1)=k by omega]at hs;rw [hs,List.mem_append,ih (by omega),List.mem_singleton,Fin.ext_iff];simp only;omega
theorem II (a b:Nat) (v1 v2:Value) (w:World) (h1:aC w a v1) (h2:aC w b v2) (la:(Ig.grp a).length<=90000) (lb:(Ig.grp b).length<=90000) (hne:(Ig.grp a).length≠(Ig.grp b).length) :
 aT 215 #[v1,v2] w (.int .i64 (Ig.gq a b)):=by
 obtain⟨A1,c1,rfl,hA1,hn1,hm1⟩:=h1.out;obtain ⟨A2,c2,rfl,hA2,hn2,hm2⟩:=h2.out;have he:=Sr hne;have hb0:=bNew (aA w (.cells #[.slice A2 (Ig.grp b).length c2] 297)) (.cells #[.int .i64 0] 3);generalize (Ig.grp a).length=n1 at *;generalize (Ig.grp b).length=n2 at *;have t0:decide ((n1:Int)=(n2:Int))=false:=by simp;omega
 have t1:((n1:Int)==(n2:Int))=false:=by simp;omega
 go_enter Tryz.func215,Tryz.ntmps215
 go_wp2_with (go_at_call 257;refine (Kt _ _ _).mono ?_;rintro e w' ⟨rfl,rfl⟩)
 have B4:Bx ((w.alloc (.cells #[.slice A2 n2 c2] 297)).alloc (.cells #[.int .i64 (Ig.gq a b)] 3)) (w.heap.size+1) 3 #[.int .i64 (Ig.gq a b)]:=by
  have:=Bx.mk (w.alloc (.cells #[.slice A2 n2 c2] 297)) 3 #[.int .i64 (Ig.gq a b)]
  rwa [aj]at this
 refine bodyPost_ret (mJ rfl _ _ rfl B4) rfl ⟨rfl,bNew (aA w _) _⟩
structure F9 (w:World) (a b:Nat) (v2:Value) (pre:List (Fin (Ig.grp a).length)) (W:World):Prop where
 hb:Below w.heap.size w W
 le:w.heap.size+3<=W.heap.size
 B3:Bx W w.heap.size 297 #[v2]
 B4:Bx W (w.heap.size+1) 3 #[.int .i64 0]
 same:∀t∈pre,Ig.dN (Ig.grp a) t.1=Ig.dN (Ig.grp b) t.1
structure Bz (w:World) (a b:Nat) (pre:List (Fin (Ig.grp a).length)) (W:World):Prop where
 hb:Below w.heap.size w W
 le:w.heap.size+3<=W.heap.size
 out:∃m x,pre=m++[x]/\(∀t∈m,Ig.dN (Ig.grp a) t.1=Ig.dN (Ig.grp b) t.1)/\Ig.dN (Ig.grp a) x.1≠Ig.dN (Ig.grp b) x.1/\Bx W (w.heap.size+1) 3 #[.int .i64 (dJ (Ig.dN (Ig.grp a) x.1) (Ig.dN (Ig.grp b) x.1))]
theorem F9.kept {w W W':World} {a b:Nat} {v2:Value} {pre:List (Fin (Ig.grp a).length)} {row:Option Nat} (h:F9 w a b v2 pre W) (hg:W.grownBy W' row) (hr:∀r,row=some r->w.heap.size<=r/\∃o:Obj,W.heap[r]? = some o/\o.isCells=false):F9 w a b v2 pre W' :=
 ⟨h.hb.grown hg h.hb.size (fun k e=>(hr k e).1),Nat.le_trans h.le hg.size,eU h.B3 hg (fun r e=>(hr r e).2),eU h.B4 hg (fun r e=>(hr r e).2),h.same⟩
theorem Bz.kept {w W W':World} {a b:Nat} {pre:List (Fin (Ig.grp a).length)} {row:Option Nat} (h:Bz w a b pre W) (hg:W.grownBy W' row) (hr:∀r,row=some r->w.heap.size<=r/\∃o:Obj,W.heap[r]? = some o/\o.isCells=false):Bz w a b pre W':=by
 obtain⟨m,x,h1,h2,h3,h4⟩:=h.out;exact ⟨h.hb.grown hg h.hb.size (fun k e=>(hr k e).1),Nat.le_trans h.le hg.size,m,x,h1,h2,h3,eU h4 hg (fun r e=>(hr r e).2)⟩
theorem Bz.answer {w W:World} {a b k:Nat} (hlen:(Ig.grp a).length=(Ig.grp b).length) (hk:k<=(Ig.grp a).length) (h:Bz w a b ((dF (Ig.grp a).length).take k) W):Bx W (w.heap.size+1) 3 #[.int .i64 (Ig.gq a b)]:=by
 obtain⟨m,x,h1,h2,h3,h4⟩:=h.out
 obtain⟨j,rfl⟩:∃j,k=j+1:=⟨k-1,by
  rcases k with _|k;· simp at h1
  · rfl⟩
 have hs:=iU (n:=(Ig.grp a).length) (t:=(Ig.grp a).length-(j+1)) (by omega);rw [show (Ig.grp a).length-((Ig.grp a).length-(j+1))=j+1 by omega,show (Ig.grp a).length-((Ig.grp a).length-(j+1)+1)=j by omega]at hs;rw [hs]at h1;have h5:=List.append_inj_left' h1 rfl
 have h6:x.1=(Ig.grp a).length-(j+1):=by
  have:=List.append_inj_right' h1 rfl;simp only[List.cons.injEq,and_true]at this;rw [←this]
 rw[V_ hlen x.1 x.2 (fun t h7 h8=>h2 ⟨t,h8⟩ (by rw[←h5,zH (by omega)];simp only;omega)) h3]at h4;exact h4
theorem IJ (a b:Nat) (v1 v2:Value) (w:World) (h1:aC w a v1) (h2:aC w b v2) (la:(Ig.grp a).length<=90000) (hl:(Ig.grp a).length=(Ig.grp b).length) :
 aT 215 #[v1,v2] w (.int .i64 (Ig.gq a b)):=by
 obtain⟨A1,c1,rfl,hA1,hn1,hm1⟩:=h1.out;obtain ⟨A2,c2,rfl,hA2,hn2,hm2⟩:=h2.out;have t0:decide (((Ig.grp a).length:Int)=((Ig.grp b).length:Int))=true:=by simp;omega
 have t1:(((Ig.grp a).length:Int)==((Ig.grp b).length:Int))=true:=by simp;omega
 have t2:(((Ig.grp a).length:Int) != ((Ig.grp b).length:Int))=false:=by simp;omega
 have hlk:Kp ((Ig.grp a).length=(Ig.grp b).length):=⟨hl⟩
 clear hl;refine (callsIn_wide (n:=3)).1 ?_;refine callsIn_of_wp_marks Tryz.func215 rfl trivial ?_ rfl;simp only[Tryz.ntmps215,List.size_toArray,List.length_cons,List.length_nil,Nat.reduceAdd,Nat.reduceSub,Array.replicate_succ,Array.replicate_zero,List.push_toArray,List.append_toArray,List.nil_append,List.cons_append]
 gi_wp2_with (refine ⟨trivial,?_⟩;gi_at_call 258;refine (wS Fence.wide 2 trivial rfl _ _ _ _).mono ?_;rintro e w' ⟨rfl,rfl⟩)
 have hb0:=bNew (bNew (aA w (.cells #[.slice A2 (Ig.grp b).length c2] 297)) (.cells #[.int .i64 0] 3)) (.cells #[.slice A1 (Ig.grp a).length c1] 297);have B3:=((Bx.mk w 297 #[.slice A2 (Ig.grp b).length c2]).new (.cells #[.int .i64 0] 3)).new (.cells #[.slice A1 (Ig.grp a).length c1] 297);have B4:=(Bx.mk (w.alloc (.cells #[.slice A2 (Ig.grp b).length c2] 297)) 3 #[.int .i64 0]).new (.cells #[.slice A1 (Ig.grp a).length c1] 297);have B7:=Bx.mk ((w.alloc (.cells #[.slice A2 (Ig.grp b).length c2] 297)).alloc (.cells #[.int .i64 0] 3)) 297 #[.slice A1 (Ig.grp a).length c1];have hsz:(((w.alloc (.cells #[.slice A2 (Ig.grp b).length c2] 297)).alloc (.cells #[.int .i64 0] 3)).alloc (.cells #[.slice A1 (Ig.grp a).length c1] 297)).heap.size=w.heap.size+3:=by rw[aj,aj,aj]
 rw[aj]at B4;rw [aj,aj]at B7;generalize (((w.alloc (.cells #[.slice A2 (Ig.grp b).length c2] 297)).alloc (.cells #[.int .i64 0] 3)).alloc (.cells #[.slice A1 (Ig.grp a).length c1] 297))=W0 at *
 refine wpIn_rangeFunc_ownG rfl (by decide) (gf:=289) (lb:=#[.pointer (some ⟨w.heap.size+1+1,0,none⟩)]) rfl trivial (enters_of Tryz.func289 (by kernel_rfl) rfl)
  (ni Fence.wide 2 trivial rfl (by decide) (w.heap.size+1+1) w.heap.size A1 c1 (Ig.grp a) (by omega) W0 (by omega) (by omega) (B7.cell 0 rfl) (hA1.below hb0)) ug.trans (JH (by omega) (by omega)) (Below.refl _ _) (fun _=>rfl)
  (fun pre W=>F9 w a b (.slice A2 (Ig.grp b).length c2) pre W) (fun c pre W=>c=.ret/\Bz w a b pre W)
  (fun pre W W' row hs hg hr=>hs.kept hg (fun r e=>⟨by have:=(hr r e).1;omega,(hr r e).2⟩))
  (fun c pre W W' row hs hg hr=>⟨hs.1,hs.2.kept hg (fun r e=>⟨by have:=(hr r e).1;omega,(hr r e).2⟩)⟩)
  ⟨hb0,by omega,B3,B4,fun t ht=>by cases ht⟩
  (fun x=>{ tmps:=#[.slice A1 (Ig.grp a).length c1,.slice A2 (Ig.grp b).length c2,undef,.pointer (some ⟨w.heap.size,0,none⟩),.pointer (some ⟨w.heap.size+1,0,none⟩),.int .i64 (x.1:Int),.int .i64 (Ig.grp a)[x.1],.slice A1 (Ig.grp a).length c1,.int .i64 ((Ig.grp a).length:Int),.slice A2 (Ig.grp b).length c2,.int .i64 ((Ig.grp b).length:Int),.bool false,
   undef,undef,undef,undef,undef,.slice A1 (Ig.grp a).length c1,.func (.func 289) #[] #[.pointer (some ⟨w.heap.size+1+1,0,none⟩)],.int .i64 (x.1:Int),.int .i64 (Ig.grp a)[x.1],undef,undef,undef,undef,undef,undef,undef,undef,undef,undef,undef,undef],defers:=[] }) ?assign ?body ?done ?stop
 case assign =>
  intro l x W K hK;simp only[handed]
  gi_wp2
  exact hK
 case body =>
  rintro l pre x W ⟨hb,hle,B3',Yo,hsame⟩ hlt;have hxb:x.1<(Ig.grp b).length:=by have:=x.2;have:=hlk.out;omega
  have hA2':=hA2.below hb;obtain ⟨b2,off,rfl,hbB,hcell⟩:=hA2' (by omega)
  have c0:W.cell? ⟨b2,off+x.1,none⟩=some (.int .i64 (Ig.grp b)[x.1]):=by
   have:=hcell x.1 _ (List.getElem?_eq_getElem hxb) 0 _ rfl;simpa using this
  have e1:Ig.dN (Ig.grp a) x.1=(Ig.grp a)[x.1]:=Ig.ig x.2;have e2:Ig.dN (Ig.grp b) x.1=(Ig.grp b)[x.1]:=Ig.ig hxb;have c3:=B3'.cell 0 rfl;have c4:=Yo.cell 0 rfl;have f4:=Yo.frozen 0;have hxk:Kp (x.1<(Ig.grp b).length):=⟨hxb⟩
  by_cases heq:(Ig.grp a)[x.1]=(Ig.grp b)[x.1]
  · have t3:decide ((Ig.grp a)[x.1]=(Ig.grp b)[x.1])=true:=by simp[heq]
    have hfin:F9 w a b (.slice (some ⟨b2,off,none⟩) (Ig.grp b).length c2) (pre++[x]) W:=⟨hb,hle,B3',Yo,fun t ht=>by
     rcases List.mem_append.1 ht with h|h
     · exact hsame t h
     · rw[List.mem_singleton.1 h,e1,e2,heq]⟩
    gi_wp2
    exact⟨KeepsFrom.refl _ _,ug.refl _ _ _,hfin⟩
  · have t3:decide ((Ig.grp a)[x.1]=(Ig.grp b)[x.1])=false:=by simp[heq]
    gi_wp2_with (refine ⟨by first|trivial|(intro h;cases h),?_⟩;gi_at_call 257;refine ((callsIn_wide.2 (Kt _ _ _)).inRound _).mono ?_;rintro e w' ⟨rfl,rfl⟩)
    exact⟨(KeepsOthers.setCell _ _ _).from _,rfl,aK hb (Nat.le_succ _) _,Nat.le_trans hle (KeepsOthers.setCell _ _ _).size,pre,x,rfl,hsame,by rw[e1,e2];exact heq,by rw[e1,e2];exact Yo.set 0 _⟩
 case done =>
  rintro D ys W hD rfl ⟨hb,hle,B3',Yo,hsame⟩ hK;have hz:Ig.gq a b=0:=SA hlk.out (fun t ht=>hsame ⟨t,ht⟩ (by simp[dF]));have c4:=Yo.cell 0 rfl;have f4:=Yo.frozen 0
  gi_wp2
  have hK2:=(Below.heap_setCell W ⟨w.heap.size+1,0,none⟩ (.int .i64 0) D (by show D≠w.heap.size+1;omega)).trans hK;have B42:=Yo.set 0 (.int .i64 0);have hb2:=aK hb (p:=⟨w.heap.size+1,0,none⟩) (Nat.le_succ _) (.int .i64 0);generalize W.setCell ⟨w.heap.size+1,0,none⟩ (.int .i64 0)=W2 at *;refine ⟨by simp,.inl ⟨_,_,rfl,run_takeDeferred hK2,?_⟩⟩;have hg:=grownBy_putObj' W2 D (.deferred none);have hr:∀r,some D=some r->∃o:Obj,W2.heap[r]? = some o/\o.isCells=false:=fun r e=>by cases e;exact⟨_,hK2,rfl⟩
  rw[hz];exact ⟨_,mJ rfl _ _ rfl (eU B42 hg hr),rfl,hb2.trans (belowK_b (w:=w) (Nat.le_refl _) W2 D _ _ (by omega) hK2 rfl rfl)⟩
 case stop =>
  rintro D c pre W hD ⟨k,hk,rfl⟩ ⟨rfl,hX⟩ hK;have hB:=hX.answer hlk.out hk
  gi_wp2
  refine⟨by simp,.inl ⟨_,_,rfl,run_takeDeferred hK,?_⟩⟩;have hg:=grownBy_putObj' W D (.deferred none);have hr:∀r,some D=some r->∃o:Obj,W.heap[r]? = some o/\o.isCells=false:=fun r e=>by cases e;exact⟨_,hK,rfl⟩
  exact⟨_,mJ rfl _ _ rfl (eU hB hg hr),rfl,hX.hb.trans (belowK_b (w:=w) (Nat.le_refl _) W D _ _ (by omega) hK rfl rfl)⟩
theorem jg (a b:Nat) (v1 v2:Value) (w:World) (h1:aC w a v1) (h2:aC w b v2) (la:(Ig.grp a).length<=90000) (lb:(Ig.grp b).length<=90000) :
 aT 215 #[v1,v2] w (.int .i64 (Ig.gq a b)):=by
 by_cases hl:(Ig.grp a).length=(Ig.grp b).length
 · exact IJ a b v1 v2 w h1 h2 la hl
 · exact II a b v1 v2 w h1 h2 la lb hl
theorem Sv (a b:Nat):decide (Ig.gq a b > 0)=decide (b<a):=by
 rcases (show a<b∨a=b∨b<a by omega) with h|h|h
 · rw[Ig.mZ h];simp;omega
 · subst h;rw[Ig.tC];simp
 · rw[Ig.m_ h];simp;omega
theorem LK (b r d:Nat) (v2 v5:Value) (g8 g5:Nat) (w:World) (B8:Bx w g8 347 #[.func (.func 261) #[v2] #[]]) (B5:Bx w g5 297 #[v5]) (h2:aC w b v2) (h5:aC w r v5) (hd:d<10000)
 (l2:(Ig.grp b).length<=20000) (l5:(Ig.grp r).length<=90000) (l3:(Ig.grp (b*(d+1))).length<=90000) :
 aT 262 #[.int .i64 d,.pointer (some ⟨g8,0,none⟩),.pointer (some ⟨g5,0,none⟩)] w (.bool (decide (r<b*(d+1)))):=by
 go_enter Tryz.func262,Tryz.ntmps262
 go_wp2_with fail;have hay:=fun w1 (hb1:Below w.heap.size w w1)=>(B8.call hb1).cell 0 rfl
 have hby:=fun w1 (hb1:Below w.heap.size w w1)=>(B5.call hb1).cell 0 rfl
 have hcp:=Sv (b*(d+1)) r;refine au [ak (.func (.func 261) #[v2] #[]),ak (.int .i64 d),ak (.int .i64 ((d+1:Nat):Int)),(fun v W=>aC W (b*(d+1)) v),ak v5,ak (.int .i64 (Ig.gq (b*(d+1)) r)),ak (.bool (decide (r<b*(d+1)))),ak (.bool (decide (r<b*(d+1))))] 8 12 (by kernel_rfl) rfl rfl (by kernel_rfl) ?_ ?_ ?_
 · simp only[aY]
   and_intros <;> first|exact aB _|exact fun v w w' h hb=>h.call hb|trivial
 · simp only[Users,List.take,List.length];refine ⟨?_,?_,?_,?_,?_,?_,?_,?_,trivial⟩;all_goals (intro vs w1 hb1 hd0;have c8:=hay w1 hb1;have c5:=hby w1 hb1;have Q7:=h2.call hb1;have hN5:=h5.call hb1;clear hay hby;simp only[aJ,Act.put,List.nil_append,List.cons_append,List.setIfInBounds_toArray,List.set_cons_succ,List.set_cons_zero,Nat.reduceAdd])
   · clear hd0;go_wp2;exact⟨Below.refl _ _,rfl⟩
   · clear hd0;go_wp2;exact⟨Below.refl _ _,rfl⟩
   · have e:vs 1=.int .i64 d:=hd0 1 rfl;clear hd0;rw[e];go_wp2;exact⟨Below.refl _ _,rfl⟩
   · have e:vs 0=.func (.func 261) #[v2] #[]:=hd0 0 rfl;have e':vs 2=.int .i64 ((d+1:Nat):Int):=hd0 2 rfl;clear hd0;rw [e,e'];have hC:=Dp b (d+1) v2 w1 Q7 (by omega) (by omega);go_wp2_with fail;refine hC.mono ?_;clear hC;rintro _ w9 ⟨v9,rfl,nH,aX⟩;go_wp2;exact nH
   · clear hd0;go_wp2;exact⟨Below.refl _ _,rfl⟩
   · have e:aC w1 (b*(d+1)) (vs 3):=hd0 3 rfl;have e':vs 4=v5:=hd0 4 rfl;clear hd0;rw [e'];have hC:=jg (b*(d+1)) r (vs 3) v5 w1 e hN5 (by omega) (by omega);go_wp2_with fail;refine hC.mono ?_;clear hC;rintro _ w9 ⟨rfl,aX⟩;go_wp2;rfl
   · have e:vs 5=.int .i64 (Ig.gq (b*(d+1)) r):=hd0 5 rfl;clear hd0;rw[e];go_wp2;exact ⟨Below.refl _ _,rfl⟩
   · have e:vs 6=.bool (decide (r<b*(d+1))):=hd0 6 rfl;clear hd0;rw[e];go_wp2;exact⟨Below.refl _ _,rfl⟩
 · intro vs wa hba hR;simp only[bP,ak]at hR;obtain ⟨-,-,-,-,-,-,-,e7,-⟩:=hR;simp only[List.drop,List.take,List.map,aJ,Act.put,List.setIfInBounds_toArray,List.set_cons_succ,List.set_cons_zero,Nat.reduceAdd];rw [e7];go_wp2;go_ret;exact ⟨rfl,hba⟩
def VA:Value->Nat
 | .int _ x=>x.toNat
 | _=>0
theorem GN (q:Nat) (g8 g5:Nat) (w:World) (hq:q<=9999)
 (hf:∀(W:World) (d:Nat),Below w.heap.size w W->d<9999->aT 262 #[.int .i64 d,.pointer (some ⟨g8,0,none⟩),.pointer (some ⟨g5,0,none⟩)] W (.bool (decide (q<=d)))) :
 aT 263 #[.int .i64 9999,.func (.func 262) #[] #[.pointer (some ⟨g8,0,none⟩),.pointer (some ⟨g5,0,none⟩)]] w (.int .i64 q):=by
 go_enter Tryz.func263,Tryz.ntmps263
 go_wp2
 go_loopw [5,6,7] (fun s5 s6 s7 wr=>∃(i j:Nat),s5=.int .i64 i/\s6=.int .i64 j/\i<=q/\q<=j/\j<=9999/\Below w.heap.size w wr) (fun s5 s6 s7 wr=>VA s6-VA s5)
 case atStart=>exact⟨0,9999,rfl,rfl,Nat.zero_le _,hq,Nat.le_refl _,Below.refl _ _⟩
 case round =>
  obtain⟨i,j,rfl,rfl,hi,hj,hj9,hb⟩:=hrel;by_cases h:i<j
  · have t0:decide ((i:Int)<(j:Int))=true:=by simp;omega
    have hC:=hf wr ((i+j) / 2) hb (by omega);have hm1:i<=(i+j) / 2:=by omega
    have hm2:(i+j) / 2<j:=by omega
    go_wp2_with fail;have em:((i:Int)+(j:Int)) / 2=(((i+j) / 2:Nat):Int):=by omega
    simp only[em];generalize (i+j) / 2=m at *;clear em;by_cases hqm:q<=m
    · have t1:decide (q<=m)=true:=by simp;omega
      rw[t1]at hC;refine hC.mono ?_;clear hC;rintro _ w9 ⟨rfl,aX⟩;go_wp2;exact ⟨⟨i,m,rfl,rfl,by omega,by omega,by omega,ah hb aX⟩,by simp only[VA];omega⟩
    · have t1:decide (q<=m)=false:=by simp;omega
      rw[t1]at hC;refine hC.mono ?_;clear hC;rintro _ w9 ⟨rfl,aX⟩;go_wp2;exact ⟨⟨m+1,j,by go_num,rfl,by omega,by omega,by omega,ah hb aX⟩,by simp only[VA];omega⟩
  · have t0:decide ((i:Int)<(j:Int))=false:=by simp;omega
    obtain rfl:i=q:=by omega
    go_wp2;go_ret;exact ⟨rfl,hb⟩
theorem sG:Ig.grp 1=[1]:=by
 rw[Ig.fA (by decide),show 1 / 10000=0 from rfl,Ig.aW];rfl
theorem one_any (w:World):Calls Tryz.prog 227 #[] w fun e w'=>∃v,e=.returned v/\aC w' 1 v/\Below w.heap.size w w':=by
 have hB:=Bx.mk w 3 #[.int .i64 1];have hb:=aA w (.cells #[.int .i64 1] 3)
 have hN:aC (w.alloc (.cells #[.int .i64 1] 3)) 1 (.slice (some ⟨w.heap.size,0,none⟩) 1 1):=by
  refine⟨some ⟨w.heap.size,0,none⟩,1,by rw[sG];rfl,?_,by rw[sG];decide,by decide⟩;rw [sG];intro _;refine ⟨w.heap.size,0,rfl,hB.lt,fun i c hi j u hj=>?_⟩
  obtain rfl:i=0:=by
   rcases i with _|i;· rfl
   · simp at hi
  obtain rfl:c=1:=by simpa using hi.symm
  obtain rfl:j=0:=by
   rcases j with _|j;· rfl
   · simp[aZ]at hj
  obtain rfl:u=.int .i64 1:=by simpa [aZ] using hj.symm
  exact hB.cell 0 rfl
 go_enter Tryz.func227,Tryz.ntmps227
 go_wp2;go_ret;exact ⟨_,rfl,hN,hb⟩
theorem iV (s:List UInt8) (hs:s.length<=1000000) (w:World) :
 aT 97 #[.string ⟨s.toArray⟩] w (.bool (Ig.dK s)):=by
 have hV:=kN s hs w
 go_enter Tryz.func97,Tryz.ntmps97
 go_wp2_with fail;refine hV.mono ?_;rintro _ w9 ⟨rfl,aX⟩;clear hV;go_wp2;go_ret;exact ⟨rfl,aX⟩
def dq (l:List Int) (b:Nat) (pre:List (Fin l.length)):Nat->Nat :=
 (pre.foldl (fun (st:Nat × (Nat->Nat)) t=>(st.1*10000+l[t.1].toNat,fun k=>if k=t.1 then (st.1*10000+l[t.1].toNat) / b % 10000 else st.2 k)) (0,fun _=>0)).2
theorem Z4 (l:List Int) (b:Nat) (pre:List (Fin l.length)):(pre.foldl (fun (st:Nat × (Nat->Nat)) t=>(st.1*10000+l[t.1].toNat,fun k=>if k=t.1 then (st.1*10000+l[t.1].toNat) / b % 10000 else st.2 k)) (0,fun _=>0)).1=hor l pre:=by
 have:∀(n:Nat) (pre:List (Fin l.length)),pre.length=n->(pre.foldl (fun (st:Nat × (Nat->Nat)) t=>(st.1*10000+l[t.1].toNat,fun k=>if k=t.1 then (st.1*10000+l[t.1].toNat) / b % 10000 else st.2 k)) (0,fun _=>0)).1=hor l pre:=by
  intro n
  induction n with
  | zero=>intro pre h;rw[List.length_eq_zero_iff.1 h];rfl
  | succ n ih =>
   intro pre h
   rcases List.eq_nil_or_concat pre with h0|⟨m,t,h0⟩
   · rw[h0];rfl
   · obtain rfl:pre=m++[t]:=by simpa using h0
     rw[lK,←ih m (by simpa using h),List.foldl_append];rfl
 exact this _ _ rfl
theorem RI (l:List Int) (b k:Nat):dq l b [] k=0:=rfl
theorem Di (l:List Int) (b:Nat) (pre:List (Fin l.length)) (t:Fin l.length) (k:Nat):dq l b (pre++[t]) k=if k=t.1 then hor l (pre++[t]) / b % 10000 else dq l b pre k:=by
 rw[lK,←Z4 l b pre]
 unfold dq
 rw[List.foldl_append];rfl
theorem J8 {l:List Int} (hl:Ig.Gr l) (b:Nat):∀k,k<=l.length->∀t,l.length-k<=t->t<l.length->dq l b ((dF l.length).take k) t=(Ig.from_ l t).toNat / b % 10000
 | 0,_,t,h1,h2=>by omega
 | k+1,hk,t,h1,h2=>by
  have hs:=iU (n:=l.length) (t:=l.length-(k+1)) (by omega);rw [show l.length-(l.length-(k+1))=k+1 by omega,show l.length-(l.length-(k+1)+1)=k by omega]at hs;rw [hs,Di,←hs];by_cases h:t=l.length-(k+1)
  · rw[if_pos (by simpa using h),h,←yu l hl (k+1) hk,Int.toNat_natCast]
  · rw[if_neg (by simpa using h)];exact J8 hl b k (by omega) t (by omega) h2
theorem J9 {l:List Int} (hl:Ig.Gr l) {b:Nat} (hb:0<b):∀k,k<=l.length->Ig.aP (((List.range l.length).map fun t=>((dq l b (dF l.length) t:Nat):Int)).drop (l.length-k))=(((Ig.from_ l (l.length-k)).toNat / b:Nat):Int)
 | 0,_=>by
  rw[Nat.sub_zero,Ig.oH (Nat.le_refl _),List.drop_eq_nil_of_le (by simp)];simp [Ig.aP]
 | k+1,hk=>by
  have ih:=J9 hl hb k (by omega);have ht:l.length-(k+1)<l.length:=by omega
  have hd:=J8 hl b l.length (Nat.le_refl _) (l.length-(k+1)) (by omega) ht;rw [List.take_of_length_le (by rw[iF];omega)]at hd;rw [List.drop_eq_getElem_cons (by simp;omega),show l.length-(k+1)+1=l.length-k by omega];simp only[List.getElem_map,List.getElem_range];rw [hd]
  show _+10000*Ig.aP _=_
  rw[ih];have h1:=Ig.jB ht;rw [show l.length-(k+1)+1=l.length-k by omega]at h1;have h2:=Ig.oG hl (l.length-k);have h3:=hl l[l.length-(k+1)] (List.getElem_mem ht);generalize Ig.from_ l (l.length-k)=F at *;generalize Ig.from_ l (l.length-(k+1))=G at *;generalize l[l.length-(k+1)]=g at *;obtain ⟨F,rfl⟩:=Int.eq_ofNat_of_zero_le h2;obtain ⟨g,rfl⟩:=Int.eq_ofNat_of_zero_le h3.1;obtain rfl:G=((g+10000*F:Nat):Int):=by omega
  rw[Int.toNat_natCast]
  have h4:(g+10000*F) / b / 10000=F / b:=by
   rw[Nat.div_div_eq_div_mul,Nat.mul_comm b 10000,←Nat.div_div_eq_div_mul]
   congr 1
   omega
  have h5:(Int.toNat (Int.ofNat F))=F:=rfl;have h6:=Nat.mod_add_div ((g+10000*F) / b) 10000;rw [h4]at h6;first|(rw [h5];omega)|(simp only[Int.toNat_natCast];omega)
def jK (l:List Int) (b:Nat) (pre:List (Fin l.length)):Array Value:=((List.range l.length).map fun t=>Value.int .i64 ((dq l b pre t:Nat):Int)).toArray
theorem G8 (l:List Int) (b:Nat) (pre:List (Fin l.length)) (x:Fin l.length):(jK l b pre).setIfInBounds x.1 (.int .i64 ((hor l (pre++[x]) / b % 10000:Nat):Int))=jK l b (pre++[x]):=by
 have h:((List.range l.length).map fun t=>Value.int .i64 ((dq l b pre t:Nat):Int)).set x.1 (.int .i64 ((hor l (pre++[x]) / b % 10000:Nat):Int))=(List.range l.length).map fun t=>Value.int .i64 ((dq l b (pre++[x]) t:Nat):Int):=by
  apply List.ext_getElem (by simp)
  intro i h1 h2;rw [List.getElem_set,List.getElem_map,List.getElem_map,List.getElem_range,Di];by_cases h:x.1=i
  · rw[if_pos h,if_pos h.symm]
  · rw[if_neg h,if_neg (fun e=>h e.symm)]
 unfold jK
 rw[List.setIfInBounds_toArray,h]
theorem G9 (l:List Int) (b:Nat):madeCells #[.int .i64 0] l.length=jK l b []:=by
 apply Array.ext (by simp[madeCells,jK])
 intro i h1 h2;simp [madeCells,jK,RI,Nat.mod_one]
structure F7 (w:World) (a b:Nat) (v2:Value) (pre:List (Fin (Ig.grp a).length)) (W:World):Prop where
 hb:Below w.heap.size w W
 le:w.heap.size+5<=W.heap.size
 B3:Bx W w.heap.size 297 #[v2]
 Bq:Bx W (w.heap.size+1) 297 #[.slice (some ⟨w.heap.size+1+1+1,0,none⟩) (Ig.grp a).length (Ig.grp a).length]
 Br:∃v,Bx W (w.heap.size+1+1) 297 #[v]/\aC W (hor (Ig.grp a) pre % b) v
 Bc:Bx W (w.heap.size+1+1+1) 3 (jK (Ig.grp a) b pre)
theorem F7.kept {w W W':World} {a b:Nat} {v2:Value} {pre:List (Fin (Ig.grp a).length)} {row:Option Nat} (h:F7 w a b v2 pre W) (hg:W.grownBy W' row) (hr:∀r,row=some r->w.heap.size<=r/\∃o:Obj,W.heap[r]? = some o/\o.isCells=false):F7 w a b v2 pre W':=by
 obtain⟨v,h1,h2⟩:=h.Br;exact ⟨h.hb.grown hg h.hb.size (fun k e=>(hr k e).1),Nat.le_trans h.le hg.size,eU h.B3 hg (fun r e=>(hr r e).2),eU h.Bq hg (fun r e=>(hr r e).2),⟨v,eU h1 hg (fun r e=>(hr r e).2),nY h2 hg (fun r e=>(hr r e).2)⟩,eU h.Bc hg (fun r e=>(hr r e).2)⟩
end Go.Proofs.YtohgjenaclfegaaGreatDoor
