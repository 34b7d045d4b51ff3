import Derived.Test.YtelljijajgiabaaGreatDoorQ02
import Derived.Laws.MakeOwn
import Derived.Laws.EntriesVeiled
import Derived.Deep.RegionWith
set_option linter.unusedVariables false
set_option linter.unusedSimpArgs false
set_option maxRecDepth 100000
set_option maxHeartbeats 8000000
namespace Go.Proofs.YtelljijajgiabaaGreatDoor
open Go.RowKit Go.Shelf
attribute [local go_sem] Oper.semAt_some
theorem own_call {B n:Nat} {v:Value} {bs:List Value} {w w':World} (h:w.ownsRow B 5 1 v n bs) (hb:Below w.heap.size w w'):w'.ownsRow B 5 1 v n bs:=by
 refine⟨h.1,?_⟩
 rcases h.2 with h1|⟨g,cap,cur,h1,h2,h3,h4⟩
 · exact .inl h1
 · exact .inr ⟨g,cap,cur,h1,h2,(hb.block g (Array.getElem?_eq_some_iff.1 h3).1).trans h3,h4⟩
theorem bat_call {B b:Nat} {p:Value} {bs:List Value} {w w':World} (h:Lib.BuilderAt 168 5 B b p bs w) (hb:Below w.heap.size w w'):Lib.BuilderAt 168 5 B b p bs w':=by
 have hlt:=h.lt;obtain ⟨h1,v,h2,h3,h4⟩:=h;exact ⟨h1,v,(hb.block b hlt).trans h2,own_call h3 hb,h4⟩
theorem bld_call {B b:Nat} {bs:List Value} {w w':World} (h:Lib.IsBuilder 168 5 B b bs w) (hb:Below w.heap.size w w'):Lib.IsBuilder 168 5 B b bs w' :=
 h.elim (fun h=>.inl (bat_call h hb)) (fun h=>.inr (bat_call h hb))
theorem own_kept {B n:Nat} {v:Value} {bs:List Value} {W W':World} {row:Option Nat} (h:W.ownsRow B 5 1 v n bs) (hg:W.grownBy W' row) (hr:∀r,row=some r->∃o:Obj,W.heap[r]? = some o/\o.isCells=false):W'.ownsRow B 5 1 v n bs:=by
 refine⟨h.1,?_⟩
 rcases h.2 with h1|⟨g,cap,cur,h1,h2,h3,h4⟩
 · exact .inl h1
 · exact .inr ⟨g,cap,cur,h1,h2,bx_kept (show Bx W g 5 cur from h3) hg hr,h4⟩
theorem bat_kept {B b:Nat} {p:Value} {bs:List Value} {W W':World} {row:Option Nat} (h:Lib.BuilderAt 168 5 B b p bs W) (hg:W.grownBy W' row) (hr:∀r,row=some r->∃o:Obj,W.heap[r]? = some o/\o.isCells=false):Lib.BuilderAt 168 5 B b p bs W':=by
 obtain⟨h1,v,h2,h3,h4⟩:=h;exact ⟨h1,v,bx_kept (show Bx W b 168 #[p,v] from h2) hg hr,own_kept h3 hg hr,h4⟩
theorem bld_kept {B b:Nat} {bs:List Value} {W W':World} {row:Option Nat} (h:Lib.IsBuilder 168 5 B b bs W) (hg:W.grownBy W' row) (hr:∀r,row=some r->∃o:Obj,W.heap[r]? = some o/\o.isCells=false):Lib.IsBuilder 168 5 B b bs W' :=
 h.elim (fun h=>.inl (bat_kept h hg hr)) (fun h=>.inr (bat_kept h hg hr))
theorem others_from {b:Nat} {W W':World} (h:Lib.OthersKept 5 (some b) W W') (hs:W.heap.size<=W'.heap.size) {B:Nat} (hB:b<B):KeepsFrom B W W':=⟨hs,fun k o hk ho hc=>h k o ho (by simp;omega) (fun c fz e=>by rw[e]at hc;cases hc)⟩
theorem others_bx {b g:Nat} {t:TypeId} {cs:Array Value} {W W':World} (h:Lib.OthersKept 5 (some b) W W') (hB:Bx W g t cs) (hg:g≠b) (ht:t≠5):Bx W' g t cs:=h g _ hB (by simp;omega) (fun c fz e=>by simp only[Obj.cells.injEq]at e;exact ht e.2.1)
def d_len (d:Nat):Nat:=(Lib.decDigits d).length
theorem rep_zero (k:Nat):Lib.repeatL [48] k=List.replicate k 48:=by
 induction k with
 | zero=>rfl
 | succ k ih=>rw[List.replicate_succ,←ih];simp[Lib.repeatL,List.replicate_succ]
structure TextI (w:World) (neg:Bool) (v:Value) (l:List Int) (pre:List (Fin l.length)) (W:World):Prop where
 hb:Below w.heap.size w W
 le:w.heap.size+3<=W.heap.size
 B1:Bx W w.heap.size 129 #[.bool neg,v]
 Bb:Lib.IsBuilder 168 5 (w.heap.size+1) (w.heap.size+1) (Lib.byteCells (txt l pre)) W
 B3:Bx W (w.heap.size+1+1) 127 #[v]
theorem TextI.kept {w W W':World} {neg:Bool} {v:Value} {l:List Int} {pre:List (Fin l.length)} {row:Option Nat} (h:TextI w neg v l pre W) (hg:W.grownBy W' row) (hr:∀r,row=some r->w.heap.size<=r/\∃o:Obj,W.heap[r]? = some o/\o.isCells=false):TextI w neg v l pre W' :=
 ⟨h.hb.grown hg h.hb.size (fun k e=>(hr k e).1),Nat.le_trans h.le hg.size,bx_kept h.B1 hg (fun r e=>(hr r e).2),bld_kept h.Bb hg (fun r e=>(hr r e).2),bx_kept h.B3 hg (fun r e=>(hr r e).2)⟩
theorem text_zero (neg:Bool) (A1:Option Addr) (c1:Nat) (w:World) :
 Calls Tryz.prog 102 #[.agg #[.bool neg,.slice A1 0 c1]] w fun e w'=>e=.returned (.tuple #[.string ⟨#[48]⟩,.int .i64 0])/\Below w.heap.size w w':=by
 have hb:=bNewW w (.cells #[.bool neg,.slice A1 0 c1] 129)
 go_enter Tryz.func102,Tryz.ntmps102
 go_wp2
 go_ret2
 exact⟨rfl,hb⟩
theorem text_pos (neg:Bool) (a:Nat) (A1:Option Addr) (c1:Nat) (w:World) (hA1:At 1 intC w w.heap.size A1 (Ig.grp a)) (hn1:(Ig.grp a).length<=c1) (h0:a≠0) (la:(Ig.grp a).length<=50000) (hE:Env w) (r:List UInt8) (k:Int)
 (hr1:Lib.nDigits a<=200->Kp (r=(if neg then 45 :: Lib.decDigits a else Lib.decDigits a)/\k=0)) (hr2:¬Lib.nDigits a<=200->Kp (r=[]/\k=30)) :
 Calls Tryz.prog 102 #[.agg #[.bool neg,.slice A1 (Ig.grp a).length c1]] w fun e w'=>e=.returned (.tuple #[.string ⟨r.toArray⟩,.int .i64 k])/\Below w.heap.size w w':=by
 have hl0:(Ig.grp a).length≠0:=fun e=>h0 (Ig.grp_eq_nil.1 e)
 have t0:decide (((Ig.grp a).length:Int)=0)=false:=decide_eq_false (by omega);have t1:(((Ig.grp a).length:Int)==0)=false:=beq_eq_false_iff_ne.2 (by omega);refine (callsIn_wide (n:=3)).1 ?_;refine callsIn_of_wp_marks Tryz.func102 rfl trivial ?_ rfl;simp only[Tryz.ntmps102,List.size_toArray,List.length_cons,List.length_nil,Nat.reduceAdd,Nat.reduceSub,Array.replicate_succ,Array.replicate_zero,List.push_toArray,List.append_toArray,List.nil_append,List.cons_append]
 gi_wp2_with (refine ⟨trivial,?_⟩;gi_at_call 137;refine (back_in Fence.wide 2 trivial rfl _ _ _ _).mono ?_;rintro e w' ⟨rfl,rfl⟩)
 have hb0:=bNew (bNew (bNewW w (.cells #[.bool neg,.slice A1 (Ig.grp a).length c1] 129)) (.cells #[.pointer none,.slice none 0 0] 168)) (.cells #[.slice A1 (Ig.grp a).length c1] 127);have B1:=((Bx.mk w 129 #[.bool neg,.slice A1 (Ig.grp a).length c1]).new (.cells #[.pointer none,.slice none 0 0] 168)).new (.cells #[.slice A1 (Ig.grp a).length c1] 127);have Bb:=bld_call (Lib.fresh_isBuilder 168 5 (w.alloc (.cells #[.bool neg,.slice A1 (Ig.grp a).length c1] 129))) (bNewW _ (.cells #[.slice A1 (Ig.grp a).length c1] 127));have B7:=Bx.mk ((w.alloc (.cells #[.bool neg,.slice A1 (Ig.grp a).length c1] 129)).alloc (.cells #[.pointer none,.slice none 0 0] 168)) 127 #[.slice A1 (Ig.grp a).length c1];have hsz:(((w.alloc (.cells #[.bool neg,.slice A1 (Ig.grp a).length c1] 129)).alloc (.cells #[.pointer none,.slice none 0 0] 168)).alloc (.cells #[.slice A1 (Ig.grp a).length c1] 127)).heap.size=w.heap.size+3:=by rw[alloc_size,alloc_size,alloc_size]
 rw[alloc_size]at Bb;rw [alloc_size,alloc_size]at B7;generalize (((w.alloc (.cells #[.bool neg,.slice A1 (Ig.grp a).length c1] 129)).alloc (.cells #[.pointer none,.slice none 0 0] 168)).alloc (.cells #[.slice A1 (Ig.grp a).length c1] 127))=W0 at *
 refine wpIn_rangeFunc_ownG rfl (by decide) (gf:=180) (lb:=#[.pointer (some ⟨w.heap.size+1+1,0,none⟩)]) rfl trivial (enters_of Tryz.func180 (by kernel_rfl) rfl)
  (back_stops Fence.wide 2 trivial rfl (by decide) (w.heap.size+1+1) w.heap.size A1 c1 (Ig.grp a) (by omega) W0 (by omega) (by omega) (B7.cell 0 rfl) (hA1.below hb0)) KpB.trans (kpB_b (by omega) (by omega)) (Below.refl _ _) (fun _=>rfl)
  (fun pre W=>TextI w neg (.slice A1 (Ig.grp a).length c1) (Ig.grp a) pre W) (fun _ _ _=>False)
  (fun pre W W' row hs hg hr=>hs.kept hg (fun r e=>⟨by have:=(hr r e).1;omega,(hr r e).2⟩))
  (fun _ _ _ _ _ hs _ _=>hs)
  ⟨hb0,by omega,B1,Bb,B7⟩
  (fun x=>{ tmps:=#[.agg #[.bool neg,.slice A1 (Ig.grp a).length c1],.pointer (some ⟨w.heap.size,0,none⟩),.string ⟨#[]⟩,.int .i64 0,.pointer (some ⟨w.heap.size+1,0,none⟩),.int .i64 (x.1:Int),.int .i64 (Ig.grp a)[x.1],undef,undef,.pointer (some ⟨w.heap.size,1,none⟩),.slice A1 (Ig.grp a).length c1,.int .i64 ((Ig.grp a).length:Int),.bool false,.pointer (some ⟨w.heap.size,1,none⟩),.slice A1 (Ig.grp a).length c1,
   .func (.func 180) #[] #[.pointer (some ⟨w.heap.size+1+1,0,none⟩)],.int .i64 (x.1:Int),.int .i64 (Ig.grp a)[x.1],undef,undef,undef,undef,undef,undef,undef,undef,undef,undef,undef,undef,undef,undef,undef,undef,undef,undef,undef,undef,undef,undef,undef,undef,undef],defers:=[] }) ?assign ?body ?done ?stop
 case assign =>
  intro l x W K hK;simp only[handed]
  gi_wp2
  exact hK
 case body =>
  rintro l pre x W ⟨hb,hle,B1,Bb,B3⟩ hlt;have hgx:=Ig.gr_grp a (Ig.grp a)[x.1] (List.getElem_mem x.2);obtain ⟨d,hd⟩:=Int.eq_ofNat_of_zero_le hgx.1;have hd9:d<10000:=by omega
  have hsn:=txt_snoc (Ig.grp a) pre x;have htl:=txt_len (Ig.gr_grp a) pre;rw [hd,Int.toNat_natCast]at hsn;have hit:Lib.itoa (d:Int)=Lib.decDigits d:=by rw[Ig.itoa_nonneg (by omega),Int.natAbs_natCast]
  have hI:=Itoa_any (d:Int) W (by omega) (by omega) (hE.below hb);rw [hit]at hI;have hdl:=Ig.dec_len d;have hd4:=Ig.nd4 hd9;simp only[hd];clear hgx hd hit;have hc1:=fun w1 (hb1:Below W.heap.size W w1)=>(B1.call hb1).cell 1 rfl
  by_cases hx:x.1+1<(Ig.grp a).length
  · have t2:decide ((x.1:Int)<((Ig.grp a).length:Int)-1)=true:=by simp;omega
    have hR:=fun w1=>Repeat_any [48] (4-(d_len d:Int)) w1 (by unfold d_len;omega) (by unfold d_len;omega) (by decide)
    have hpad:Lib.repeatL [48] (4-(d_len d:Int)).toNat++Lib.decDigits d=Ig.four d:=by
     rw[←Ig.pad_four hd9,rep_zero]
     unfold d_len
     rw[hdl,show (4-((Lib.nDigits d:Nat):Int)).toNat=4-Lib.nDigits d by omega]
    rw[if_pos hx,←hpad]at hsn;have hlr:(Lib.repeatL [48] (4-(d_len d:Int)).toNat++Lib.decDigits d).length=4:=by rw[hpad];rfl
    have hs4:(Lib.decDigits d).length<=4:=by rw[hdl];exact hd4
    clear hpad hdl hd4
    unfold d_len at hR hlr hsn
    generalize Lib.decDigits d=s at *
    gi_wp2_with fail
    refine⟨trivial,((callsIn_wide.2 hI).inRound _).mono ?_⟩;rintro _ w1 ⟨rfl,hb1⟩;have c1':=hc1 w1 hb1;clear hc1 hI
    gi_wp2_with fail
    refine⟨trivial,((callsIn_wide.2 (hR _)).inRound _).mono ?_⟩;rintro _ w2 ⟨rfl,hb2⟩;have hb12:=bCall hb1 hb2;have hW:=WriteString_any (w.heap.size+1) (w.heap.size+1) _ (Lib.repeatL [48] (4-(s.length:Int)).toNat++s) w2 (bld_call Bb hb12) (by rw[Lib.byteCells_length,hlr];omega) (by have:=hb12.size;omega);rw [←Lib.byteCells_append,←hsn]at hW;rw [List.length_append]at hlr;clear hR hsn;generalize Lib.repeatL [48] (4-(s.length:Int)).toNat=s2 at *;have hnl:¬ 9223372036854775807<s2.length+s.length:=by omega
    clear hlr
    gi_wp2_with fail
    refine⟨trivial,((callsIn_wide.2 hW).inRound _).mono ?_⟩;rintro _ w3 ⟨rfl,hb3,hb4,hk4⟩
    gi_wp2
    have hs3:=hb4.size;have hB1:=(B1.call hb12).below hb4 (Nat.lt_succ_self _);have hB3:=others_bx hk4 (B3.call hb12) (by omega) (by decide);have hb5:=(bCall hb hb12).trans (hb4.mono (Nat.le_succ _));exact ⟨(keeps_below hb12 W0.heap.size).trans (others_from hk4 hs3 (by omega)),⟨(hb12.mono (by omega)).trans (hb4.mono (Nat.le_succ _)),hB3.trans B3.symm⟩,hb5,Nat.le_trans hle (Nat.le_trans hb12.size hs3),hB1,.inr hb3,hB3⟩
  · have t2:decide ((x.1:Int)<((Ig.grp a).length:Int)-1)=false:=by simp;omega
    rw[if_neg hx]at hsn;have hs4:(Lib.decDigits d).length<=4:=by rw[hdl];exact hd4
    clear hdl hd4;generalize Lib.decDigits d=s at *
    gi_wp2_with fail
    refine⟨trivial,((callsIn_wide.2 hI).inRound _).mono ?_⟩;rintro _ w2 ⟨rfl,hb12⟩;have c1':=hc1 w2 hb12;clear hc1 hI;have hW:=WriteString_any (w.heap.size+1) (w.heap.size+1) _ s w2 (bld_call Bb hb12) (by rw[Lib.byteCells_length];omega) (by have:=hb12.size;omega);rw [←Lib.byteCells_append,←hsn]at hW
    gi_wp2_with fail
    refine⟨trivial,((callsIn_wide.2 hW).inRound _).mono ?_⟩;rintro _ w3 ⟨rfl,hb3,hb4,hk4⟩
    gi_wp2
    have hs3:=hb4.size;have hB1:=(B1.call hb12).below hb4 (Nat.lt_succ_self _);have hB3:=others_bx hk4 (B3.call hb12) (by omega) (by decide);have hb5:=(bCall hb hb12).trans (hb4.mono (Nat.le_succ _));exact ⟨(keeps_below hb12 W0.heap.size).trans (others_from hk4 hs3 (by omega)),⟨(hb12.mono (by omega)).trans (hb4.mono (Nat.le_succ _)),hB3.trans B3.symm⟩,hb5,Nat.le_trans hle (Nat.le_trans hb12.size hs3),hB1,.inr hb3,hB3⟩
 case done =>
  rintro D ys W hD rfl ⟨hb,hle,B1,Bb,B3⟩ hK;rw [txt_all h0]at Bb;have hS:=BString_any _ _ _ _ Bb (Ig.dec_ne a);have hdl:=Ig.dec_len a;have c0:=fun w1 (hb1:Below (w.heap.size+1) W w1)=>(B1.below hb1 (Nat.lt_succ_self _)).cell 0 rfl
  have hKk:∀w1,Lib.OthersKept 5 (some (w.heap.size+1)) W w1->w1.heap[D]? = some (.deferred (some [])):=fun w1 h1=>h1 D _ hK (by simp;omega) (fun c fz e=>by cases e)
  have hDw:w.heap.size<=D:=by omega
  clear B1 Bb B3 hK hD;by_cases hnd:Lib.nDigits a<=200
  · have hfin:=hr1 hnd;have t3:decide (((Lib.decDigits a).length:Int) > 200)=false:=decide_eq_false (by rw[hdl];omega);have hnl:¬ 9223372036854775807<(Lib.decDigits a).length:=by rw[hdl];omega
    have hnl2:¬ 9223372036854775807<1+(Lib.decDigits a).length:=by rw[hdl];omega
    clear hdl;generalize Lib.decDigits a=s at *
    gi_wp2_with fail
    refine⟨trivial,(callsIn_wide.2 hS).mono ?_⟩;rintro _ w1 ⟨rfl,hb1,hk1⟩;have hK:=hKk w1 hk1;have c1':=c0 w1 hb1;have hb2:=hb.trans (hb1.mono (Nat.le_succ _));clear hS hKk c0 hk1 hb1 hb;have hg:=grownBy_putObj' w1 D (.deferred none);have hbf:Below w.heap.size w (w1.putObj D (.deferred none)):=hb2.trans (belowK_b (w:=w) (Nat.le_refl _) w1 D _ _ hDw hK rfl rfl);cases neg
    · gi_wp2
      refine⟨by simp,.inl ⟨_,_,rfl,run_takeDeferred hK,?_⟩⟩;exact ⟨_,results_tmp2 rfl _ _ _,by rw[hfin.out.1,hfin.out.2];rfl,hbf⟩
    · gi_wp2
      refine⟨by simp,.inl ⟨_,_,rfl,run_takeDeferred hK,?_⟩⟩;exact ⟨_,results_tmp2 rfl _ _ _,by rw[hfin.out.1,hfin.out.2];rfl,hbf⟩
  · have hfin:=hr2 hnd;have t3:decide (((Lib.decDigits a).length:Int) > 200)=true:=decide_eq_true (by rw[hdl];omega);clear hdl;generalize Lib.decDigits a=s at *
    gi_wp2_with fail
    refine⟨trivial,(callsIn_wide.2 hS).mono ?_⟩;rintro _ w1 ⟨rfl,hb1,hk1⟩;have hK:=hKk w1 hk1;have hb2:=hb.trans (hb1.mono (Nat.le_succ _));clear hS hKk c0 hk1 hb1 hb;have hbf:Below w.heap.size w (w1.putObj D (.deferred none)):=hb2.trans (belowK_b (w:=w) (Nat.le_refl _) w1 D _ _ hDw hK rfl rfl)
    gi_wp2
    refine⟨by simp,.inl ⟨_,_,rfl,run_takeDeferred hK,?_⟩⟩;exact ⟨_,results_tmp2 rfl _ _ _,by rw[hfin.out.1,hfin.out.2];rfl,hbf⟩
 case stop =>
  rintro D c pre W _ _ h _;exact h.elim
def sgn (neg:Bool) (a:Nat):Int:=if neg then -(a:Int) else a
theorem sgn_abs (neg:Bool) (a:Nat):(sgn neg a).natAbs=a:=by cases neg <;> simp[sgn]
theorem text_any (neg:Bool) (a:Nat) (v:Value) (w:World) (h:NumAt w a v) (la:(Ig.grp a).length<=50000) (hE:Env w) :
 Calls Tryz.prog 102 #[.agg #[.bool neg,v]] w fun e w'=>e=.returned (.tuple #[.string ⟨(Ig.resS (sgn neg a)).toArray⟩,.int .i64 (Ig.resE (sgn neg a))])/\Below w.heap.size w w':=by
 obtain⟨A1,c1,rfl,hA1,hn1,hm1⟩:=h.out;by_cases h0:a=0
 · subst h0;have e1:Ig.resS (sgn neg 0)=[48]:=by cases neg <;> decide +kernel
   have e2:Ig.resE (sgn neg 0)=0:=by cases neg <;> decide +kernel
   have hl:(Ig.grp 0).length=0:=by rw[Ig.grp_zero];rfl
   rw[e1,e2,hl];exact text_zero neg A1 c1 w
 · refine text_pos neg a A1 c1 w hA1 hn1 h0 la hE _ _ (fun h=>⟨?_,?_⟩) (fun h=>⟨?_,?_⟩)
   · rw[Ig.resS,sgn_abs,if_pos h];cases neg
     · rw[Ig.itoa_nonneg (by simp[sgn]),sgn_abs];rfl
     · rw[Ig.itoa_neg (by simp[sgn];omega),sgn_abs];rfl
   · rw[Ig.resE,sgn_abs,if_pos h]
   · rw[Ig.resS,sgn_abs,if_neg h]
   · rw[Ig.resE,sgn_abs,if_neg h]
def cmpZ (a b:Int):Int:=if a<b then -1 else if a > b then 1 else 0
theorem isNaN_int (a:Int) (w:World):Calls Tryz.prog 186 #[.int .i64 a] w fun e w'=>e=.returned (.bool false)/\w=w':=by
 go_enter Tryz.func186,Tryz.ntmps186
 go_wp2;go_ret;exact ⟨by simp,rfl⟩
theorem cmp_any (a b:Int) (w:World):Calls Tryz.prog 149 #[.int .i64 a,.int .i64 b] w fun e w'=>e=.returned (.int .i64 (cmpZ a b))/\w=w':=by
 rcases (show (a<b)∨(a=b)∨(b<a) by omega) with h|h|h
 · have t1:decide (a<b)=true:=by simp;omega
   have e:cmpZ a b= -1:=by unfold cmpZ;rw[if_pos h]
   go_enter Tryz.func149,Tryz.ntmps149
   go_wp2_with (go_at_call 186;refine (isNaN_int _ _).mono ?_;rintro e w' ⟨rfl,rfl⟩)
   go_ret;exact ⟨by rw[e];rfl,rfl⟩
 · subst h;have e:cmpZ a a=0:=by unfold cmpZ;rw[if_neg (by omega),if_neg (by omega)]
   go_enter Tryz.func149,Tryz.ntmps149
   go_wp2_with (go_at_call 186;refine (isNaN_int _ _).mono ?_;rintro e w' ⟨rfl,rfl⟩)
   go_ret;exact ⟨by rw[e];rfl,rfl⟩
 · have t1:decide (a<b)=false:=by simp;omega
   have t2:decide (a > b)=true:=by simp;omega
   have e:cmpZ a b=1:=by unfold cmpZ;rw[if_neg (by omega),if_pos h]
   go_enter Tryz.func149,Tryz.ntmps149
   go_wp2_with (go_at_call 186;refine (isNaN_int _ _).mono ?_;rintro e w' ⟨rfl,rfl⟩)
   go_ret;exact ⟨by rw[e];rfl,rfl⟩
attribute [local go_sem] Oper.semAt_some
theorem results_cell {fn:Func} {t:Tmp} {g:Nat} {x:Int} (h:fn.results=#[.cell t 3]) (tmps:Array Value) (w:World) (ht:tmps.getD t undef=.pointer (some ⟨g,0,none⟩)) (hB:Bx w g 3 #[.int .i64 x]) :
 (results fn tmps).run Tryz.prog w=.ok (.int .i64 x) w:=by
 have h0:=hB.cell 0 rfl;have ht':tmps[t]?.getD undef=.pointer (some ⟨g,0,none⟩):=by simpa using ht
 simp only[results,h];simp [go_sem,ht',h0,loadVar]
theorem cmpZ_len {a b:Nat} (h:(Ig.grp a).length≠(Ig.grp b).length):cmpZ ((Ig.grp a).length:Int) ((Ig.grp b).length:Int)=Ig.cmpI a b:=by
 rw[Ig.cmp_len h]
 unfold cmpZ
 split
 · rw[if_pos (by omega)]
 · rw[if_pos (by omega),if_neg (by omega)]
theorem cmpZ_at {a b:Nat} (hlen:(Ig.grp a).length=(Ig.grp b).length) (k:Nat) (hk:k<(Ig.grp a).length) (hd:∀t,k<t->t<(Ig.grp a).length->Ig.atG (Ig.grp a) t=Ig.atG (Ig.grp b) t) (hne:Ig.atG (Ig.grp a) k≠Ig.atG (Ig.grp b) k):cmpZ (Ig.atG (Ig.grp a) k) (Ig.atG (Ig.grp b) k)=Ig.cmpI a b:=by
 have h1:(Ig.grp a).drop (k+1)=(Ig.grp b).drop (k+1):=by
  apply List.ext_getElem (by simp[hlen])
  intro i h1 h2;simp only[List.length_drop]at h1 h2;have:=hd (k+1+i) (by omega) (by omega);rw [Ig.atG_lt (by omega),Ig.atG_lt (by omega)]at this;simpa using this
 rw[Ig.cmp_at hlen k hk h1 hne]
 unfold cmpZ
 split
 · rfl
 · rw[if_pos (by omega)]
theorem cmpI_all {a b:Nat} (hlen:(Ig.grp a).length=(Ig.grp b).length) (h:∀t,t<(Ig.grp a).length->Ig.atG (Ig.grp a) t=Ig.atG (Ig.grp b) t):Ig.cmpI a b=0:=by
 refine Ig.cmp_same (List.ext_getElem hlen fun i h1 h2=>?_);have:=h i h1
 rwa [Ig.atG_lt h1,Ig.atG_lt h2]at this
theorem mem_take_down {n k:Nat} (hk:k<=n):∀t:Fin n,t∈(allDown n).take k↔n-k<=t.1:=by
 induction k with
 | zero=>intro t;simp
 | succ k ih =>
  intro t;have hs:=down_succ (n:=n) (t:=n-(k+1)) (by omega);rw [show n-(n-(k+1))=k+1 by omega,show n-(n-(k+1)+1)=k by omega]at hs;rw [hs,List.mem_append,ih (by omega),List.mem_singleton,Fin.ext_iff];simp only;omega
theorem compare_ne (a b:Nat) (v1 v2:Value) (w:World) (h1:NumAt w a v1) (h2:NumAt w b v2) (la:(Ig.grp a).length<=90000) (lb:(Ig.grp b).length<=90000) (hne:(Ig.grp a).length≠(Ig.grp b).length) :
 Calls Tryz.prog 103 #[v1,v2] w fun e w'=>e=.returned (.int .i64 (Ig.cmpI a b))/\Below w.heap.size w w':=by
 obtain⟨A1,c1,rfl,hA1,hn1,hm1⟩:=h1.out;obtain ⟨A2,c2,rfl,hA2,hn2,hm2⟩:=h2.out;have he:=cmpZ_len hne;have hb0:=bNew (bNewW w (.cells #[.slice A2 (Ig.grp b).length c2] 127)) (.cells #[.int .i64 0] 3);generalize (Ig.grp a).length=n1 at *;generalize (Ig.grp b).length=n2 at *;have t0:decide ((n1:Int)=(n2:Int))=false:=by simp;omega
 have t1:((n1:Int)==(n2:Int))=false:=by simp;omega
 go_enter Tryz.func103,Tryz.ntmps103
 go_wp2_with (go_at_call 149;refine (cmp_any _ _ _).mono ?_;rintro e w' ⟨rfl,rfl⟩)
 have B4:Bx ((w.alloc (.cells #[.slice A2 n2 c2] 127)).alloc (.cells #[.int .i64 (Ig.cmpI a b)] 3)) (w.heap.size+1) 3 #[.int .i64 (Ig.cmpI a b)]:=by
  have:=Bx.mk (w.alloc (.cells #[.slice A2 n2 c2] 127)) 3 #[.int .i64 (Ig.cmpI a b)]
  rwa [alloc_size]at this
 refine bodyPost_ret (results_cell rfl _ _ rfl B4) rfl ⟨rfl,bNew (bNewW w _) _⟩
structure CompI (w:World) (a b:Nat) (v2:Value) (pre:List (Fin (Ig.grp a).length)) (W:World):Prop where
 hb:Below w.heap.size w W
 le:w.heap.size+3<=W.heap.size
 B3:Bx W w.heap.size 127 #[v2]
 B4:Bx W (w.heap.size+1) 3 #[.int .i64 0]
 same:∀t∈pre,Ig.atG (Ig.grp a) t.1=Ig.atG (Ig.grp b) t.1
structure CompX (w:World) (a b:Nat) (pre:List (Fin (Ig.grp a).length)) (W:World):Prop where
 hb:Below w.heap.size w W
 le:w.heap.size+3<=W.heap.size
 out:∃m x,pre=m++[x]/\(∀t∈m,Ig.atG (Ig.grp a) t.1=Ig.atG (Ig.grp b) t.1)/\Ig.atG (Ig.grp a) x.1≠Ig.atG (Ig.grp b) x.1/\Bx W (w.heap.size+1) 3 #[.int .i64 (cmpZ (Ig.atG (Ig.grp a) x.1) (Ig.atG (Ig.grp b) x.1))]
theorem CompI.kept {w W W':World} {a b:Nat} {v2:Value} {pre:List (Fin (Ig.grp a).length)} {row:Option Nat} (h:CompI w a b v2 pre W) (hg:W.grownBy W' row) (hr:∀r,row=some r->w.heap.size<=r/\∃o:Obj,W.heap[r]? = some o/\o.isCells=false):CompI w a b v2 pre W' :=
 ⟨h.hb.grown hg h.hb.size (fun k e=>(hr k e).1),Nat.le_trans h.le hg.size,bx_kept h.B3 hg (fun r e=>(hr r e).2),bx_kept h.B4 hg (fun r e=>(hr r e).2),h.same⟩
theorem CompX.kept {w W W':World} {a b:Nat} {pre:List (Fin (Ig.grp a).length)} {row:Option Nat} (h:CompX w a b pre W) (hg:W.grownBy W' row) (hr:∀r,row=some r->w.heap.size<=r/\∃o:Obj,W.heap[r]? = some o/\o.isCells=false):CompX w a b pre W':=by
 obtain⟨m,x,h1,h2,h3,h4⟩:=h.out;exact ⟨h.hb.grown hg h.hb.size (fun k e=>(hr k e).1),Nat.le_trans h.le hg.size,m,x,h1,h2,h3,bx_kept h4 hg (fun r e=>(hr r e).2)⟩
theorem CompX.answer {w W:World} {a b k:Nat} (hlen:(Ig.grp a).length=(Ig.grp b).length) (hk:k<=(Ig.grp a).length) (h:CompX w a b ((allDown (Ig.grp a).length).take k) W):Bx W (w.heap.size+1) 3 #[.int .i64 (Ig.cmpI a b)]:=by
 obtain⟨m,x,h1,h2,h3,h4⟩:=h.out
 obtain⟨j,rfl⟩:∃j,k=j+1:=⟨k-1,by
  rcases k with _|k;· simp at h1
  · rfl⟩
 have hs:=down_succ (n:=(Ig.grp a).length) (t:=(Ig.grp a).length-(j+1)) (by omega);rw [show (Ig.grp a).length-((Ig.grp a).length-(j+1))=j+1 by omega,show (Ig.grp a).length-((Ig.grp a).length-(j+1)+1)=j by omega]at hs;rw [hs]at h1;have h5:=List.append_inj_left' h1 rfl
 have h6:x.1=(Ig.grp a).length-(j+1):=by
  have:=List.append_inj_right' h1 rfl;simp only[List.cons.injEq,and_true]at this;rw [←this]
 rw[cmpZ_at hlen x.1 x.2 (fun t h7 h8=>h2 ⟨t,h8⟩ (by rw[←h5,mem_take_down (by omega)];simp only;omega)) h3]at h4;exact h4
theorem compare_eq (a b:Nat) (v1 v2:Value) (w:World) (h1:NumAt w a v1) (h2:NumAt w b v2) (la:(Ig.grp a).length<=90000) (hl:(Ig.grp a).length=(Ig.grp b).length) :
 Calls Tryz.prog 103 #[v1,v2] w fun e w'=>e=.returned (.int .i64 (Ig.cmpI a b))/\Below w.heap.size w w':=by
 obtain⟨A1,c1,rfl,hA1,hn1,hm1⟩:=h1.out;obtain ⟨A2,c2,rfl,hA2,hn2,hm2⟩:=h2.out;have t0:decide (((Ig.grp a).length:Int)=((Ig.grp b).length:Int))=true:=by simp;omega
 have t1:(((Ig.grp a).length:Int)==((Ig.grp b).length:Int))=true:=by simp;omega
 have t2:(((Ig.grp a).length:Int) != ((Ig.grp b).length:Int))=false:=by simp;omega
 have hlk:Kp ((Ig.grp a).length=(Ig.grp b).length):=⟨hl⟩
 clear hl;refine (callsIn_wide (n:=3)).1 ?_;refine callsIn_of_wp_marks Tryz.func103 rfl trivial ?_ rfl;simp only[Tryz.ntmps103,List.size_toArray,List.length_cons,List.length_nil,Nat.reduceAdd,Nat.reduceSub,Array.replicate_succ,Array.replicate_zero,List.push_toArray,List.append_toArray,List.nil_append,List.cons_append]
 gi_wp2_with (refine ⟨trivial,?_⟩;gi_at_call 137;refine (back_in Fence.wide 2 trivial rfl _ _ _ _).mono ?_;rintro e w' ⟨rfl,rfl⟩)
 have hb0:=bNew (bNew (bNewW w (.cells #[.slice A2 (Ig.grp b).length c2] 127)) (.cells #[.int .i64 0] 3)) (.cells #[.slice A1 (Ig.grp a).length c1] 127);have B3:=((Bx.mk w 127 #[.slice A2 (Ig.grp b).length c2]).new (.cells #[.int .i64 0] 3)).new (.cells #[.slice A1 (Ig.grp a).length c1] 127);have B4:=(Bx.mk (w.alloc (.cells #[.slice A2 (Ig.grp b).length c2] 127)) 3 #[.int .i64 0]).new (.cells #[.slice A1 (Ig.grp a).length c1] 127);have B7:=Bx.mk ((w.alloc (.cells #[.slice A2 (Ig.grp b).length c2] 127)).alloc (.cells #[.int .i64 0] 3)) 127 #[.slice A1 (Ig.grp a).length c1];have hsz:(((w.alloc (.cells #[.slice A2 (Ig.grp b).length c2] 127)).alloc (.cells #[.int .i64 0] 3)).alloc (.cells #[.slice A1 (Ig.grp a).length c1] 127)).heap.size=w.heap.size+3:=by rw[alloc_size,alloc_size,alloc_size]
 rw[alloc_size]at B4;rw [alloc_size,alloc_size]at B7;generalize (((w.alloc (.cells #[.slice A2 (Ig.grp b).length c2] 127)).alloc (.cells #[.int .i64 0] 3)).alloc (.cells #[.slice A1 (Ig.grp a).length c1] 127))=W0 at *
 refine wpIn_rangeFunc_ownG rfl (by decide) (gf:=180) (lb:=#[.pointer (some ⟨w.heap.size+1+1,0,none⟩)]) rfl trivial (enters_of Tryz.func180 (by kernel_rfl) rfl)
  (back_stops Fence.wide 2 trivial rfl (by decide) (w.heap.size+1+1) w.heap.size A1 c1 (Ig.grp a) (by omega) W0 (by omega) (by omega) (B7.cell 0 rfl) (hA1.below hb0)) KpB.trans (kpB_b (by omega) (by omega)) (Below.refl _ _) (fun _=>rfl)
  (fun pre W=>CompI w a b (.slice A2 (Ig.grp b).length c2) pre W) (fun c pre W=>c=.ret/\CompX w a b pre W)
  (fun pre W W' row hs hg hr=>hs.kept hg (fun r e=>⟨by have:=(hr r e).1;omega,(hr r e).2⟩))
  (fun c pre W W' row hs hg hr=>⟨hs.1,hs.2.kept hg (fun r e=>⟨by have:=(hr r e).1;omega,(hr r e).2⟩)⟩)
  ⟨hb0,by omega,B3,B4,fun t ht=>by cases ht⟩
  (fun x=>{ tmps:=#[.slice A1 (Ig.grp a).length c1,.slice A2 (Ig.grp b).length c2,undef,.pointer (some ⟨w.heap.size,0,none⟩),.pointer (some ⟨w.heap.size+1,0,none⟩),.int .i64 (x.1:Int),.int .i64 (Ig.grp a)[x.1],.slice A1 (Ig.grp a).length c1,.int .i64 ((Ig.grp a).length:Int),.slice A2 (Ig.grp b).length c2,.int .i64 ((Ig.grp b).length:Int),.bool false,
   undef,undef,undef,undef,undef,.slice A1 (Ig.grp a).length c1,.func (.func 180) #[] #[.pointer (some ⟨w.heap.size+1+1,0,none⟩)],.int .i64 (x.1:Int),.int .i64 (Ig.grp a)[x.1],undef,undef,undef,undef,undef,undef,undef,undef,undef,undef,undef,undef],defers:=[] }) ?assign ?body ?done ?stop
 case assign =>
  intro l x W K hK;simp only[handed]
  gi_wp2
  exact hK
 case body =>
  rintro l pre x W ⟨hb,hle,B3',B4',hsame⟩ hlt;have hxb:x.1<(Ig.grp b).length:=by have:=x.2;have:=hlk.out;omega
  have hA2':=hA2.below hb;obtain ⟨b2,off,rfl,hbB,hcell⟩:=hA2' (by omega)
  have c0:W.cell? ⟨b2,off+x.1,none⟩=some (.int .i64 (Ig.grp b)[x.1]):=by
   have:=hcell x.1 _ (List.getElem?_eq_getElem hxb) 0 _ rfl;simpa using this
  have e1:Ig.atG (Ig.grp a) x.1=(Ig.grp a)[x.1]:=Ig.atG_lt x.2;have e2:Ig.atG (Ig.grp b) x.1=(Ig.grp b)[x.1]:=Ig.atG_lt hxb;have c3:=B3'.cell 0 rfl;have c4:=B4'.cell 0 rfl;have f4:=B4'.frozen 0;have hxk:Kp (x.1<(Ig.grp b).length):=⟨hxb⟩
  by_cases heq:(Ig.grp a)[x.1]=(Ig.grp b)[x.1]
  · have t3:decide ((Ig.grp a)[x.1]=(Ig.grp b)[x.1])=true:=by simp[heq]
    have hfin:CompI w a b (.slice (some ⟨b2,off,none⟩) (Ig.grp b).length c2) (pre++[x]) W:=⟨hb,hle,B3',B4',fun t ht=>by
     rcases List.mem_append.1 ht with h|h
     · exact hsame t h
     · rw[List.mem_singleton.1 h,e1,e2,heq]⟩
    gi_wp2
    exact⟨KeepsFrom.refl _ _,KpB.refl _ _ _,hfin⟩
  · have t3:decide ((Ig.grp a)[x.1]=(Ig.grp b)[x.1])=false:=by simp[heq]
    gi_wp2_with (refine ⟨by first|trivial|(intro h;cases h),?_⟩;gi_at_call 149;refine ((callsIn_wide.2 (cmp_any _ _ _)).inRound _).mono ?_;rintro e w' ⟨rfl,rfl⟩)
    exact⟨(KeepsOthers.setCell _ _ _).from _,rfl,bSet hb (Nat.le_succ _) _,Nat.le_trans hle (KeepsOthers.setCell _ _ _).size,pre,x,rfl,hsame,by rw[e1,e2];exact heq,by rw[e1,e2];exact B4'.set 0 _⟩
 case done =>
  rintro D ys W hD rfl ⟨hb,hle,B3',B4',hsame⟩ hK;have hz:Ig.cmpI a b=0:=cmpI_all hlk.out (fun t ht=>hsame ⟨t,ht⟩ (by simp[allDown]));have c4:=B4'.cell 0 rfl;have f4:=B4'.frozen 0
  gi_wp2
  have hK2:=(Below.heap_setCell W ⟨w.heap.size+1,0,none⟩ (.int .i64 0) D (by show D≠w.heap.size+1;omega)).trans hK;have B42:=B4'.set 0 (.int .i64 0);have hb2:=bSet hb (p:=⟨w.heap.size+1,0,none⟩) (Nat.le_succ _) (.int .i64 0);generalize W.setCell ⟨w.heap.size+1,0,none⟩ (.int .i64 0)=W2 at *;refine ⟨by simp,.inl ⟨_,_,rfl,run_takeDeferred hK2,?_⟩⟩;have hg:=grownBy_putObj' W2 D (.deferred none);have hr:∀r,some D=some r->∃o:Obj,W2.heap[r]? = some o/\o.isCells=false:=fun r e=>by cases e;exact⟨_,hK2,rfl⟩
  rw[hz];exact ⟨_,results_cell rfl _ _ rfl (bx_kept B42 hg hr),rfl,hb2.trans (belowK_b (w:=w) (Nat.le_refl _) W2 D _ _ (by omega) hK2 rfl rfl)⟩
 case stop =>
  rintro D c pre W hD ⟨k,hk,rfl⟩ ⟨rfl,hX⟩ hK;have hB:=hX.answer hlk.out hk
  gi_wp2
  refine⟨by simp,.inl ⟨_,_,rfl,run_takeDeferred hK,?_⟩⟩;have hg:=grownBy_putObj' W D (.deferred none);have hr:∀r,some D=some r->∃o:Obj,W.heap[r]? = some o/\o.isCells=false:=fun r e=>by cases e;exact⟨_,hK,rfl⟩
  exact⟨_,results_cell rfl _ _ rfl (bx_kept hB hg hr),rfl,hX.hb.trans (belowK_b (w:=w) (Nat.le_refl _) W D _ _ (by omega) hK rfl rfl)⟩
theorem compare_any (a b:Nat) (v1 v2:Value) (w:World) (h1:NumAt w a v1) (h2:NumAt w b v2) (la:(Ig.grp a).length<=90000) (lb:(Ig.grp b).length<=90000) :
 Calls Tryz.prog 103 #[v1,v2] w fun e w'=>e=.returned (.int .i64 (Ig.cmpI a b))/\Below w.heap.size w w':=by
 by_cases hl:(Ig.grp a).length=(Ig.grp b).length
 · exact compare_eq a b v1 v2 w h1 h2 la hl
 · exact compare_ne a b v1 v2 w h1 h2 la lb hl
theorem cmpI_pos (a b:Nat):decide (Ig.cmpI a b > 0)=decide (b<a):=by
 rcases (show a<b∨a=b∨b<a by omega) with h|h|h
 · rw[Ig.cmpI_lt h];simp;omega
 · subst h;rw[Ig.cmpI_eq];simp
 · rw[Ig.cmpI_gt h];simp;omega
theorem over1_any (b r d:Nat) (v2 v5:Value) (g8 g5:Nat) (w:World) (B8:Bx w g8 160 #[.func (.func 139) #[v2] #[]]) (B5:Bx w g5 127 #[v5]) (h2:NumAt w b v2) (h5:NumAt w r v5) (hd:d<10000)
 (l2:(Ig.grp b).length<=20000) (l5:(Ig.grp r).length<=90000) (l3:(Ig.grp (b*(d+1))).length<=90000) :
 Calls Tryz.prog 140 #[.int .i64 d,.pointer (some ⟨g8,0,none⟩),.pointer (some ⟨g5,0,none⟩)] w fun e w'=>e=.returned (.bool (decide (r<b*(d+1))))/\Below w.heap.size w w':=by
 go_enter Tryz.func140,Tryz.ntmps140
 go_wp2_with fail;have hay:=fun w1 (hb1:Below w.heap.size w w1)=>(B8.call hb1).cell 0 rfl
 have hby:=fun w1 (hb1:Below w.heap.size w w1)=>(B5.call hb1).cell 0 rfl
 have hcp:=cmpI_pos (b*(d+1)) r;refine wp_region_rgl [Eqv (.func (.func 139) #[v2] #[]),Eqv (.int .i64 d),Eqv (.int .i64 ((d+1:Nat):Int)),(fun v W=>NumAt W (b*(d+1)) v),Eqv v5,Eqv (.int .i64 (Ig.cmpI (b*(d+1)) r)),Eqv (.bool (decide (r<b*(d+1)))),Eqv (.bool (decide (r<b*(d+1))))] 8 12 (by kernel_rfl) rfl rfl (by kernel_rfl) ?_ ?_ ?_
 · simp only[AllS];exact ⟨stab_eqv _,stab_eqv _,stab_eqv _,fun v w w' h hb=>h.call hb,stab_eqv _,stab_eqv _,stab_eqv _,stab_eqv _,trivial⟩
 · simp only[Users,List.take,List.length];refine ⟨?_,?_,?_,?_,?_,?_,?_,?_,trivial⟩;all_goals (intro vs w1 hb1 hd0;have c8:=hay w1 hb1;have c5:=hby w1 hb1;have hN2:=h2.call hb1;have hN5:=h5.call hb1;clear hay hby;simp only[putD,Act.put,List.nil_append,List.cons_append,List.setIfInBounds_toArray,List.set_cons_succ,List.set_cons_zero,Nat.reduceAdd])
   · clear hd0;go_wp2;exact⟨Below.refl _ _,rfl⟩
   · clear hd0;go_wp2;exact⟨Below.refl _ _,rfl⟩
   · have e:vs 1=.int .i64 d:=hd0 1 rfl;clear hd0;rw[e];go_wp2;exact⟨Below.refl _ _,rfl⟩
   · have e:vs 0=.func (.func 139) #[v2] #[]:=hd0 0 rfl;have e':vs 2=.int .i64 ((d+1:Nat):Int):=hd0 2 rfl;clear hd0;rw [e,e'];have hC:=by_any b (d+1) v2 w1 hN2 (by omega) (by omega);go_wp2_with fail;refine hC.mono ?_;clear hC;rintro _ w9 ⟨v9,rfl,hn9,hb9⟩;go_wp2;exact hn9
   · clear hd0;go_wp2;exact⟨Below.refl _ _,rfl⟩
   · have e:NumAt w1 (b*(d+1)) (vs 3):=hd0 3 rfl;have e':vs 4=v5:=hd0 4 rfl;clear hd0;rw [e'];have hC:=compare_any (b*(d+1)) r (vs 3) v5 w1 e hN5 (by omega) (by omega);go_wp2_with fail;refine hC.mono ?_;clear hC;rintro _ w9 ⟨rfl,hb9⟩;go_wp2;rfl
   · have e:vs 5=.int .i64 (Ig.cmpI (b*(d+1)) r):=hd0 5 rfl;clear hd0;rw[e];go_wp2;exact ⟨Below.refl _ _,rfl⟩
   · have e:vs 6=.bool (decide (r<b*(d+1))):=hd0 6 rfl;clear hd0;rw[e];go_wp2;exact⟨Below.refl _ _,rfl⟩
 · intro vs wa hba hR;simp only[AllR,Eqv]at hR;obtain ⟨-,-,-,-,-,-,-,e7,-⟩:=hR;simp only[List.drop,List.take,List.map,putD,Act.put,List.setIfInBounds_toArray,List.set_cons_succ,List.set_cons_zero,Nat.reduceAdd];rw [e7];go_wp2;go_ret;exact ⟨rfl,hba⟩
def intN:Value->Nat
 | .int _ x=>x.toNat
 | _=>0
theorem search_any (q:Nat) (g8 g5:Nat) (w:World) (hq:q<=9999)
 (hf:∀(W:World) (d:Nat),Below w.heap.size w W->d<9999->Calls Tryz.prog 140 #[.int .i64 d,.pointer (some ⟨g8,0,none⟩),.pointer (some ⟨g5,0,none⟩)] W fun e w'=>e=.returned (.bool (decide (q<=d)))/\Below W.heap.size W w') :
 Calls Tryz.prog 141 #[.int .i64 9999,.func (.func 140) #[] #[.pointer (some ⟨g8,0,none⟩),.pointer (some ⟨g5,0,none⟩)]] w fun e w'=>e=.returned (.int .i64 q)/\Below w.heap.size w w':=by
 go_enter Tryz.func141,Tryz.ntmps141
 go_wp2
 go_loopw [5,6,7] (fun s5 s6 s7 wr=>∃(i j:Nat),s5=.int .i64 i/\s6=.int .i64 j/\i<=q/\q<=j/\j<=9999/\Below w.heap.size w wr) (fun s5 s6 s7 wr=>intN s6-intN s5)
 case atStart=>exact⟨0,9999,rfl,rfl,Nat.zero_le _,hq,Nat.le_refl _,Below.refl _ _⟩
 case round =>
  obtain⟨i,j,rfl,rfl,hi,hj,hj9,hb⟩:=hrel;by_cases h:i<j
  · have t0:decide ((i:Int)<(j:Int))=true:=by simp;omega
    have hC:=hf wr ((i+j) / 2) hb (by omega);have hm1:i<=(i+j) / 2:=by omega
    have hm2:(i+j) / 2<j:=by omega
    go_wp2_with fail;have em:((i:Int)+(j:Int)) / 2=(((i+j) / 2:Nat):Int):=by omega
    simp only[em];generalize (i+j) / 2=m at *;clear em;by_cases hqm:q<=m
    · have t1:decide (q<=m)=true:=by simp;omega
      rw[t1]at hC;refine hC.mono ?_;clear hC;rintro _ w9 ⟨rfl,hb9⟩;go_wp2;exact ⟨⟨i,m,rfl,rfl,by omega,by omega,by omega,bCall hb hb9⟩,by simp only[intN];omega⟩
    · have t1:decide (q<=m)=false:=by simp;omega
      rw[t1]at hC;refine hC.mono ?_;clear hC;rintro _ w9 ⟨rfl,hb9⟩;go_wp2;exact ⟨⟨m+1,j,by go_num,rfl,by omega,by omega,by omega,bCall hb hb9⟩,by simp only[intN];omega⟩
  · have t0:decide ((i:Int)<(j:Int))=false:=by simp;omega
    obtain rfl:i=q:=by omega
    go_wp2;go_ret;exact ⟨rfl,hb⟩
theorem grp_one:Ig.grp 1=[1]:=by
 rw[Ig.grp_pos (by decide),show 1 / 10000=0 from rfl,Ig.grp_zero];rfl
theorem one_any (w:World):Calls Tryz.prog 100 #[] w fun e w'=>∃v,e=.returned v/\NumAt w' 1 v/\Below w.heap.size w w':=by
 have hB:=Bx.mk w 3 #[.int .i64 1];have hb:=bNewW w (.cells #[.int .i64 1] 3)
 have hN:NumAt (w.alloc (.cells #[.int .i64 1] 3)) 1 (.slice (some ⟨w.heap.size,0,none⟩) 1 1):=by
  refine⟨some ⟨w.heap.size,0,none⟩,1,by rw[grp_one];rfl,?_,by rw[grp_one];decide,by decide⟩;rw [grp_one];intro _;refine ⟨w.heap.size,0,rfl,hB.lt,fun i c hi j u hj=>?_⟩
  obtain rfl:i=0:=by
   rcases i with _|i;· rfl
   · simp at hi
  obtain rfl:c=1:=by simpa using hi.symm
  obtain rfl:j=0:=by
   rcases j with _|j;· rfl
   · simp[intC]at hj
  obtain rfl:u=.int .i64 1:=by simpa [intC] using hj.symm
  exact hB.cell 0 rfl
 go_enter Tryz.func100,Tryz.ntmps100
 go_wp2;go_ret;exact ⟨_,rfl,hN,hb⟩
theorem Valid_any (s:List UInt8) (hs:s.length<=1000000) (w:World) :
 Calls Tryz.prog 94 #[.string ⟨s.toArray⟩] w fun e w'=>e=.returned (.bool (Ig.validS s))/\Below w.heap.size w w':=by
 have hV:=isValid_any s hs w
 go_enter Tryz.func94,Tryz.ntmps94
 go_wp2_with fail;refine hV.mono ?_;rintro _ w9 ⟨rfl,hb9⟩;clear hV;go_wp2;go_ret;exact ⟨rfl,hb9⟩
def dq (l:List Int) (b:Nat) (pre:List (Fin l.length)):Nat->Nat :=
 (pre.foldl (fun (st:Nat × (Nat->Nat)) t=>(st.1*10000+l[t.1].toNat,fun k=>if k=t.1 then (st.1*10000+l[t.1].toNat) / b % 10000 else st.2 k)) (0,fun _=>0)).2
theorem dq_fst (l:List Int) (b:Nat) (pre:List (Fin l.length)):(pre.foldl (fun (st:Nat × (Nat->Nat)) t=>(st.1*10000+l[t.1].toNat,fun k=>if k=t.1 then (st.1*10000+l[t.1].toNat) / b % 10000 else st.2 k)) (0,fun _=>0)).1=hor l pre:=by
 have:∀(n:Nat) (pre:List (Fin l.length)),pre.length=n->(pre.foldl (fun (st:Nat × (Nat->Nat)) t=>(st.1*10000+l[t.1].toNat,fun k=>if k=t.1 then (st.1*10000+l[t.1].toNat) / b % 10000 else st.2 k)) (0,fun _=>0)).1=hor l pre:=by
  intro n
  induction n with
  | zero=>intro pre h;rw[List.length_eq_zero_iff.1 h];rfl
  | succ n ih =>
   intro pre h
   rcases List.eq_nil_or_concat pre with h0|⟨m,t,h0⟩
   · rw[h0];rfl
   · obtain rfl:pre=m++[t]:=by simpa using h0
     rw[hor_snoc,←ih m (by simpa using h),List.foldl_append];rfl
 exact this _ _ rfl
theorem dq_nil (l:List Int) (b k:Nat):dq l b [] k=0:=rfl
theorem dq_snoc (l:List Int) (b:Nat) (pre:List (Fin l.length)) (t:Fin l.length) (k:Nat):dq l b (pre++[t]) k=if k=t.1 then hor l (pre++[t]) / b % 10000 else dq l b pre k:=by
 rw[hor_snoc,←dq_fst l b pre]
 unfold dq
 rw[List.foldl_append];rfl
theorem dq_take {l:List Int} (hl:Ig.Gr l) (b:Nat):∀k,k<=l.length->∀t,l.length-k<=t->t<l.length->dq l b ((allDown l.length).take k) t=(Ig.from_ l t).toNat / b % 10000
 | 0,_,t,h1,h2=>by omega
 | k+1,hk,t,h1,h2=>by
  have hs:=down_succ (n:=l.length) (t:=l.length-(k+1)) (by omega);rw [show l.length-(l.length-(k+1))=k+1 by omega,show l.length-(l.length-(k+1)+1)=k by omega]at hs;rw [hs,dq_snoc,←hs];by_cases h:t=l.length-(k+1)
  · rw[if_pos (by simpa using h),h,←hor_take l hl (k+1) hk,Int.toNat_natCast]
  · rw[if_neg (by simpa using h)];exact dq_take hl b k (by omega) t (by omega) h2
theorem dq_gval {l:List Int} (hl:Ig.Gr l) {b:Nat} (hb:0<b):∀k,k<=l.length->Ig.gval (((List.range l.length).map fun t=>((dq l b (allDown l.length) t:Nat):Int)).drop (l.length-k))=(((Ig.from_ l (l.length-k)).toNat / b:Nat):Int)
 | 0,_=>by
  rw[Nat.sub_zero,Ig.from_end (Nat.le_refl _),List.drop_eq_nil_of_le (by simp)];simp [Ig.gval]
 | k+1,hk=>by
  have ih:=dq_gval hl hb k (by omega);have ht:l.length-(k+1)<l.length:=by omega
  have hd:=dq_take hl b l.length (Nat.le_refl _) (l.length-(k+1)) (by omega) ht;rw [List.take_of_length_le (by rw[allDown_len];omega)]at hd;rw [List.drop_eq_getElem_cons (by simp;omega),show l.length-(k+1)+1=l.length-k by omega];simp only[List.getElem_map,List.getElem_range];rw [hd]
  show _+10000*Ig.gval _=_
  rw[ih];have h1:=Ig.from_step ht;rw [show l.length-(k+1)+1=l.length-k by omega]at h1;have h2:=Ig.from_nonneg hl (l.length-k);have h3:=hl l[l.length-(k+1)] (List.getElem_mem ht);generalize Ig.from_ l (l.length-k)=F at *;generalize Ig.from_ l (l.length-(k+1))=G at *;generalize l[l.length-(k+1)]=g at *;obtain ⟨F,rfl⟩:=Int.eq_ofNat_of_zero_le h2;obtain ⟨g,rfl⟩:=Int.eq_ofNat_of_zero_le h3.1;obtain rfl:G=((g+10000*F:Nat):Int):=by omega
  rw[Int.toNat_natCast]
  have h4:(g+10000*F) / b / 10000=F / b:=by
   rw[Nat.div_div_eq_div_mul,Nat.mul_comm b 10000,←Nat.div_div_eq_div_mul]
   congr 1
   omega
  have h5:(Int.toNat (Int.ofNat F))=F:=rfl;have h6:=Nat.mod_add_div ((g+10000*F) / b) 10000;rw [h4]at h6;first|(rw [h5];omega)|(simp only[Int.toNat_natCast];omega)
def qCells (l:List Int) (b:Nat) (pre:List (Fin l.length)):Array Value:=((List.range l.length).map fun t=>Value.int .i64 ((dq l b pre t:Nat):Int)).toArray
theorem qCells_set (l:List Int) (b:Nat) (pre:List (Fin l.length)) (x:Fin l.length):(qCells l b pre).setIfInBounds x.1 (.int .i64 ((hor l (pre++[x]) / b % 10000:Nat):Int))=qCells l b (pre++[x]):=by
 have h:((List.range l.length).map fun t=>Value.int .i64 ((dq l b pre t:Nat):Int)).set x.1 (.int .i64 ((hor l (pre++[x]) / b % 10000:Nat):Int))=(List.range l.length).map fun t=>Value.int .i64 ((dq l b (pre++[x]) t:Nat):Int):=by
  apply List.ext_getElem (by simp)
  intro i h1 h2;rw [List.getElem_set,List.getElem_map,List.getElem_map,List.getElem_range,dq_snoc];by_cases h:x.1=i
  · rw[if_pos h,if_pos h.symm]
  · rw[if_neg h,if_neg (fun e=>h e.symm)]
 unfold qCells
 rw[List.setIfInBounds_toArray,h]
theorem qCells_nil (l:List Int) (b:Nat):madeCells #[.int .i64 0] l.length=qCells l b []:=by
 apply Array.ext (by simp[madeCells,qCells])
 intro i h1 h2;simp [madeCells,qCells,dq_nil,Nat.mod_one]
structure OverI (w:World) (a b:Nat) (v2:Value) (pre:List (Fin (Ig.grp a).length)) (W:World):Prop where
 hb:Below w.heap.size w W
 le:w.heap.size+5<=W.heap.size
 B3:Bx W w.heap.size 127 #[v2]
 Bq:Bx W (w.heap.size+1) 127 #[.slice (some ⟨w.heap.size+1+1+1,0,none⟩) (Ig.grp a).length (Ig.grp a).length]
 Br:∃v,Bx W (w.heap.size+1+1) 127 #[v]/\NumAt W (hor (Ig.grp a) pre % b) v
 Bc:Bx W (w.heap.size+1+1+1) 3 (qCells (Ig.grp a) b pre)
theorem OverI.kept {w W W':World} {a b:Nat} {v2:Value} {pre:List (Fin (Ig.grp a).length)} {row:Option Nat} (h:OverI w a b v2 pre W) (hg:W.grownBy W' row) (hr:∀r,row=some r->w.heap.size<=r/\∃o:Obj,W.heap[r]? = some o/\o.isCells=false):OverI w a b v2 pre W':=by
 obtain⟨v,h1,h2⟩:=h.Br;exact ⟨h.hb.grown hg h.hb.size (fun k e=>(hr k e).1),Nat.le_trans h.le hg.size,bx_kept h.B3 hg (fun r e=>(hr r e).2),bx_kept h.Bq hg (fun r e=>(hr r e).2),⟨v,bx_kept h1 hg (fun r e=>(hr r e).2),num_kept h2 hg (fun r e=>(hr r e).2)⟩,bx_kept h.Bc hg (fun r e=>(hr r e).2)⟩
attribute [local go_sem] Oper.semAt_some
theorem intZ:∃i,Tryz.prog.info? 3=some i/\i.zero=some (.int .i64 0)/\i.size=1/\i.bytes=8:=by
 have h:(Tryz.prog.info? 3).map (fun i=>(i.size,i.bytes,i.zero))=some (1,8,some (.int .i64 0)):=by kernel_rfl
 cases hi:Tryz.prog.info? 3 with
 | none=>rw[hi]at h;cases h
 | some i =>
  rw[hi]at h;simp only[Option.map_some,Option.some.injEq,Prod.mk.injEq]at h;exact ⟨i,rfl,h.2.2,h.1,h.2.1⟩
theorem make_nums (n:Nat) (hn:n<=1000000) (w:World):(Instr.makeSlice 127 (.int .i64 n) (.int .i64 n)).run Tryz.prog w=.ok (.slice (some ⟨w.heap.size,0,none⟩) n n) (w.alloc (.cells (madeCells #[.int .i64 0] n) 3)):=by
 obtain⟨i,h1,h2,h3,h4⟩:=intZ;have h:=run_make (P:=Tryz.prog) w 127 3 i (.int .i64 0) Tryz.underlying127 h1 h2 .i64 .i64 n n (by omega) (by omega) (by rw[h4];omega) (by omega);rw [h3,Nat.mul_one,Int.toNat_natCast]at h;exact h
theorem gr_step {r d:Nat} (hd:d<10000):Ig.Gr ((d:Int) :: Ig.grp r):=fun g hg=>by
 rcases List.mem_cons.1 hg with h|h
 · subst h;omega
 · exact Ig.gr_grp r g h
theorem trim_step {r d:Nat} (hd:d<10000):Ig.trimG ((d:Int) :: Ig.grp r)=Ig.grp (d+10000*r):=by
 rw[Ig.trimG_of (gr_step hd)]
 have h:Ig.gval ((d:Int) :: Ig.grp r)=((d+10000*r:Nat):Int):=by
  show (d:Int)+10000*Ig.gval (Ig.grp r)=_
  rw[Ig.gval_grp];omega
 rw[h,Int.toNat_natCast]
theorem grp_step_len {r d m:Nat} (hd:d<10000) (h:(Ig.grp r).length<=m):(Ig.grp (d+10000*r)).length<=m+1:=by
 refine Ig.grp_len ?_;have h1:=Nat.lt_of_lt_of_le (Ig.grp_lt r) (Nat.pow_le_pow_right (show 0<10000 by decide) h);rw [Nat.pow_succ];generalize 10000 ^ m=p at *;omega
theorem at_far {W:World} {g o B:Nat} {A:Option Addr} {p:List Int} (h:At 1 intC W B A p) (hne:∀b off,A=some ⟨b,off,none⟩->b≠g) (u:Value):At 1 intC (W.setCell ⟨g,o,none⟩ u) B A p:=fun h0=>by
 obtain⟨b,off,e,hb,hc⟩:=h h0;exact ⟨b,off,e,hb,fun i c hi j v hj=>(cell_block (Below.heap_setCell W ⟨g,o,none⟩ u b (hne b off e))).trans (hc i c hi j v hj)⟩
theorem num_far {W:World} {g o a n c b off:Nat} (h:NumAt W a (.slice (some ⟨b,off,none⟩) n c)) (hne:b≠g) (u:Value):NumAt (W.setCell ⟨g,o,none⟩ u) a (.slice (some ⟨b,off,none⟩) n c):=by
 obtain⟨A',cap,h1,h2,h3,h4⟩:=h.out;simp only[Value.slice.injEq]at h1;obtain ⟨rfl,rfl,rfl⟩:=h1;exact ⟨_,_,rfl,(at_far h2 (fun b' off' e=>by simp only[Option.some.injEq,Addr.mk.injEq]at e;omega) u).more (KeepsOthers.setCell W _ u).size,h3,h4⟩
def digs (l:List Int) (b:Nat) (pre:List (Fin l.length)):List Int:=(List.range l.length).map fun t=>((dq l b pre t:Nat):Int)
theorem digs_len (l:List Int) (b:Nat) (pre:List (Fin l.length)):(digs l b pre).length=l.length:=by simp[digs]
theorem qCells_at {W:World} {g b:Nat} {l:List Int} {pre:List (Fin l.length)} (h:Bx W g 3 (qCells l b pre)):At 1 intC W W.heap.size (some ⟨g,0,none⟩) (digs l b pre):=fun _=>by
 refine⟨g,0,rfl,h.lt,fun i c hi j u hj=>?_⟩
 obtain rfl:j=0:=by
  rcases j with _|j;· rfl
  · simp[intC]at hj
 obtain rfl:u=.int .i64 c:=by simpa [intC] using hj.symm
 rw[Nat.zero_add,Nat.mul_one,Nat.add_zero];refine h.cell i ?_
 unfold digs at hi
 unfold qCells
 rw[List.getElem?_map]at hi;rw [List.getElem?_toArray,List.getElem?_map]
 cases hr:(List.range l.length)[i]? with
 | none=>rw[hr]at hi;cases hi
 | some t=>rw[hr]at hi;simp only[Option.map_some,Option.some.injEq]at hi ⊢;rw[hi]
theorem dq_lt (l:List Int) (b:Nat):∀(n:Nat) (pre:List (Fin l.length)),pre.length=n->∀t,dq l b pre t<10000
 | 0,pre,h,t=>by rw[List.length_eq_zero_iff.1 h,dq_nil];decide
 | n+1,pre,h,t=>by
  rcases List.eq_nil_or_concat pre with h0|⟨m,x,h0⟩
  · rw[h0]at h;simp at h
  · obtain rfl:pre=m++[x]:=by simpa using h0
    rw[dq_snoc]
    split
    · exact Nat.mod_lt _ (by decide)
    · exact dq_lt l b n m (by simpa using h) t
theorem digs_trim (a:Nat) {b:Nat} (hb:0<b):Ig.trimG (digs (Ig.grp a) b (allDown (Ig.grp a).length))=Ig.grp (a / b):=by
 rw[Ig.trimG_of (fun g hg=>by
  obtain⟨t,_,rfl⟩:=List.mem_map.1 hg;have:=dq_lt (Ig.grp a) b _ (allDown (Ig.grp a).length) rfl t
  omega)]
 have h:=dq_gval (Ig.gr_grp a) hb (Ig.grp a).length (Nat.le_refl _);rw [Nat.sub_self,List.drop_zero,Ig.from_zero,Ig.gval_grp,Int.toNat_natCast]at h
 unfold digs
 rw[h,Int.toNat_natCast]
theorem results_cells2 {fn:Func} {t u:Tmp} {g g':Nat} {A A':Option Addr} {n n' c c':Nat} (h:fn.results=#[.cell t 127,.cell u 127]) (tmps:Array Value) (w:World) (ht:tmps.getD t undef=.pointer (some ⟨g,0,none⟩)) (hu:tmps.getD u undef=.pointer (some ⟨g',0,none⟩))
 (hB:Bx w g 127 #[.slice A n c]) (hB':Bx w g' 127 #[.slice A' n' c']) :
 (results fn tmps).run Tryz.prog w=.ok (.tuple #[.slice A n c,.slice A' n' c']) w:=by
 have h0:=hB.cell 0 rfl;have h0':=hB'.cell 0 rfl;have ht':tmps[t]?.getD undef=.pointer (some ⟨g,0,none⟩):=by simpa using ht
 have hu':tmps[u]?.getD undef=.pointer (some ⟨g',0,none⟩):=by simpa using hu
 simp only[results,h];simp [go_sem,ht',hu',h0,h0',loadVar]
theorem over_any (a b:Nat) (v1 v2:Value) (w:World) (h1:NumAt w a v1) (h2:NumAt w b v2) (hb0:0<b) (la:(Ig.grp a).length<=20000) (lb:(Ig.grp b).length<=15000) :
 Calls Tryz.prog 98 #[v1,v2] w fun e w'=>∃q r,e=.returned (.tuple #[q,r])/\NumAt w' (a / b) q/\NumAt w' (a % b) r/\Below w.heap.size w w':=by
 obtain⟨A1,c1,rfl,hA1,hn1,hm1⟩:=h1.out;obtain ⟨A2,c2,rfl,hA2,hn2,hm2⟩:=h2.out;have hn9:(Ig.grp a).length<=20000:=la;refine (callsIn_wide (n:=3)).1 ?_;refine callsIn_of_wp_marks Tryz.func98 rfl trivial ?_ rfl;simp only[Tryz.ntmps98,List.size_toArray,List.length_cons,List.length_nil,Nat.reduceAdd,Nat.reduceSub,Array.replicate_succ,Array.replicate_zero,List.push_toArray,List.append_toArray,List.nil_append,List.cons_append];have hmk:=make_nums (Ig.grp a).length (by omega)
 gi_wp2_with (refine ⟨trivial,?_⟩;gi_at_call 137;refine (back_in Fence.wide 2 trivial rfl _ _ _ _).mono ?_;rintro e w' ⟨rfl,rfl⟩)
 obtain⟨W1,hW1⟩:∃W1,W1=w.alloc (.cells #[.slice A2 (Ig.grp b).length c2] 127):=⟨_,rfl⟩
 obtain⟨W2,hW2⟩:∃W2,W2=W1.alloc (.cells #[.slice (some ⟨w.heap.size+1+1+1,0,none⟩) (Ig.grp a).length (Ig.grp a).length] 127):=⟨_,rfl⟩
 obtain⟨W3,hW3⟩:∃W3,W3=W2.alloc (.cells #[.slice none 0 0] 127):=⟨_,rfl⟩
 obtain⟨W4,hW4⟩:∃W4,W4=W3.alloc (.cells (madeCells #[.int .i64 0] (Ig.grp a).length) 3):=⟨_,rfl⟩
 obtain⟨W0,hW0⟩:∃W0,W0=W4.alloc (.cells #[.slice A1 (Ig.grp a).length c1] 127):=⟨_,rfl⟩
 rw[←hW1,←hW2,←hW3,←hW4,←hW0];have s1:W1.heap.size=w.heap.size+1:=by rw[hW1,alloc_size]
 have s2:W2.heap.size=w.heap.size+1+1:=by rw[hW2,alloc_size,s1]
 have s3:W3.heap.size=w.heap.size+1+1+1:=by rw[hW3,alloc_size,s2]
 have s4:W4.heap.size=w.heap.size+1+1+1+1:=by rw[hW4,alloc_size,s3]
 have hsz:W0.heap.size=w.heap.size+5:=by rw[hW0,alloc_size,s4]
 have hb5:Below w.heap.size w W0:=by rw[hW0,hW4,hW3,hW2,hW1];exact bNew (bNew (bNew (bNew (bNewW w _) _) _) _) _
 have b1:=Bx.mk w 127 #[.slice A2 (Ig.grp b).length c2];have b2:=Bx.mk W1 127 #[.slice (some ⟨w.heap.size+1+1+1,0,none⟩) (Ig.grp a).length (Ig.grp a).length];have b3:=Bx.mk W2 127 #[.slice none 0 0];have b4:=Bx.mk W3 3 (madeCells #[.int .i64 0] (Ig.grp a).length);have B7:=Bx.mk W4 127 #[.slice A1 (Ig.grp a).length c1];rw [←hW1]at b1;rw [←hW2,s1]at b2;rw [←hW3,s2]at b3;rw [←hW4,s3,qCells_nil (Ig.grp a) b]at b4;rw [←hW0,s4]at B7;have b4':=b4.new (.cells #[.slice A1 (Ig.grp a).length c1] 127);have b3':=(b3.new (.cells (madeCells #[.int .i64 0] (Ig.grp a).length) 3)).new (.cells #[.slice A1 (Ig.grp a).length c1] 127);have b2':=((b2.new (.cells #[.slice none 0 0] 127)).new (.cells (madeCells #[.int .i64 0] (Ig.grp a).length) 3)).new (.cells #[.slice A1 (Ig.grp a).length c1] 127);have b1':=(((b1.new (.cells #[.slice (some ⟨w.heap.size+1+1+1,0,none⟩) (Ig.grp a).length (Ig.grp a).length] 127)).new (.cells #[.slice none 0 0] 127)).new (.cells (madeCells #[.int .i64 0] (Ig.grp a).length) 3)).new (.cells #[.slice A1 (Ig.grp a).length c1] 127);rw [←hW0]at b4';rw [←hW4,←hW0]at b3';rw [←hW3,←hW4,←hW0]at b2';rw [←hW2,←hW3,←hW4,←hW0]at b1';have hI0:OverI w a b (.slice A2 (Ig.grp b).length c2) [] W0:=⟨hb5,by omega,b1',b2',⟨_,b3',⟨none,0,by simp[hor,Ig.grp_zero],by simp only[hor,List.foldl_nil,Nat.zero_mod,Ig.grp_zero];exact At.nil,by simp[hor,Ig.grp_zero],Nat.zero_le _⟩⟩,b4'⟩
 clear b1 b2 b3 b4 b1' b2' b3' b4' hW0 hW1 hW2 hW3 hW4 hmk s1 s2 s3 s4 hb5
 refine wpIn_rangeFunc_ownG rfl (by decide) (gf:=180) (lb:=#[.pointer (some ⟨w.heap.size+1+1+1+1,0,none⟩)]) rfl trivial (enters_of Tryz.func180 (by kernel_rfl) rfl)
  (back_stops Fence.wide 2 trivial rfl (by decide) (w.heap.size+1+1+1+1) w.heap.size A1 c1 (Ig.grp a) (by omega) W0 (by omega) (by omega) (B7.cell 0 rfl) (hA1.below hI0.hb)) KpB.trans (kpB_b (by omega) (by omega)) (Below.refl _ _) (fun _=>rfl)
  (fun pre W=>OverI w a b (.slice A2 (Ig.grp b).length c2) pre W) (fun _ _ _=>False)
  (fun pre W W' row hs hg hr=>hs.kept hg (fun r e=>⟨by have:=(hr r e).1;omega,(hr r e).2⟩))
  (fun _ _ _ _ _ hs _ _=>hs)
  hI0
  (fun x=>{ tmps:=#[.slice A1 (Ig.grp a).length c1,.slice A2 (Ig.grp b).length c2,undef,.pointer (some ⟨w.heap.size,0,none⟩),.pointer (some ⟨w.heap.size+1,0,none⟩),.pointer (some ⟨w.heap.size+1+1,0,none⟩),.int .i64 (x.1:Int),.int .i64 (Ig.grp a)[x.1],undef,undef,.slice A1 (Ig.grp a).length c1,.int .i64 ((Ig.grp a).length:Int),.slice (some ⟨w.heap.size+1+1+1,0,none⟩) (Ig.grp a).length (Ig.grp a).length,
   .slice A1 (Ig.grp a).length c1,.func (.func 180) #[] #[.pointer (some ⟨w.heap.size+1+1+1+1,0,none⟩)],.int .i64 (x.1:Int),.int .i64 (Ig.grp a)[x.1],undef,undef,undef,undef,undef,undef,undef,undef,undef,undef,undef,undef,undef,undef,undef,undef,undef,undef,undef,undef,undef,undef,undef,undef],defers:=[] }) ?assign ?body ?done ?stop
 case assign =>
  intro l x W K hK;simp only[handed]
  gi_wp2
  exact hK
 case body =>
  rintro l pre x W ⟨hb,hle,B3,Bq,⟨v,Br,hNr⟩,Bc⟩ hlt;have hgx:=Ig.gr_grp a (Ig.grp a)[x.1] (List.getElem_mem x.2);obtain ⟨d,hd⟩:=Int.eq_ofNat_of_zero_le hgx.1;have hd9:d<10000:=by omega
  have hsn:Kp (hor (Ig.grp a) (pre++[x])=hor (Ig.grp a) pre*10000+d):=⟨by rw[hor_snoc,hd,Int.toNat_natCast]⟩
  simp only[hd];generalize hor (Ig.grp a) pre=y at *;obtain ⟨A5,c5,rfl,hA5,hn5,hm5⟩:=hNr.out;have hyl:(Ig.grp (y % b)).length<=15000:=Nat.le_trans (Ig.grp_len (Nat.lt_of_lt_of_le (Nat.mod_lt y hb0) (Nat.le_of_lt (Ig.grp_lt b)))) lb;have B51:=Br.new (.cells #[.int .i64 d] 3);have hcell1:=B51.cell 0 rfl;have hP:Src Tryz.prog 1 127 (.slice A5 (Ig.grp (y % b)).length c5) (Ig.grp (y % b)).length ((Ig.grp (y % b)).flatMap intC) (W.alloc (.cells #[.int .i64 d] 3)):=At.src (f:=intC) (size:=1) (e:=3) (fun _=>rfl) (fun c u hu=>by simp[intC]at hu;subst hu;rfl) Tryz.underlying127 (hA5.below (bNewW W _)) c5
  gi_wp2_with (gi_at_builtin;refine wpListIn_of _ _ _ (by kernel_rfl) ?_;refine wpList_append_nums rfl (.tmp 18) (.tmp 19) rfl W.heap.size 1 1 (Ig.grp (y % b)).length [.int .i64 d] ((Ig.grp (y % b)).flatMap intC) _ _ rfl rfl ⟨W.heap.size,_,rfl,Nat.le_refl _,Nat.le_refl _,Bx.mk _ _ _,rfl,rfl⟩ (by rw[alloc_size];omega) hP (by decide) (by omega) ?_;intro v' w' cap' e1 e2 e3 e4)
  have hb7:=(bNewW W (.cells #[.int .i64 d] 3)).trans ((e2 trivial).mono (by rw[alloc_size];omega));have hlen:1+(Ig.grp (y % b)).length=((d:Int) :: Ig.grp (y % b)).length:=by rw[List.length_cons];omega
  have hfl:[Value.int .i64 d]++(Ig.grp (y % b)).flatMap intC=((d:Int) :: Ig.grp (y % b)).flatMap intC:=rfl;rw [hlen,hfl]at e3;obtain ⟨g6,hv6,hg6⟩:∃g6,v'=.slice (some ⟨g6,0,none⟩) ((d:Int) :: Ig.grp (y % b)).length cap'/\W.heap.size<=g6:=by obtain⟨g7,_,h,h7,_⟩:=e3;exact⟨g7,h,h7⟩
  obtain⟨A6,hv6',hA6,hcap6⟩:=RowC.at (f:=intC) (size:=1) (fun _=>rfl) e3;obtain rfl:A6=some ⟨g6,0,none⟩:=by rw[hv6]at hv6';simp only[Value.slice.injEq]at hv6';exact hv6'.1.symm
  subst hv6;clear hv6';have hT:=trimmed_any ((d:Int) :: Ig.grp (y % b)) (some ⟨g6,0,none⟩) cap' w' hA6 hcap6 (by rw[←hlen];omega);have Br7:=Br.call hb7;have hce7:=Br7.cell 0 rfl;have hfr7:=Br7.frozen 0;clear hlen hfl hP hcell1 B51 e1 e2;have hN6:NumAt w' (d+10000*(y % b)) (.slice (some ⟨g6,0,none⟩) (Ig.trimG ((d:Int) :: Ig.grp (y % b))).length cap'):=num_of hA6 hcap6 e4 ⟨trim_step hd9⟩;generalize (Ig.trimG ((d:Int) :: Ig.grp (y % b))).length=n6 at *
  go_wp2_with (go_at_call 138;refine hT.mono ?_;rintro e w9 ⟨rfl,rfl⟩)
  have hb8:=bSet (bCall hb hb7) (p:=⟨w.heap.size+1+1,0,none⟩) (by show w.heap.size<=w.heap.size+1+1;omega) (.slice (some ⟨g6,0,none⟩) n6 cap');have B38:=(B3.call hb7).far (p:=⟨w.heap.size+1+1,0,none⟩) (by simp;omega) (.slice (some ⟨g6,0,none⟩) n6 cap');have Bq8:=(Bq.call hb7).far (p:=⟨w.heap.size+1+1,0,none⟩) (by simp) (.slice (some ⟨g6,0,none⟩) n6 cap');have Bc8:=(Bc.call hb7).far (p:=⟨w.heap.size+1+1,0,none⟩) (by simp) (.slice (some ⟨g6,0,none⟩) n6 cap');have Br8:Bx (w'.setCell ⟨w.heap.size+1+1,0,none⟩ (.slice (some ⟨g6,0,none⟩) n6 cap')) (w.heap.size+1+1) 127 #[.slice (some ⟨g6,0,none⟩) n6 cap']:=Br7.set 0 _;have hN8:=num_set Br7 hN6 (.slice (some ⟨g6,0,none⟩) n6 cap');have hkf8:=(keeps_below hb7 W0.heap.size).trans ((KeepsOthers.setCell w' ⟨w.heap.size+1+1,0,none⟩ (.slice (some ⟨g6,0,none⟩) n6 cap')).from W0.heap.size);have hkp8:KpB w.heap.size (w.heap.size+1+1+1+1) W (w'.setCell ⟨w.heap.size+1+1,0,none⟩ (.slice (some ⟨g6,0,none⟩) n6 cap')):=KpB.trans ⟨hb7.mono (by omega),hb7.block _ (by omega)⟩ ⟨(Below.refl _ _).setCell (by show w.heap.size<=w.heap.size+1+1;omega) _,Below.heap_setCell _ _ _ _ (by simp;omega)⟩;clear hT hce7 hfr7 Br7 hb7 hN6 hA6 hcap6 e3 e4;generalize w'.setCell ⟨w.heap.size+1+1,0,none⟩ (.slice (some ⟨g6,0,none⟩) n6 cap')=W8 at *;have hst:=Ig.div_step (R:=y) hb0 hd9;have hsn2:Kp (hor (Ig.grp a) (pre++[x]) / b % 10000=(d+10000*(y % b)) / b):=⟨by rw[hsn.out,show y*10000+d=d+10000*y by omega,hst.2.1,Nat.add_mul_mod_self_left,Nat.mod_eq_of_lt hst.1]⟩
  have hsn3:Kp (hor (Ig.grp a) (pre++[x]) % b=(d+10000*(y % b))-b*((d+10000*(y % b)) / b)):=⟨by rw[hsn.out,show y*10000+d=d+10000*y by omega,hst.2.2];exact Nat.mod_eq_sub_mul_div⟩
  have hqle:b*((d+10000*(y % b)) / b)<=d+10000*(y % b):=Nat.mul_div_le _ _;have hq9:(d+10000*(y % b)) / b<=9999:=by have:=hst.1;omega
  have hRl:(Ig.grp (d+10000*(y % b))).length<=15000+1:=grp_step_len hd9 hyl;have hdf:=fun e=>Ig.div_found (R:=d+10000*(y % b)) (d:=e) hb0
  clear hst hsn hyl;generalize d+10000*(y % b)=R at *;generalize R / b=q at *;have hbN:NumAt W8 b (.slice A2 (Ig.grp b).length c2):=⟨A2,c2,rfl,(hA2.below hb8).more hb8.size,hn2,hm2⟩
  have hs8:w.heap.size+1+1+1+1<W8.heap.size:=Nat.lt_of_lt_of_le (by omega) hkp8.1.size;obtain ⟨W9,hW9⟩:∃W9,W9=W8.alloc (.cells #[.func (.func 139) #[.slice A2 (Ig.grp b).length c2] #[]] 160):=⟨_,rfl⟩
  have hbn:=bNewW W8 (.cells #[.func (.func 139) #[.slice A2 (Ig.grp b).length c2] #[]] 160);have B89:=Bx.mk W8 160 #[.func (.func 139) #[.slice A2 (Ig.grp b).length c2] #[]];rw [←hW9]at hbn B89;have k3:=B38.cell 0 rfl
  gi_wp2
  rw[←hW9];have hb9:=bCall hb8 hbn;have hkf9:=hkf8.trans (keeps_below hbn W0.heap.size);have hkp9:KpB w.heap.size (w.heap.size+1+1+1+1) W W9:=KpB.trans hkp8 ⟨hbn.mono (by omega),hbn.block _ hs8⟩;replace B38:=B38.call hbn;replace Bq8:=Bq8.call hbn;replace Br8:=Br8.call hbn;replace Bc8:=Bc8.call hbn;replace hN8:=hN8.call hbn;replace hbN:=hbN.call hbn;have h98:W8.heap.size<W9.heap.size:=by rw[hW9,alloc_size];omega
  clear hb8 hkf8 hkp8 k3 hbn hW9;generalize W8.heap.size=g8 at *;have hl3:∀e,e<10000->(Ig.grp (b*(e+1))).length<=90000:=fun e he=>Nat.le_trans (grp_mul_len (n:=2) lb (Nat.lt_of_lt_of_le (show e+1<10002 by omega) (by decide))) (by omega)
  have hf:=fun (W':World) (e:Nat) (hW:Below W9.heap.size W9 W') (he:e<9999)=>over1_any b R e (.slice A2 (Ig.grp b).length c2) (.slice (some ⟨g6,0,none⟩) n6 cap') g8 (w.heap.size+1+1) W' (B89.call hW) (Br8.call hW) (hbN.call hW) (hN8.call hW) (by omega) (by omega) (by omega) (hl3 e (by omega))
  have hdq:∀e,decide (R<b*(e+1))=decide (q<=e):=fun e=>by
   have:=hdf e
   rcases Nat.lt_or_ge e q with h|h
   · rw[decide_eq_false (by omega),decide_eq_false (by omega)]
   · rw[decide_eq_true (by omega),decide_eq_true (by omega)]
  simp only[hdq]at hf;clear hl3 hdf hdq;obtain ⟨v6,hv6⟩:∃v6,v6=Value.slice (some ⟨g6,0,none⟩) n6 cap':=⟨_,rfl⟩
  have hx20:x.1<(qCells (Ig.grp a) b pre).size:=by simp[qCells]
  have hxn:=x.2;have cq:=fun w1 (hb1:Below W9.heap.size W9 w1)=>(hb1.cell (p:=⟨w.heap.size+1,0,none⟩) Bq8.lt).trans (Bq8.cell 0 rfl)
  refine wpIn_region_rgl [Eqv (.slice (some ⟨w.heap.size+1+1+1,0,none⟩) (Ig.grp a).length (Ig.grp a).length),Eqv (.int .i64 (x.1:Int)),Eqv (.func (.func 140) #[] #[.pointer (some ⟨g8,0,none⟩),.pointer (some ⟨w.heap.size+1+1,0,none⟩)]),Eqv (.int .i64 (q:Int)),Eqv (.pointer (some ⟨w.heap.size+1+1+1,x.1,none⟩))] 5 41 (by kernel_rfl) (by kernel_rfl) rfl rfl (by kernel_rfl) ?_ ?_ ?_
  · simp only[AllS];exact ⟨stab_eqv _,stab_eqv _,stab_eqv _,stab_eqv _,stab_eqv _,trivial⟩
  · simp only[Users,List.take,List.length];refine ⟨?_,?_,?_,?_,?_,trivial⟩;all_goals (intro vs w1 hb1 hd;have c3:=cq w1 hb1;clear cq;simp only[putD,Act.put,List.nil_append,List.cons_append,List.setIfInBounds_toArray,List.set_cons_succ,List.set_cons_zero,Nat.reduceAdd])
    · clear hd hf;go_wp2;exact⟨Below.refl _ _,rfl⟩
    · clear hd hf;go_wp2;exact⟨Below.refl _ _,rfl⟩
    · clear hd hf;go_wp2;exact⟨Below.refl _ _,rfl⟩
    · have h2:vs 2=.func (.func 140) #[] #[.pointer (some ⟨g8,0,none⟩),.pointer (some ⟨w.heap.size+1+1,0,none⟩)]:=hd 2 rfl;have hC:=search_any q g8 (w.heap.size+1+1) w1 hq9 (fun W' e hW he=>hf W' e (bCall hb1 hW) he);clear hd hf;rw [h2];go_wp2_with fail;refine hC.mono ?_;clear hC;rintro _ w9 ⟨rfl,hb9⟩;go_wp2;rfl
    · have h0:vs 0=.slice (some ⟨w.heap.size+1+1+1,0,none⟩) (Ig.grp a).length (Ig.grp a).length:=hd 0 rfl;have h1:vs 1=.int .i64 (x.1:Int):=hd 1 rfl;clear hd hf;rw [h0,h1];go_wp2;exact ⟨Below.refl _ _,rfl⟩
  · clear cq hf;intro vs wa hba hR;simp only[AllR,Eqv]at hR;obtain ⟨-,-,-,e3,e4,-⟩:=hR;simp only[List.drop,List.take,List.map,putD,Act.put,List.setIfInBounds_toArray,List.set_cons_succ,List.set_cons_zero,Nat.reduceAdd];rw [e3,e4];generalize vs 0=z0,vs 1=z1,vs 2=z2;clear e3 e4;replace B38:=B38.call hba;replace Bq8:=Bq8.call hba;replace Br8:=Br8.call hba;replace Bc8:=Bc8.call hba;replace B89:=B89.call hba;replace hN8:=hN8.call hba;replace hbN:=hbN.call hba;replace hb9:=bCall hb9 hba;replace hkf9:=hkf9.trans (keeps_below hba W0.heap.size);replace hkp9:KpB w.heap.size (w.heap.size+1+1+1+1) W wa:=hkp9.trans ⟨hba.mono (by have:=hb9.size;omega),hba.block _ (by omega)⟩;have hce:=Bc8.cell x.1 (Array.getElem?_eq_getElem hx20);have hfr:=Bc8.frozen x.1;go_wp2;have hb10:=bSet hb9 (p:=⟨w.heap.size+1+1+1,x.1,none⟩) (by show w.heap.size<=w.heap.size+1+1+1;omega) (.int .i64 (q:Int));have hkf10:=hkf9.trans ((KeepsOthers.setCell wa ⟨w.heap.size+1+1+1,x.1,none⟩ (.int .i64 (q:Int))).from W0.heap.size);have hkp10:KpB w.heap.size (w.heap.size+1+1+1+1) W (wa.setCell ⟨w.heap.size+1+1+1,x.1,none⟩ (.int .i64 (q:Int))):=hkp9.trans ⟨(Below.refl _ _).setCell (by show w.heap.size<=w.heap.size+1+1+1;omega) _,Below.heap_setCell _ _ _ _ (by simp)⟩;have h810:g8<(wa.setCell ⟨w.heap.size+1+1+1,x.1,none⟩ (.int .i64 (q:Int))).heap.size:=Nat.lt_of_lt_of_le (Nat.lt_of_lt_of_le h98 hba.size) (KeepsOthers.setCell wa _ _).size;replace B38:=B38.far (p:=⟨w.heap.size+1+1+1,x.1,none⟩) (by simp;omega) (.int .i64 (q:Int));replace Bq8:=Bq8.far (p:=⟨w.heap.size+1+1+1,x.1,none⟩) (by simp) (.int .i64 (q:Int));replace Br8:=Br8.far (p:=⟨w.heap.size+1+1+1,x.1,none⟩) (by simp) (.int .i64 (q:Int));replace B89:=B89.far (p:=⟨w.heap.size+1+1+1,x.1,none⟩) (by simp;omega) (.int .i64 (q:Int));replace Bc8:=Bc8.set x.1 (.int .i64 (q:Int));replace hN8:=num_far (g:=w.heap.size+1+1+1) (o:=x.1) hN8 (by omega) (.int .i64 (q:Int));have hbN2:NumAt (wa.setCell ⟨w.heap.size+1+1+1,x.1,none⟩ (.int .i64 (q:Int))) b (.slice A2 (Ig.grp b).length c2):=⟨A2,c2,rfl,(hA2.below hb10).more hb10.size,hn2,hm2⟩
    have hcx:=Bc8.cell x.1 (v:=.int .i64 (q:Int)) (by rw[Array.getElem?_setIfInBounds_self_of_lt hx20]);rw [←hsn2.out,qCells_set]at Bc8;clear hbN hb9 hkf9 hkp9 hce hfr hba;rw [hsn2.out]at Bc8;generalize wa.setCell ⟨w.heap.size+1+1+1,x.1,none⟩ (.int .i64 (q:Int))=W10 at *
    gi_wp2
    have hbl:(Ig.grp (b*q)).length<=15000+1:=Nat.le_trans (grp_le hqle) hRl;have cq:=fun w1 (hb1:Below W10.heap.size W10 w1)=>(hb1.cell (p:=⟨w.heap.size+1,0,none⟩) Bq8.lt).trans (Bq8.cell 0 rfl)
    have cr:=fun w1 (hb1:Below W10.heap.size W10 w1)=>(hb1.cell (p:=⟨w.heap.size+1+1,0,none⟩) Br8.lt).trans (Br8.cell 0 rfl)
    have c9:=fun w1 (hb1:Below W10.heap.size W10 w1)=>(hb1.cell (p:=⟨g8,0,none⟩) B89.lt).trans (B89.cell 0 rfl)
    have cx:=fun w1 (hb1:Below W10.heap.size W10 w1)=>(hb1.cell (p:=⟨w.heap.size+1+1+1,x.1,none⟩) Bc8.lt).trans hcx
    refine wpIn_region_rgl [Eqv (.slice (some ⟨g6,0,none⟩) n6 cap'),Eqv (.func (.func 139) #[.slice A2 (Ig.grp b).length c2] #[]),Eqv (.slice (some ⟨w.heap.size+1+1+1,0,none⟩) (Ig.grp a).length (Ig.grp a).length),Eqv (.int .i64 (x.1:Int)),Eqv (.pointer (some ⟨w.heap.size+1+1+1,x.1,none⟩)),Eqv (.int .i64 (q:Int)),(fun v W=>NumAt W (b*q) v),(fun v W=>NumAt W (R-b*q) v)] 8 41 (by kernel_rfl) (by kernel_rfl) rfl rfl (by kernel_rfl) ?_ ?_ ?_
    · simp only[AllS];exact ⟨stab_eqv _,stab_eqv _,stab_eqv _,stab_eqv _,stab_eqv _,stab_eqv _,fun v w w' h hb=>h.call hb,fun v w w' h hb=>h.call hb,trivial⟩
    · simp only[Users,List.take,List.length];refine ⟨?_,?_,?_,?_,?_,?_,?_,?_,trivial⟩;all_goals (intro vs w1 hb1 hd;have c2':=cq w1 hb1;have c3':=cr w1 hb1;have c4':=c9 w1 hb1;have c5':=cx w1 hb1;have hN2:=hbN2.call hb1;have hN6:=hN8.call hb1;clear cq cr c9 cx;simp only[putD,Act.put,List.nil_append,List.cons_append,List.setIfInBounds_toArray,List.set_cons_succ,List.set_cons_zero,Nat.reduceAdd])
      · clear hd;go_wp2;exact⟨Below.refl _ _,rfl⟩
      · clear hd;go_wp2;exact⟨Below.refl _ _,rfl⟩
      · clear hd;go_wp2;exact⟨Below.refl _ _,rfl⟩
      · clear hd;go_wp2;exact⟨Below.refl _ _,rfl⟩
      · have h2:vs 2=.slice (some ⟨w.heap.size+1+1+1,0,none⟩) (Ig.grp a).length (Ig.grp a).length:=hd 2 rfl;have h3:vs 3=.int .i64 (x.1:Int):=hd 3 rfl;clear hd;rw [h2,h3];go_wp2;exact ⟨Below.refl _ _,rfl⟩
      · have h4:vs 4=.pointer (some ⟨w.heap.size+1+1+1,x.1,none⟩):=hd 4 rfl;clear hd;rw [h4];go_wp2;exact ⟨Below.refl _ _,rfl⟩
      · have h1':vs 1=.func (.func 139) #[.slice A2 (Ig.grp b).length c2] #[]:=hd 1 rfl;have h5:vs 5=.int .i64 (q:Int):=hd 5 rfl;clear hd;rw [h1',h5];have hC:=by_any b q _ _ hN2 (by omega) (by omega);go_wp2_with fail;refine hC.mono ?_;clear hC;rintro _ w9 ⟨v9,rfl,hn9,hb9⟩;go_wp2;exact hn9
      · have h0:vs 0=.slice (some ⟨g6,0,none⟩) n6 cap':=hd 0 rfl;have h6:NumAt w1 (b*q) (vs 6):=hd 6 rfl;clear hd;rw [h0];have hC:=minus_any R (b*q) _ (vs 6) w1 hN6 h6 hqle (by omega);go_wp2_with fail;refine hC.mono ?_;clear hC;rintro _ w9 ⟨v9,rfl,hn9,hb9⟩;go_wp2;exact hn9
    · clear cq cr c9 cx;intro vs wb hbb hR;simp only[AllR,Eqv]at hR;obtain ⟨-,-,-,-,-,-,-,e7,-⟩:=hR;simp only[List.drop,List.take,List.map,putD,Act.put,List.setIfInBounds_toArray,List.set_cons_succ,List.set_cons_zero,Nat.reduceAdd];replace B38:=B38.call hbb;replace Bq8:=Bq8.call hbb;replace Br8:=Br8.call hbb;replace Bc8:=Bc8.call hbb;have hb11:=bCall hb10 hbb;have hkf11:=hkf10.trans (keeps_below hbb W0.heap.size);have hkp11:KpB w.heap.size (w.heap.size+1+1+1+1) W wb:=hkp10.trans ⟨hbb.mono (by have:=hb10.size;omega),hbb.block _ (by omega)⟩;generalize vs 7=z7 at *;generalize vs 0=z0,vs 1=z1,vs 2=z2,vs 3=z3,vs 4=z4,vs 5=z5,vs 6=z6;obtain ⟨A9,c9,rfl,hA9,hn9',hm9⟩:=e7.out;have hce:=Br8.cell 0 rfl;have hfr:=Br8.frozen 0;clear hA9 hn9' hm9 hN8 hbN2 hcx;generalize (Ig.grp (R-b*q)).length=n9 at *;go_wp2;refine ⟨hkf11.trans ((KeepsOthers.setCell _ _ _).from _),hkp11.trans ⟨(Below.refl _ _).setCell (by show w.heap.size<=w.heap.size+1+1;omega) _,Below.heap_setCell _ _ _ _ (by simp;omega)⟩,bSet hb11 (by show w.heap.size<=w.heap.size+1+1;omega) _,Nat.le_trans hle (Nat.le_trans hkp11.1.size (KeepsOthers.setCell _ _ _).size),B38.far (by simp;omega) _,Bq8.far (by simp) _,⟨_,Br8.set 0 _,?_⟩,Bc8.far (by simp) _⟩;rw [hsn3.out];exact num_set Br8 e7 _
 case done =>
  rintro D ys W hD rfl ⟨hb,hle,B3,Bq,⟨v,Br,hNr⟩,Bc⟩ hK;rw [hor_all]at hNr;have hdl:=digs_len (Ig.grp a) b (allDown (Ig.grp a).length);have hda:=fun w1 (hb1:Below W.heap.size W w1)=>qCells_at (Bc.call hb1)
  have hdt:=digs_trim a hb0;have cq:=fun w1 (hb1:Below W.heap.size W w1)=>(hb1.cell (p:=⟨w.heap.size+1,0,none⟩) Bq.lt).trans (Bq.cell 0 rfl)
  have cr:=fun w1 (hb1:Below W.heap.size W w1)=>(hb1.cell (p:=⟨w.heap.size+1+1,0,none⟩) Br.lt).trans (Br.cell 0 rfl)
  generalize digs (Ig.grp a) b (allDown (Ig.grp a).length)=ds at *;obtain ⟨A5,c5,rfl,hA5,hn5,hm5⟩:=hNr.out
  gi_wp2
  refine wpIn_wide.2 ?_;have hT:=fun w1 (hb1:Below W.heap.size W w1)=>trimmed_any ds (some ⟨w.heap.size+1+1+1,0,none⟩) (Ig.grp a).length w1 (hda w1 hb1) (by rw[hdl];omega) (by rw[hdl];omega)
  rw[hdl]at hT;have hNq:NumAt W (a / b) (.slice (some ⟨w.heap.size+1+1+1,0,none⟩) (Ig.trimG ds).length (Ig.grp a).length):=num_of (hda W (Below.refl _ _)) (by rw[hdl];omega) (by unfold maxLen;omega) ⟨hdt⟩;clear hdt hda hdl cq cr;generalize (Ig.trimG ds).length=n6 at *;generalize (Ig.grp (a % b)).length=n7 at *;have hq0:=Bq.cell 0 rfl;have hr0:=Br.cell 0 rfl;have hqf:=Bq.frozen 0;have hrf:=Br.frozen 0;have Bq2:=Bq.set 0 (.slice (some ⟨w.heap.size+1+1+1,0,none⟩) n6 (Ig.grp a).length);have Br2:=Br.far (p:=⟨w.heap.size+1,0,none⟩) (by simp) (.slice (some ⟨w.heap.size+1+1+1,0,none⟩) n6 (Ig.grp a).length);have hNq2:=num_set Bq hNq (.slice (some ⟨w.heap.size+1+1+1,0,none⟩) n6 (Ig.grp a).length);have hNr2:=num_set Bq hNr (.slice (some ⟨w.heap.size+1+1+1,0,none⟩) n6 (Ig.grp a).length);have hb2:=bSet hb (p:=⟨w.heap.size+1,0,none⟩) (by show w.heap.size<=w.heap.size+1;omega) (.slice (some ⟨w.heap.size+1+1+1,0,none⟩) n6 (Ig.grp a).length);have Bq3:=Bq2.far (p:=⟨w.heap.size+1+1,0,none⟩) (by simp) (.slice A5 n7 c5);have Br3:=Br2.set 0 (.slice A5 n7 c5);have hNq3:=num_set Br2 hNq2 (.slice A5 n7 c5);have hNr3:=num_set Br2 hNr2 (.slice A5 n7 c5);have hb3:=bSet hb2 (p:=⟨w.heap.size+1+1,0,none⟩) (by show w.heap.size<=w.heap.size+1+1;omega) (.slice A5 n7 c5);have hr4:=Br2.cell 0 rfl;have hrf4:=Br2.frozen 0;have hK1:=(Below.heap_setCell W ⟨w.heap.size+1,0,none⟩ (.slice (some ⟨w.heap.size+1+1+1,0,none⟩) n6 (Ig.grp a).length) D (by show D≠w.heap.size+1;omega)).trans hK;have hK2:=(Below.heap_setCell (W.setCell ⟨w.heap.size+1,0,none⟩ (.slice (some ⟨w.heap.size+1+1+1,0,none⟩) n6 (Ig.grp a).length)) ⟨w.heap.size+1+1,0,none⟩ (.slice A5 n7 c5) D (by show D≠w.heap.size+1+1;omega)).trans hK1;clear hb hle B3 Bq Br hNr Bc hNq hb2 hNq2 hNr2 Bq2 Br2 hA5 hn5 hm5 hK1;have hdr:=(Below.refl ((W.setCell ⟨w.heap.size+1,0,none⟩ (.slice (some ⟨w.heap.size+1+1+1,0,none⟩) n6 (Ig.grp a).length)).setCell ⟨w.heap.size+1+1,0,none⟩ (.slice A5 n7 c5)).heap.size ((W.setCell ⟨w.heap.size+1,0,none⟩ (.slice (some ⟨w.heap.size+1+1+1,0,none⟩) n6 (Ig.grp a).length)).setCell ⟨w.heap.size+1+1,0,none⟩ (.slice A5 n7 c5))).drew;replace hNq3:=hNq3.call hdr;replace hNr3:=hNr3.call hdr;replace Bq3:=Bq3.call hdr;replace Br3:=Br3.call hdr;replace hb3:=bCall hb3 hdr;clear hdr;replace hK2:(((W.setCell ⟨w.heap.size+1,0,none⟩ (.slice (some ⟨w.heap.size+1+1+1,0,none⟩) n6 (Ig.grp a).length)).setCell ⟨w.heap.size+1+1,0,none⟩ (.slice A5 n7 c5)).drew).heap[D]? = some (.deferred (some [])):=hK2;have hT1:=hT W.drew ((Below.refl _ _).drew);clear hT
  go_region_with (refine hT1.mono ?_;rintro _ _ ⟨rfl,rfl⟩)
  all_goals (
   gi_wp2
   clear hT1 hq0 hr0 hqf hrf hr4 hrf4;generalize ((W.setCell ⟨w.heap.size+1,0,none⟩ (.slice (some ⟨w.heap.size+1+1+1,0,none⟩) n6 (Ig.grp a).length)).setCell ⟨w.heap.size+1+1,0,none⟩ (.slice A5 n7 c5)).drew=W5 at *;refine ⟨by simp,.inl ⟨_,_,rfl,run_takeDeferred hK2,?_⟩⟩;have hg:=grownBy_putObj' W5 D (.deferred none);have hr:∀r,some D=some r->∃o:Obj,W5.heap[r]? = some o/\o.isCells=false:=fun r e=>by cases e;exact⟨_,hK2,rfl⟩
   exact⟨_,results_cells2 rfl _ _ rfl rfl (bx_kept Bq3 hg hr) (bx_kept Br3 hg hr),_,_,rfl,num_kept hNq3 hg hr,num_kept hNr3 hg hr,hb3.trans (belowK_b (w:=w) (Nat.le_refl _) W5 D _ _ (by omega) hK2 rfl rfl)⟩)
 case stop =>
  rintro D c pre W _ _ h _;exact h.elim
end Go.Proofs.YtelljijajgiabaaGreatDoor
