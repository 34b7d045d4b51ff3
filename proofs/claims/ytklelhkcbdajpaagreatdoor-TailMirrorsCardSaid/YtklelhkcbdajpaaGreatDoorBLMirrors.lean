/- TailMirrors of package dialtonelaw35 returns true. -/
import Derived.Test.YtklelhkcbdajpaaGreatDoorQ15
import Derived.Test.YtklelhkcbdajpaaGreatDoorQ16
namespace Go.Proofs.YtklelhkcbdajpaaGreatDoor
set_option linter.unusedVariables false
set_option linter.unusedSimpArgs false
open Go.RowKit Go.Shelf
set_option maxRecDepth 100000 in
set_option maxHeartbeats 8000000 in
theorem tailMirrors_any (n k x y total marked drawn : Int) (w : World) (hn : I64 n) (hk : I64 k) (hx : I64 x) (hy : I64 y) (ht : I64 total) (hm : I64 marked) (hd : I64 drawn) (hE : Env w) :
    Calls Tryz.prog 5 #[.int .i64 n, .int .i64 k, .agg #[.int .i64 x, .int .i64 y], .int .i64 total, .int .i64 marked, .int .i64 drawn] w fun e w' => e = .returned (.bool true) ∧ Below w.heap.size w w' := by
  obtain ⟨N, -, hN, pN⟩ := lpick_m n (b := 21) (m := 21) rfl (by decide) hn
  obtain ⟨K, -, hK, pK⟩ := lpick_m k (b := (N : Int) + 2) (m := N + 2) (by omega) (by omega) hk
  obtain ⟨c, e, hc0, hce, he1, he0, -, hC⟩ := chance_k x y hx hy
  obtain ⟨T, -, hT, pT⟩ := lpick_m total (b := 41) (m := 41) rfl (by decide) ht
  obtain ⟨M, -, hM, pM⟩ := lpick_m marked (b := (T : Int) + 1) (m := T + 1) (by omega) (by omega) hm
  obtain ⟨D, -, hD, pD⟩ := lpick_m drawn (b := (T : Int) + 1) (m := T + 1) (by omega) (by omega) hd
  obtain ⟨K2, hK2⟩ : ∃ K2 : Nat, N + 1 - K = K2 := ⟨_, rfl⟩
  have aK2 : (N : Int) - (K : Int) + 1 = (K2 : Int) := by omega
  obtain ⟨L, hL⟩ : ∃ L : Nat, min K (D + 1) = L := ⟨_, rfl⟩
  have aL : min (K : Int) ((D : Int) + 1) = (L : Int) := by omega
  obtain ⟨L2, hL2⟩ : ∃ L2 : Nat, D + 1 - L = L2 := ⟨_, rfl⟩
  have aL2 : (D : Int) - (L : Int) + 1 = (L2 : Int) := by omega
  obtain ⟨M2, hM2⟩ : ∃ M2 : Nat, T - M = M2 := ⟨_, rfl⟩
  have aM2 : (T : Int) - (M : Int) = (M2 : Int) := by omega
  obtain ⟨m, hmm⟩ : ∃ m : Nat, min L (M + 1) = m := ⟨_, rfl⟩
  have am : min (L : Int) ((M : Int) + 1) = (m : Int) := by omega
  obtain ⟨aa, ab, la⟩ := LQ.ex (Tb.Pq N K c (e - c))
  obtain ⟨ba, bb, lb⟩ := LQ.ex (Tb.Pq N K2 (e - c) (e - (e - c)))
  obtain ⟨oa, ob, lo⟩ := LQ.ex 1
  obtain ⟨da, db, ld⟩ := LQ.ex (Tb.Hq T M D L)
  obtain ⟨fa, fb, lf⟩ := LQ.ex (Tb.Hq T M2 D L2)
  obtain ⟨pa, pb, lp⟩ := LQ.ex (Tb.Hq T D M m)
  have lr : LQ (Tb.Hq T M D m) pa pb := by rw [Tb.Hq_swap (by omega) (by omega) (by omega) (by omega)]; exact lp
  have s1 : Kp (Tb.Pq N K c (e - c) + Tb.Pq N K2 (e - c) (e - (e - c)) = 1) := ⟨by
    rw [show e - (e - c) = c by omega, ← hK2]
    exact Tb.Pq_mirror (by omega) (by omega)⟩
  have s2 : Kp (Tb.Hq T M D L + Tb.Hq T M2 D L2 = 1) := ⟨by
    rw [← hM2, ← hL2]
    exact Tb.Hq_mirror (by omega) (by omega) (by omega)⟩
  have z1 := Tb.Pq_qz (n := N) (c := c) (d := e - c) (by omega) (by omega) (by omega) (by omega) K
  have z2 := Tb.Pq_qz (n := N) (c := e - c) (d := e - (e - c)) (by omega) (by omega) (by omega) (by omega) K2
  have z3 := Tb.Hq_qz (t := T) (m := M) (d := D) (k := L) (by omega) (by omega) (by omega) (by omega)
  have z4 := Tb.Hq_qz (t := T) (m := M2) (d := D) (k := L2) (by omega) (by omega) (by omega) (by omega)
  clear hK2 hL hL2 hM2 hmm
  suffices hgen : ∀ w1 : World, SE w w1 → Calls Tryz.prog 5 #[.int .i64 n, .int .i64 k, .agg #[.int .i64 x, .int .i64 y], .int .i64 total, .int .i64 marked, .int .i64 drawn] w1 fun e w' => e = .returned (.bool true) ∧ Below w.heap.size w w' from hgen w ⟨bStart w, hE⟩
  clear hE
  intro w1 st
  go_enter Tryz.func5, Tryz.ntmps5
  go_upto_region 1 with fail
  have BX := Bx.mk w1 24 #[.int .i64 x, .int .i64 y]
  replace st := st.call (bNewW w1 (.cells #[.int .i64 x, .int .i64 y] 24))
  have lX := BX.lt
  generalize w1.alloc (.cells #[.int .i64 x, .int .i64 y] 24) = w2 at *
  generalize w1.heap.size = gX at *
  have cX0 := BX.cell 0 rfl
  have cX1 := BX.cell 1 rfl
  go_wp2_with fail
  refine (sane_any _ st.env).mono ?_
  rintro _ w3 ⟨rfl, hb1⟩
  replace st := st.call hb1
  replace BX := BX.call hb1
  clear hb1
  clear cX0 cX1
  go_wp2_with fail
  refine (pN _).mono ?_
  rintro _ _ ⟨rfl, rfl⟩
  go_wp2_with fail
  refine (pK _).mono ?_
  rintro _ _ ⟨rfl, rfl⟩
  have cX0 := BX.cell 0 rfl
  have cX1 := BX.cell 1 rfl
  go_wp2_with fail
  refine (hC _).mono ?_
  rintro _ w4 ⟨rfl, hb1⟩
  replace st := st.call hb1
  replace BX := BX.call hb1
  clear hb1
  clear cX0 cX1
  go_upto_region 7 with fail
  have dXC := BX.lt
  replace BX := BX.new (.cells #[.int .i64 c, .int .i64 e] 23)
  have BC := Bx.mk w4 23 #[.int .i64 c, .int .i64 e]
  replace st := st.call (bNewW w4 (.cells #[.int .i64 c, .int .i64 e] 23))
  have lC := BC.lt
  generalize w4.alloc (.cells #[.int .i64 c, .int .i64 e] 23) = w5 at *
  generalize w4.heap.size = gC at *
  have cC0 := BC.cell 0 rfl
  have cC1 := BC.cell 1 rfl
  go_wp2_with fail
  refine (Binomial_good N K c e _ _ _ (by omega) (by omega) (by omega) (by omega) (by omega) (by omega) la st.env).mono ?_
  rintro _ w6 ⟨rfl, hb1⟩
  replace st := st.call hb1
  replace BX := BX.call hb1
  replace BC := BC.call hb1
  clear hb1
  clear cC0 cC1
  go_upto_region 8 with fail
  have dXA := BX.lt
  have dCA := BC.lt
  replace BX := BX.new (.cells #[.string ⟨aa.toArray⟩, .string ⟨ab.toArray⟩] 33)
  replace BC := BC.new (.cells #[.string ⟨aa.toArray⟩, .string ⟨ab.toArray⟩] 33)
  have BA := Bx.mk w6 33 #[.string ⟨aa.toArray⟩, .string ⟨ab.toArray⟩]
  replace st := st.call (bNewW w6 (.cells #[.string ⟨aa.toArray⟩, .string ⟨ab.toArray⟩] 33))
  have lA := BA.lt
  generalize w6.alloc (.cells #[.string ⟨aa.toArray⟩, .string ⟨ab.toArray⟩] 33) = w7 at *
  generalize w6.heap.size = gA at *
  have cC0 := BC.cell 0 rfl
  have cC1 := BC.cell 1 rfl
  go_wp2_with fail
  refine (Binomial_good N K2 (e - c) e _ _ _ (by omega) (by omega) (by omega) (by omega) (by omega) (by omega) lb st.env).mono ?_
  rintro _ w8 ⟨rfl, hb1⟩
  replace st := st.call hb1
  replace BX := BX.call hb1
  replace BC := BC.call hb1
  replace BA := BA.call hb1
  clear hb1
  clear cC0 cC1
  go_upto_region 9 with fail
  have dXB := BX.lt
  have dCB := BC.lt
  have dAB := BA.lt
  replace BX := BX.new (.cells #[.string ⟨ba.toArray⟩, .string ⟨bb.toArray⟩] 33)
  replace BC := BC.new (.cells #[.string ⟨ba.toArray⟩, .string ⟨bb.toArray⟩] 33)
  replace BA := BA.new (.cells #[.string ⟨ba.toArray⟩, .string ⟨bb.toArray⟩] 33)
  have BB := Bx.mk w8 33 #[.string ⟨ba.toArray⟩, .string ⟨bb.toArray⟩]
  replace st := st.call (bNewW w8 (.cells #[.string ⟨ba.toArray⟩, .string ⟨bb.toArray⟩] 33))
  have lB := BB.lt
  generalize w8.alloc (.cells #[.string ⟨ba.toArray⟩, .string ⟨bb.toArray⟩] 33) = w9 at *
  generalize w8.heap.size = gB at *
  have cA0 := BA.cell 0 rfl
  have cA1 := BA.cell 1 rfl
  have cB0 := BB.cell 0 rfl
  have cB1 := BB.cell 1 rfl
  go_wp2_with fail
  refine (Add_k _ la lb lo z1 z2 (by omega) s1 st.env).mono ?_
  rintro _ w10 ⟨rfl, hb1⟩
  replace st := st.call hb1
  replace BX := BX.call hb1
  replace BC := BC.call hb1
  replace BA := BA.call hb1
  replace BB := BB.call hb1
  clear hb1
  clear cA0 cA1 cB0 cB1
  go_upto_region 10 with fail
  have dXS := BX.lt
  have dCS := BC.lt
  have dAS := BA.lt
  have dBS := BB.lt
  replace BX := BX.new (.cells #[.string ⟨oa.toArray⟩, .string ⟨ob.toArray⟩] 33)
  replace BC := BC.new (.cells #[.string ⟨oa.toArray⟩, .string ⟨ob.toArray⟩] 33)
  replace BA := BA.new (.cells #[.string ⟨oa.toArray⟩, .string ⟨ob.toArray⟩] 33)
  replace BB := BB.new (.cells #[.string ⟨oa.toArray⟩, .string ⟨ob.toArray⟩] 33)
  have BS := Bx.mk w10 33 #[.string ⟨oa.toArray⟩, .string ⟨ob.toArray⟩]
  replace st := st.call (bNewW w10 (.cells #[.string ⟨oa.toArray⟩, .string ⟨ob.toArray⟩] 33))
  have lS := BS.lt
  generalize w10.alloc (.cells #[.string ⟨oa.toArray⟩, .string ⟨ob.toArray⟩] 33) = w11 at *
  generalize w10.heap.size = gS at *
  go_wp2_with fail
  refine (pT _).mono ?_
  rintro _ _ ⟨rfl, rfl⟩
  go_wp2_with fail
  refine (pM _).mono ?_
  rintro _ _ ⟨rfl, rfl⟩
  go_wp2_with fail
  refine (pD _).mono ?_
  rintro _ _ ⟨rfl, rfl⟩
  go_wp2_with fail
  refine (Hyper_good T M D L _ _ _ (by omega) (by omega) (by omega) (by omega) ld st.env).mono ?_
  rintro _ w12 ⟨rfl, hb1⟩
  replace st := st.call hb1
  replace BX := BX.call hb1
  replace BC := BC.call hb1
  replace BA := BA.call hb1
  replace BB := BB.call hb1
  replace BS := BS.call hb1
  clear hb1
  go_upto_region 15 with fail
  have dXD := BX.lt
  have dCD := BC.lt
  have dAD := BA.lt
  have dBD := BB.lt
  have dSD := BS.lt
  replace BX := BX.new (.cells #[.string ⟨da.toArray⟩, .string ⟨db.toArray⟩] 33)
  replace BC := BC.new (.cells #[.string ⟨da.toArray⟩, .string ⟨db.toArray⟩] 33)
  replace BA := BA.new (.cells #[.string ⟨da.toArray⟩, .string ⟨db.toArray⟩] 33)
  replace BB := BB.new (.cells #[.string ⟨da.toArray⟩, .string ⟨db.toArray⟩] 33)
  replace BS := BS.new (.cells #[.string ⟨da.toArray⟩, .string ⟨db.toArray⟩] 33)
  have BD := Bx.mk w12 33 #[.string ⟨da.toArray⟩, .string ⟨db.toArray⟩]
  replace st := st.call (bNewW w12 (.cells #[.string ⟨da.toArray⟩, .string ⟨db.toArray⟩] 33))
  have lD := BD.lt
  generalize w12.alloc (.cells #[.string ⟨da.toArray⟩, .string ⟨db.toArray⟩] 33) = w13 at *
  generalize w12.heap.size = gD at *
  go_wp2_with fail
  refine (Hyper_good T M2 D L2 _ _ _ (by omega) (by omega) (by omega) (by omega) lf st.env).mono ?_
  rintro _ w14 ⟨rfl, hb1⟩
  replace st := st.call hb1
  replace BX := BX.call hb1
  replace BC := BC.call hb1
  replace BA := BA.call hb1
  replace BB := BB.call hb1
  replace BS := BS.call hb1
  replace BD := BD.call hb1
  clear hb1
  go_upto_region 16 with fail
  have dXF := BX.lt
  have dCF := BC.lt
  have dAF := BA.lt
  have dBF := BB.lt
  have dSF := BS.lt
  have dDF := BD.lt
  replace BX := BX.new (.cells #[.string ⟨fa.toArray⟩, .string ⟨fb.toArray⟩] 33)
  replace BC := BC.new (.cells #[.string ⟨fa.toArray⟩, .string ⟨fb.toArray⟩] 33)
  replace BA := BA.new (.cells #[.string ⟨fa.toArray⟩, .string ⟨fb.toArray⟩] 33)
  replace BB := BB.new (.cells #[.string ⟨fa.toArray⟩, .string ⟨fb.toArray⟩] 33)
  replace BS := BS.new (.cells #[.string ⟨fa.toArray⟩, .string ⟨fb.toArray⟩] 33)
  replace BD := BD.new (.cells #[.string ⟨fa.toArray⟩, .string ⟨fb.toArray⟩] 33)
  have BF := Bx.mk w14 33 #[.string ⟨fa.toArray⟩, .string ⟨fb.toArray⟩]
  replace st := st.call (bNewW w14 (.cells #[.string ⟨fa.toArray⟩, .string ⟨fb.toArray⟩] 33))
  have lF := BF.lt
  generalize w14.alloc (.cells #[.string ⟨fa.toArray⟩, .string ⟨fb.toArray⟩] 33) = w15 at *
  generalize w14.heap.size = gF at *
  have cD0 := BD.cell 0 rfl
  have cD1 := BD.cell 1 rfl
  have cF0 := BF.cell 0 rfl
  have cF1 := BF.cell 1 rfl
  go_wp2_with fail
  refine (Add_k _ ld lf lo z3 z4 (by omega) s2 st.env).mono ?_
  rintro _ w16 ⟨rfl, hb1⟩
  replace st := st.call hb1
  replace BX := BX.call hb1
  replace BC := BC.call hb1
  replace BA := BA.call hb1
  replace BB := BB.call hb1
  replace BS := BS.call hb1
  replace BD := BD.call hb1
  replace BF := BF.call hb1
  clear hb1
  clear cD0 cD1 cF0 cF1
  go_upto_region 17 with fail
  have dXU := BX.lt
  have dCU := BC.lt
  have dAU := BA.lt
  have dBU := BB.lt
  have dSU := BS.lt
  have dDU := BD.lt
  have dFU := BF.lt
  replace BX := BX.new (.cells #[.string ⟨oa.toArray⟩, .string ⟨ob.toArray⟩] 33)
  replace BC := BC.new (.cells #[.string ⟨oa.toArray⟩, .string ⟨ob.toArray⟩] 33)
  replace BA := BA.new (.cells #[.string ⟨oa.toArray⟩, .string ⟨ob.toArray⟩] 33)
  replace BB := BB.new (.cells #[.string ⟨oa.toArray⟩, .string ⟨ob.toArray⟩] 33)
  replace BS := BS.new (.cells #[.string ⟨oa.toArray⟩, .string ⟨ob.toArray⟩] 33)
  replace BD := BD.new (.cells #[.string ⟨oa.toArray⟩, .string ⟨ob.toArray⟩] 33)
  replace BF := BF.new (.cells #[.string ⟨oa.toArray⟩, .string ⟨ob.toArray⟩] 33)
  have BU := Bx.mk w16 33 #[.string ⟨oa.toArray⟩, .string ⟨ob.toArray⟩]
  replace st := st.call (bNewW w16 (.cells #[.string ⟨oa.toArray⟩, .string ⟨ob.toArray⟩] 33))
  have lU := BU.lt
  generalize w16.alloc (.cells #[.string ⟨oa.toArray⟩, .string ⟨ob.toArray⟩] 33) = w17 at *
  generalize w16.heap.size = gU at *
  have rS0 := fun d os => (BS.again d os).cell 0 rfl
  have rS1 := fun d os => (BS.again d os).cell 1 rfl
  have rU0 := fun d os => (BU.again d os).cell 0 rfl
  have rU1 := fun d os => (BU.again d os).cell 1 rfl
  have kq0 := fun d os => of_s (Sort.grow (redrawn w17 d) os) ⟨by omega, by omega⟩ ⟨by omega, by omega⟩ (by omega) one_is lo (st.env.below (below_regrown w17 d os))
  go_wp2_with fail
  refine wp_region_quiet_below (by kernel_rfl) (by kernel_rfl) ?_
  repeat (go_big_quiet_step (first
    | (go_at_call 28; with_reducible exact Calls.regrown_of (kq0 _ _))))
  refine wpQuiet_nil ?_
  rintro _ ⟨q, rfl⟩
  have hb1 := below_regrown w17 q.d q.os
  replace st := st.call hb1
  replace BX := BX.call hb1
  replace BC := BC.call hb1
  replace BA := BA.call hb1
  replace BB := BB.call hb1
  replace BS := BS.call hb1
  replace BD := BD.call hb1
  replace BF := BF.call hb1
  replace BU := BU.call hb1
  clear hb1 rS0 rS1 rU0 rU1 kq0 
  generalize Sort.grow (redrawn w17 q.d) q.os = w18 at *
  go_wp2_with fail
  refine (Hyper_good T D M m _ _ _ (by omega) (by omega) (by omega) (by omega) lp st.env).mono ?_
  rintro _ w19 ⟨rfl, hb1⟩
  replace st := st.call hb1
  replace BX := BX.call hb1
  replace BC := BC.call hb1
  replace BA := BA.call hb1
  replace BB := BB.call hb1
  replace BS := BS.call hb1
  replace BD := BD.call hb1
  replace BF := BF.call hb1
  replace BU := BU.call hb1
  clear hb1
  go_upto_region 21 with fail
  have dXP := BX.lt
  have dCP := BC.lt
  have dAP := BA.lt
  have dBP := BB.lt
  have dSP := BS.lt
  have dDP := BD.lt
  have dFP := BF.lt
  have dUP := BU.lt
  replace BX := BX.new (.cells #[.string ⟨pa.toArray⟩, .string ⟨pb.toArray⟩] 33)
  replace BC := BC.new (.cells #[.string ⟨pa.toArray⟩, .string ⟨pb.toArray⟩] 33)
  replace BA := BA.new (.cells #[.string ⟨pa.toArray⟩, .string ⟨pb.toArray⟩] 33)
  replace BB := BB.new (.cells #[.string ⟨pa.toArray⟩, .string ⟨pb.toArray⟩] 33)
  replace BS := BS.new (.cells #[.string ⟨pa.toArray⟩, .string ⟨pb.toArray⟩] 33)
  replace BD := BD.new (.cells #[.string ⟨pa.toArray⟩, .string ⟨pb.toArray⟩] 33)
  replace BF := BF.new (.cells #[.string ⟨pa.toArray⟩, .string ⟨pb.toArray⟩] 33)
  replace BU := BU.new (.cells #[.string ⟨pa.toArray⟩, .string ⟨pb.toArray⟩] 33)
  have BP := Bx.mk w19 33 #[.string ⟨pa.toArray⟩, .string ⟨pb.toArray⟩]
  replace st := st.call (bNewW w19 (.cells #[.string ⟨pa.toArray⟩, .string ⟨pb.toArray⟩] 33))
  have lP := BP.lt
  generalize w19.alloc (.cells #[.string ⟨pa.toArray⟩, .string ⟨pb.toArray⟩] 33) = w20 at *
  generalize w19.heap.size = gP at *
  go_wp2_with fail
  refine (Hyper_good T M D m _ _ _ (by omega) (by omega) (by omega) (by omega) lr st.env).mono ?_
  rintro _ w21 ⟨rfl, hb1⟩
  replace st := st.call hb1
  replace BX := BX.call hb1
  replace BC := BC.call hb1
  replace BA := BA.call hb1
  replace BB := BB.call hb1
  replace BS := BS.call hb1
  replace BD := BD.call hb1
  replace BF := BF.call hb1
  replace BU := BU.call hb1
  replace BP := BP.call hb1
  clear hb1
  go_upto_region 22 with fail
  have dXQ := BX.lt
  have dCQ := BC.lt
  have dAQ := BA.lt
  have dBQ := BB.lt
  have dSQ := BS.lt
  have dDQ := BD.lt
  have dFQ := BF.lt
  have dUQ := BU.lt
  have dPQ := BP.lt
  replace BX := BX.new (.cells #[.string ⟨pa.toArray⟩, .string ⟨pb.toArray⟩] 33)
  replace BC := BC.new (.cells #[.string ⟨pa.toArray⟩, .string ⟨pb.toArray⟩] 33)
  replace BA := BA.new (.cells #[.string ⟨pa.toArray⟩, .string ⟨pb.toArray⟩] 33)
  replace BB := BB.new (.cells #[.string ⟨pa.toArray⟩, .string ⟨pb.toArray⟩] 33)
  replace BS := BS.new (.cells #[.string ⟨pa.toArray⟩, .string ⟨pb.toArray⟩] 33)
  replace BD := BD.new (.cells #[.string ⟨pa.toArray⟩, .string ⟨pb.toArray⟩] 33)
  replace BF := BF.new (.cells #[.string ⟨pa.toArray⟩, .string ⟨pb.toArray⟩] 33)
  replace BU := BU.new (.cells #[.string ⟨pa.toArray⟩, .string ⟨pb.toArray⟩] 33)
  replace BP := BP.new (.cells #[.string ⟨pa.toArray⟩, .string ⟨pb.toArray⟩] 33)
  have BQ := Bx.mk w21 33 #[.string ⟨pa.toArray⟩, .string ⟨pb.toArray⟩]
  replace st := st.call (bNewW w21 (.cells #[.string ⟨pa.toArray⟩, .string ⟨pb.toArray⟩] 33))
  have lQ := BQ.lt
  generalize w21.alloc (.cells #[.string ⟨pa.toArray⟩, .string ⟨pb.toArray⟩] 33) = w22 at *
  generalize w21.heap.size = gQ at *
  have cP0 := BP.cell 0 rfl
  have cP1 := BP.cell 1 rfl
  have cQ0 := BQ.cell 0 rfl
  have cQ1 := BQ.cell 1 rfl
  go_wp2
  go_ret
  exact ⟨rfl, st.bl⟩
end Go.Proofs.YtklelhkcbdajpaaGreatDoor
