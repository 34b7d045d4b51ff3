/- sane of dialtonelaw35: the chapter's examples. Slices of the call's own that begin as nil. What dialtoneref35 makes of integers: a chance, times; its Count. Sums, differences, products and quotients of named fractions, as the laws of dialtonelaw35 call them. Arguments that are slices of plain data, opened into lists; arguments read behind the call as before. -/
import Derived.Test.YtklelhkcbdajpaaGreatDoorX15
import Derived.Test.YtklelhkcbdajpaaGreatDoorX01
import Derived.Test.YtklelhkcbdajpaaGreatDoorX00
import Derived.Deep.Slices
import Derived.ProofKit
import Derived.OpenShut
set_option linter.unusedVariables false
set_option linter.unusedSimpArgs false
set_option maxRecDepth 100000
set_option maxHeartbeats 8000000
namespace Go.Proofs.YtklelhkcbdajpaaGreatDoor
open Go.RowKit Go.Shelf
theorem sane_any  (w : World)  (hE : Env w) :
    Calls Tryz.prog 10 #[] w fun e w' => e = .returned (.bool true) ∧ Below w.heap.size w w' := by
  suffices hgen : ∀ w1 : World, SE w w1 → Calls Tryz.prog 10 #[] w1 fun e w' => e = .returned (.bool true) ∧ Below w.heap.size w w' from hgen w ⟨bStart w, hE⟩
  clear hE
  intro w1 st
  go_enter Tryz.func10, Tryz.ntmps10
  go_upto_region 2 with fail
  have BC := Bx.mk w1 23 #[.int .i64 1, .int .i64 10]
  replace st := st.call (bNewW w1 (.cells #[.int .i64 1, .int .i64 10] 23))
  have lC := BC.lt
  generalize w1.alloc (.cells #[.int .i64 1, .int .i64 10] 23) = w2 at *
  generalize w1.heap.size = gC at *
  go_upto_region 3 with fail
  have dCT := BC.lt
  replace BC := BC.new (.cells #[.int .i64 10, .int .i64 20, .int .i64 25, .int .i64 30, .int .i64 30] 3)
  have BT := Bx.mk w2 3 #[.int .i64 10, .int .i64 20, .int .i64 25, .int .i64 30, .int .i64 30]
  replace st := st.call (bNewW w2 (.cells #[.int .i64 10, .int .i64 20, .int .i64 25, .int .i64 30, .int .i64 30] 3))
  have lT := BT.lt
  generalize w2.alloc (.cells #[.int .i64 10, .int .i64 20, .int .i64 25, .int .i64 30, .int .i64 30] 3) = w3 at *
  generalize w2.heap.size = gT at *
  go_upto_region 4 with fail
  have dCR := BC.lt
  have dTR := BT.lt
  replace BC := BC.new (.cells #[.string ⟨#[51]⟩, .string ⟨#[52]⟩] 33)
  replace BT := BT.new (.cells #[.string ⟨#[51]⟩, .string ⟨#[52]⟩] 33)
  have BR := Bx.mk w3 33 #[.string ⟨#[51]⟩, .string ⟨#[52]⟩]
  replace st := st.call (bNewW w3 (.cells #[.string ⟨#[51]⟩, .string ⟨#[52]⟩] 33))
  have lR := BR.lt
  generalize w3.alloc (.cells #[.string ⟨#[51]⟩, .string ⟨#[52]⟩] 33) = w4 at *
  generalize w3.heap.size = gR at *
  have hT := at_five BT
  have cR0 := BR.cell 0 rfl
  have cR1 := BR.cell 1 rfl
  go_wp2_with fail
  refine (binomial_s 2 1 1 2 [51] [52] _ (by decide) (by decide) (by decide) (by decide) (by decide) (by decide) lq_p1 st.env).mono ?_
  rintro _ w5 ⟨rfl, hb1⟩
  replace st := st.call hb1
  replace BC := BC.call hb1
  replace BT := BT.call hb1
  replace BR := BR.call hb1
  replace hT := (hT.below hb1).more hb1.size
  clear hb1
  clear cR0 cR1
  go_wp2_with fail
  refine (binomial_s 3 3 1 10 [49] [49, 48, 48, 48] _ (by decide) (by decide) (by decide) (by decide) (by decide) (by decide) lq_p2 st.env).mono ?_
  rintro _ w6 ⟨rfl, hb1⟩
  replace st := st.call hb1
  replace BC := BC.call hb1
  replace BT := BT.call hb1
  replace BR := BR.call hb1
  replace hT := (hT.below hb1).more hb1.size
  clear hb1
  go_wp2_with fail
  refine (binomial_s 0 0 1 1 [49] [49] _ (by decide) (by decide) (by decide) (by decide) (by decide) (by decide) lq_p3 st.env).mono ?_
  rintro _ w7 ⟨rfl, hb1⟩
  replace st := st.call hb1
  replace BC := BC.call hb1
  replace BT := BT.call hb1
  replace BR := BR.call hb1
  replace hT := (hT.below hb1).more hb1.size
  clear hb1
  go_wp2_with fail
  refine (binomial_s 0 1 1 1 [48] [49] _ (by decide) (by decide) (by decide) (by decide) (by decide) (by decide) lq_p4 st.env).mono ?_
  rintro _ w8 ⟨rfl, hb1⟩
  replace st := st.call hb1
  replace BC := BC.call hb1
  replace BT := BT.call hb1
  replace BR := BR.call hb1
  replace hT := (hT.below hb1).more hb1.size
  clear hb1
  go_wp2_with fail
  refine (of_s (qa := [48]) (qb := [49]) _ ⟨by decide, by decide⟩ ⟨by decide, by decide⟩ (by decide) ⟨rfl⟩ lq_o1 st.env).mono ?_
  rintro _ w9 ⟨rfl, hb1⟩
  replace st := st.call hb1
  replace BC := BC.call hb1
  replace BT := BT.call hb1
  replace BR := BR.call hb1
  replace hT := (hT.below hb1).more hb1.size
  clear hb1
  go_wp2_with fail
  refine (binomial_s 3 1 0 5 [48] [49] _ (by decide) (by decide) (by decide) (by decide) (by decide) (by decide) lq_p5 st.env).mono ?_
  rintro _ w10 ⟨rfl, hb1⟩
  replace st := st.call hb1
  replace BC := BC.call hb1
  replace BT := BT.call hb1
  replace BR := BR.call hb1
  replace hT := (hT.below hb1).more hb1.size
  clear hb1
  go_wp2_with fail
  refine (of_s (qa := [49]) (qb := [49]) _ ⟨by decide, by decide⟩ ⟨by decide, by decide⟩ (by decide) ⟨rfl⟩ lq_o2 st.env).mono ?_
  rintro _ w11 ⟨rfl, hb1⟩
  replace st := st.call hb1
  replace BC := BC.call hb1
  replace BT := BT.call hb1
  replace BR := BR.call hb1
  replace hT := (hT.below hb1).more hb1.size
  clear hb1
  go_wp2_with fail
  refine (binomial_s 3 1 5 5 [49] [49] _ (by decide) (by decide) (by decide) (by decide) (by decide) (by decide) lq_p6 st.env).mono ?_
  rintro _ w12 ⟨rfl, hb1⟩
  replace st := st.call hb1
  replace BC := BC.call hb1
  replace BT := BT.call hb1
  replace BR := BR.call hb1
  replace hT := (hT.below hb1).more hb1.size
  clear hb1
  go_wp2_with fail
  refine (hyper_s 5 2 2 1 [55] [49, 48] _ (by decide) (by decide) (by decide) (by decide) lq_h1 st.env).mono ?_
  rintro _ w13 ⟨rfl, hb1⟩
  replace st := st.call hb1
  replace BC := BC.call hb1
  replace BT := BT.call hb1
  replace BR := BR.call hb1
  replace hT := (hT.below hb1).more hb1.size
  clear hb1
  go_wp2_with fail
  refine (of_s (qa := [49]) (qb := [49, 48]) _ ⟨by decide, by decide⟩ ⟨by decide, by decide⟩ (by decide) ⟨rfl⟩ lq_o3 st.env).mono ?_
  rintro _ w14 ⟨rfl, hb1⟩
  replace st := st.call hb1
  replace BC := BC.call hb1
  replace BT := BT.call hb1
  replace BR := BR.call hb1
  replace hT := (hT.below hb1).more hb1.size
  clear hb1
  go_wp2_with fail
  refine (hyper_s 5 2 2 2 [49] [49, 48] _ (by decide) (by decide) (by decide) (by decide) lq_h2 st.env).mono ?_
  rintro _ w15 ⟨rfl, hb1⟩
  replace st := st.call hb1
  replace BC := BC.call hb1
  replace BT := BT.call hb1
  replace BR := BR.call hb1
  replace hT := (hT.below hb1).more hb1.size
  clear hb1
  go_wp2_with fail
  refine (of_s (qa := [49]) (qb := [49]) _ ⟨by decide, by decide⟩ ⟨by decide, by decide⟩ (by decide) ⟨rfl⟩ lq_o2 st.env).mono ?_
  rintro _ w16 ⟨rfl, hb1⟩
  replace st := st.call hb1
  replace BC := BC.call hb1
  replace BT := BT.call hb1
  replace BR := BR.call hb1
  replace hT := (hT.below hb1).more hb1.size
  clear hb1
  go_wp2_with fail
  refine (hyper_s 5 2 4 1 [49] [49] _ (by decide) (by decide) (by decide) (by decide) lq_h3 st.env).mono ?_
  rintro _ w17 ⟨rfl, hb1⟩
  replace st := st.call hb1
  replace BC := BC.call hb1
  replace BT := BT.call hb1
  replace BR := BR.call hb1
  replace hT := (hT.below hb1).more hb1.size
  clear hb1
  have hT1 := hT
  have rC0 := fun d os => (BC.again d os).cell 0 rfl
  have rC1 := fun d os => (BC.again d os).cell 1 rfl
  have kq0 := fun d os => of_s (qa := [49]) (qb := [49, 48, 48]) (Sort.grow (redrawn w17 d) os) ⟨by decide, by decide⟩ ⟨by decide, by decide⟩ (by decide) ⟨rfl⟩ lq_o4 (st.env.below (below_regrown w17 d os))
  have kq1 := fun d os => Least_k (n := 3) (c := 1) (e := 10) (la := [49]) (lb := [49, 48, 48]) (k := 3) (Sort.grow (redrawn w17 d) os) (by decide) (by decide) (by decide) (by decide) (by decide) lq_o4 lqf_o4 (by decide +kernel) le_1 (st.env.below (below_regrown w17 d os))
  go_wp2_with fail
  refine wp_region_quiet_below (by kernel_rfl) (by kernel_rfl) ?_
  repeat (go_big_quiet_step (first
    | (go_at_call 28; with_reducible exact Calls.regrown_of (kq0 _ _))
    | (go_at_call 18; with_reducible exact Calls.regrown_of (kq1 _ _))))
  refine wpQuiet_nil ?_
  rintro _ ⟨q, rfl⟩
  have hb1 := below_regrown w17 q.d q.os
  replace st := st.call hb1
  replace hT := (hT.below hb1).more hb1.size
  replace BC := BC.call hb1
  replace BT := BT.call hb1
  replace BR := BR.call hb1
  clear hb1 kq0 kq1 rC0 rC1 hT1
  generalize Sort.grow (redrawn w17 q.d) q.os = w18 at *
  have hT1 := hT
  have rC0 := fun d os => (BC.again d os).cell 0 rfl
  have rC1 := fun d os => (BC.again d os).cell 1 rfl
  have kq0 := fun d os => of_s (qa := [48]) (qb := [49]) (Sort.grow (redrawn w18 d) os) ⟨by decide, by decide⟩ ⟨by decide, by decide⟩ (by decide) ⟨rfl⟩ lq_o1 (st.env.below (below_regrown w18 d os))
  have kq1 := fun d os => Least_k (n := 3) (c := 1) (e := 10) (la := [48]) (lb := [49]) (k := 4) (Sort.grow (redrawn w18 d) os) (by decide) (by decide) (by decide) (by decide) (by decide) lq_o1 lqf_o1 (by decide +kernel) le_2 (st.env.below (below_regrown w18 d os))
  go_wp2_with fail
  refine wp_region_quiet_below (by kernel_rfl) (by kernel_rfl) ?_
  repeat (go_big_quiet_step (first
    | (go_at_call 28; with_reducible exact Calls.regrown_of (kq0 _ _))
    | (go_at_call 18; with_reducible exact Calls.regrown_of (kq1 _ _))))
  refine wpQuiet_nil ?_
  rintro _ ⟨q, rfl⟩
  have hb1 := below_regrown w18 q.d q.os
  replace st := st.call hb1
  replace hT := (hT.below hb1).more hb1.size
  replace BC := BC.call hb1
  replace BT := BT.call hb1
  replace BR := BR.call hb1
  clear hb1 kq0 kq1 rC0 rC1 hT1
  generalize Sort.grow (redrawn w18 q.d) q.os = w19 at *
  go_wp2_with fail
  refine (of_s (qa := [49]) (qb := [50]) _ ⟨by decide, by decide⟩ ⟨by decide, by decide⟩ (by decide) ⟨rfl⟩ lq_o5 st.env).mono ?_
  rintro _ w20 ⟨rfl, hb1⟩
  replace st := st.call hb1
  replace BC := BC.call hb1
  replace BT := BT.call hb1
  replace BR := BR.call hb1
  replace hT := (hT.below hb1).more hb1.size
  clear hb1
  go_wp2_with fail
  refine (of_s (qa := [49]) (qb := [51]) _ ⟨by decide, by decide⟩ ⟨by decide, by decide⟩ (by decide) ⟨rfl⟩ lq_o6 st.env).mono ?_
  rintro _ w21 ⟨rfl, hb1⟩
  replace st := st.call hb1
  replace BC := BC.call hb1
  replace BT := BT.call hb1
  replace BR := BR.call hb1
  replace hT := (hT.below hb1).more hb1.size
  clear hb1
  have BL := Bx.mk w21 33 #[.string ⟨#[49]⟩, .string ⟨#[50]⟩, .string ⟨#[49]⟩, .string ⟨#[51]⟩]
  have hL := at_two_r BL
  have hCk := Combine_k 2 (A := some ⟨w21.heap.size, 0, none⟩) (cap := 2) (qs := qs_A) (r := r_A) (ra := [53]) (rb := [54]) _ rfl (by rw [tx_A]; exact hL) (by decide) (by decide) un_A cb_A lq_c1 (st.call (bNewW w21 (.cells #[.string ⟨#[49]⟩, .string ⟨#[50]⟩, .string ⟨#[49]⟩, .string ⟨#[51]⟩] 33))).env
  replace hT := (hT.below (bNewW w21 (.cells #[.string ⟨#[49]⟩, .string ⟨#[50]⟩, .string ⟨#[49]⟩, .string ⟨#[51]⟩] 33))).more (bNewW w21 (.cells #[.string ⟨#[49]⟩, .string ⟨#[50]⟩, .string ⟨#[49]⟩, .string ⟨#[51]⟩] 33)).size
  replace BC := BC.new (.cells #[.string ⟨#[49]⟩, .string ⟨#[50]⟩, .string ⟨#[49]⟩, .string ⟨#[51]⟩] 33)
  replace BT := BT.new (.cells #[.string ⟨#[49]⟩, .string ⟨#[50]⟩, .string ⟨#[49]⟩, .string ⟨#[51]⟩] 33)
  replace BR := BR.new (.cells #[.string ⟨#[49]⟩, .string ⟨#[50]⟩, .string ⟨#[49]⟩, .string ⟨#[51]⟩] 33)
  replace st := st.call (bNewW w21 (.cells #[.string ⟨#[49]⟩, .string ⟨#[50]⟩, .string ⟨#[49]⟩, .string ⟨#[51]⟩] 33))
  clear BL hL
  go_wp2_with fail
  refine hCk.mono ?_
  clear hCk
  rintro _ w22 ⟨rfl, hb1⟩
  replace st := st.call hb1
  replace hT := (hT.below hb1).more hb1.size
  replace BC := BC.call hb1
  replace BT := BT.call hb1
  replace BR := BR.call hb1
  clear hb1
  go_upto_region 9 with fail
  have hTn := (hT.below (bNewW w22 (.cells #[.string ⟨#[53]⟩, .string ⟨#[54]⟩] 33))).more (bNewW w22 (.cells #[.string ⟨#[53]⟩, .string ⟨#[54]⟩] 33)).size
  clear hT
  have hT := hTn
  clear hTn
  have dCA := BC.lt
  have dTA := BT.lt
  have dRA := BR.lt
  replace BC := BC.new (.cells #[.string ⟨#[53]⟩, .string ⟨#[54]⟩] 33)
  replace BT := BT.new (.cells #[.string ⟨#[53]⟩, .string ⟨#[54]⟩] 33)
  replace BR := BR.new (.cells #[.string ⟨#[53]⟩, .string ⟨#[54]⟩] 33)
  have BA := Bx.mk w22 33 #[.string ⟨#[53]⟩, .string ⟨#[54]⟩]
  replace st := st.call (bNewW w22 (.cells #[.string ⟨#[53]⟩, .string ⟨#[54]⟩] 33))
  have lA := BA.lt
  generalize w22.alloc (.cells #[.string ⟨#[53]⟩, .string ⟨#[54]⟩] 33) = w23 at *
  generalize w22.heap.size = gA at *
  go_wp2_with fail
  refine (of_s (qa := [49]) (qb := [50]) _ ⟨by decide, by decide⟩ ⟨by decide, by decide⟩ (by decide) ⟨rfl⟩ lq_o5 st.env).mono ?_
  rintro _ w24 ⟨rfl, hb1⟩
  replace st := st.call hb1
  replace BC := BC.call hb1
  replace BT := BT.call hb1
  replace BR := BR.call hb1
  replace BA := BA.call hb1
  replace hT := (hT.below hb1).more hb1.size
  clear hb1
  go_wp2_with fail
  refine (of_s (qa := [50]) (qb := [51]) _ ⟨by decide, by decide⟩ ⟨by decide, by decide⟩ (by decide) ⟨rfl⟩ lq_o7 st.env).mono ?_
  rintro _ w25 ⟨rfl, hb1⟩
  replace st := st.call hb1
  replace BC := BC.call hb1
  replace BT := BT.call hb1
  replace BR := BR.call hb1
  replace BA := BA.call hb1
  replace hT := (hT.below hb1).more hb1.size
  clear hb1
  have BL := Bx.mk w25 33 #[.string ⟨#[49]⟩, .string ⟨#[50]⟩, .string ⟨#[50]⟩, .string ⟨#[51]⟩]
  have hL := at_two_r BL
  have hCk := Combine_k 2 (A := some ⟨w25.heap.size, 0, none⟩) (cap := 2) (qs := qs_B) (r := r_B) (ra := [49]) (rb := [49]) _ rfl (by rw [tx_B]; exact hL) (by decide) (by decide) un_B cb_B lq_c2 (st.call (bNewW w25 (.cells #[.string ⟨#[49]⟩, .string ⟨#[50]⟩, .string ⟨#[50]⟩, .string ⟨#[51]⟩] 33))).env
  replace hT := (hT.below (bNewW w25 (.cells #[.string ⟨#[49]⟩, .string ⟨#[50]⟩, .string ⟨#[50]⟩, .string ⟨#[51]⟩] 33))).more (bNewW w25 (.cells #[.string ⟨#[49]⟩, .string ⟨#[50]⟩, .string ⟨#[50]⟩, .string ⟨#[51]⟩] 33)).size
  replace BC := BC.new (.cells #[.string ⟨#[49]⟩, .string ⟨#[50]⟩, .string ⟨#[50]⟩, .string ⟨#[51]⟩] 33)
  replace BT := BT.new (.cells #[.string ⟨#[49]⟩, .string ⟨#[50]⟩, .string ⟨#[50]⟩, .string ⟨#[51]⟩] 33)
  replace BR := BR.new (.cells #[.string ⟨#[49]⟩, .string ⟨#[50]⟩, .string ⟨#[50]⟩, .string ⟨#[51]⟩] 33)
  replace BA := BA.new (.cells #[.string ⟨#[49]⟩, .string ⟨#[50]⟩, .string ⟨#[50]⟩, .string ⟨#[51]⟩] 33)
  replace st := st.call (bNewW w25 (.cells #[.string ⟨#[49]⟩, .string ⟨#[50]⟩, .string ⟨#[50]⟩, .string ⟨#[51]⟩] 33))
  clear BL hL
  go_wp2_with fail
  refine hCk.mono ?_
  clear hCk
  rintro _ w26 ⟨rfl, hb1⟩
  replace st := st.call hb1
  replace hT := (hT.below hb1).more hb1.size
  replace BC := BC.call hb1
  replace BT := BT.call hb1
  replace BR := BR.call hb1
  replace BA := BA.call hb1
  clear hb1
  go_upto_region 10 with fail
  have hTn := (hT.below (bNewW w26 (.cells #[.string ⟨#[49]⟩, .string ⟨#[49]⟩] 33))).more (bNewW w26 (.cells #[.string ⟨#[49]⟩, .string ⟨#[49]⟩] 33)).size
  clear hT
  have hT := hTn
  clear hTn
  have dCB := BC.lt
  have dTB := BT.lt
  have dRB := BR.lt
  have dAB := BA.lt
  replace BC := BC.new (.cells #[.string ⟨#[49]⟩, .string ⟨#[49]⟩] 33)
  replace BT := BT.new (.cells #[.string ⟨#[49]⟩, .string ⟨#[49]⟩] 33)
  replace BR := BR.new (.cells #[.string ⟨#[49]⟩, .string ⟨#[49]⟩] 33)
  replace BA := BA.new (.cells #[.string ⟨#[49]⟩, .string ⟨#[49]⟩] 33)
  have BB := Bx.mk w26 33 #[.string ⟨#[49]⟩, .string ⟨#[49]⟩]
  replace st := st.call (bNewW w26 (.cells #[.string ⟨#[49]⟩, .string ⟨#[49]⟩] 33))
  have lB := BB.lt
  generalize w26.alloc (.cells #[.string ⟨#[49]⟩, .string ⟨#[49]⟩] 33) = w27 at *
  generalize w26.heap.size = gB at *
  have hCk := Combine_k 0 (A := none) (cap := 0) (qs := []) (r := 0) (ra := [48]) (rb := [49]) w27 rfl At.nil (by decide) (by decide) (fun q h => by cases h) ⟨rfl⟩ lq_c3 st.env
  go_wp2_with fail
  refine hCk.mono ?_
  clear hCk
  rintro _ w28 ⟨rfl, hb1⟩
  replace st := st.call hb1
  replace hT := (hT.below hb1).more hb1.size
  replace BC := BC.call hb1
  replace BT := BT.call hb1
  replace BR := BR.call hb1
  replace BA := BA.call hb1
  replace BB := BB.call hb1
  clear hb1
  go_upto_region 11 with fail
  have hTn := (hT.below (bNewW w28 (.cells #[.string ⟨#[48]⟩, .string ⟨#[49]⟩] 33))).more (bNewW w28 (.cells #[.string ⟨#[48]⟩, .string ⟨#[49]⟩] 33)).size
  clear hT
  have hT := hTn
  clear hTn
  have dCD := BC.lt
  have dTD := BT.lt
  have dRD := BR.lt
  have dAD := BA.lt
  have dBD := BB.lt
  replace BC := BC.new (.cells #[.string ⟨#[48]⟩, .string ⟨#[49]⟩] 33)
  replace BT := BT.new (.cells #[.string ⟨#[48]⟩, .string ⟨#[49]⟩] 33)
  replace BR := BR.new (.cells #[.string ⟨#[48]⟩, .string ⟨#[49]⟩] 33)
  replace BA := BA.new (.cells #[.string ⟨#[48]⟩, .string ⟨#[49]⟩] 33)
  replace BB := BB.new (.cells #[.string ⟨#[48]⟩, .string ⟨#[49]⟩] 33)
  have BD := Bx.mk w28 33 #[.string ⟨#[48]⟩, .string ⟨#[49]⟩]
  replace st := st.call (bNewW w28 (.cells #[.string ⟨#[48]⟩, .string ⟨#[49]⟩] 33))
  have lD := BD.lt
  generalize w28.alloc (.cells #[.string ⟨#[48]⟩, .string ⟨#[49]⟩] 33) = w29 at *
  generalize w28.heap.size = gD at *
  go_wp2_with fail
  refine (Scan_k _ hT (by decide) tms_5 (by decide) (by decide) bw_10).mono ?_
  rintro _ w30 ⟨rfl, hb1⟩
  replace st := st.call hb1
  replace BC := BC.call hb1
  replace BT := BT.call hb1
  replace BR := BR.call hb1
  replace BA := BA.call hb1
  replace BB := BB.call hb1
  replace BD := BD.call hb1
  replace hT := (hT.below hb1).more hb1.size
  clear hb1
  go_wp2_with fail
  refine (Scan_k _ hT (by decide) tms_5 (by decide) (by decide) bw_11).mono ?_
  rintro _ w31 ⟨rfl, hb1⟩
  replace st := st.call hb1
  replace BC := BC.call hb1
  replace BT := BT.call hb1
  replace BR := BR.call hb1
  replace BA := BA.call hb1
  replace BB := BB.call hb1
  replace BD := BD.call hb1
  replace hT := (hT.below hb1).more hb1.size
  clear hb1
  have cC0 := BC.cell 0 rfl
  have cC1 := BC.cell 1 rfl
  go_wp2_with fail
  refine (Burst_k (n := 5) (c := 1) (e := 10) (best := 4) (at_ := 20) (ra := [50, 51]) (rb := [49, 48, 48, 48, 48]) _ hT (by decide) tms_5 (by decide) (by decide) (by decide) (by decide) (by decide) (by decide) (by decide) bw_11 lq_b st.env).mono ?_
  rintro _ w32 ⟨rfl, hb1⟩
  replace st := st.call hb1
  replace BC := BC.call hb1
  replace BT := BT.call hb1
  replace BR := BR.call hb1
  replace BA := BA.call hb1
  replace BB := BB.call hb1
  replace BD := BD.call hb1
  replace hT := (hT.below hb1).more hb1.size
  clear hb1
  clear cC0 cC1
  go_upto_region 14 with fail
  have hTn := (hT.below (bNewW w32 (.cells #[.string ⟨#[50, 51]⟩, .string ⟨#[49, 48, 48, 48, 48]⟩] 33))).more (bNewW w32 (.cells #[.string ⟨#[50, 51]⟩, .string ⟨#[49, 48, 48, 48, 48]⟩] 33)).size
  clear hT
  have hT := hTn
  clear hTn
  have dCE := BC.lt
  have dTE := BT.lt
  have dRE := BR.lt
  have dAE := BA.lt
  have dBE := BB.lt
  have dDE := BD.lt
  replace BC := BC.new (.cells #[.string ⟨#[50, 51]⟩, .string ⟨#[49, 48, 48, 48, 48]⟩] 33)
  replace BT := BT.new (.cells #[.string ⟨#[50, 51]⟩, .string ⟨#[49, 48, 48, 48, 48]⟩] 33)
  replace BR := BR.new (.cells #[.string ⟨#[50, 51]⟩, .string ⟨#[49, 48, 48, 48, 48]⟩] 33)
  replace BA := BA.new (.cells #[.string ⟨#[50, 51]⟩, .string ⟨#[49, 48, 48, 48, 48]⟩] 33)
  replace BB := BB.new (.cells #[.string ⟨#[50, 51]⟩, .string ⟨#[49, 48, 48, 48, 48]⟩] 33)
  replace BD := BD.new (.cells #[.string ⟨#[50, 51]⟩, .string ⟨#[49, 48, 48, 48, 48]⟩] 33)
  have BE := Bx.mk w32 33 #[.string ⟨#[50, 51]⟩, .string ⟨#[49, 48, 48, 48, 48]⟩]
  replace st := st.call (bNewW w32 (.cells #[.string ⟨#[50, 51]⟩, .string ⟨#[49, 48, 48, 48, 48]⟩] 33))
  have lE := BE.lt
  generalize w32.alloc (.cells #[.string ⟨#[50, 51]⟩, .string ⟨#[49, 48, 48, 48, 48]⟩] 33) = w33 at *
  generalize w32.heap.size = gE at *
  have cC0 := BC.cell 0 rfl
  have cC1 := BC.cell 1 rfl
  go_wp2_with fail
  refine (Binomial_not 51 0 1 10 _ st.env (by decide)).mono ?_
  rintro _ w34 ⟨rfl, hb1⟩
  replace st := st.call hb1
  replace BC := BC.call hb1
  replace BT := BT.call hb1
  replace BR := BR.call hb1
  replace BA := BA.call hb1
  replace BB := BB.call hb1
  replace BD := BD.call hb1
  replace BE := BE.call hb1
  replace hT := (hT.below hb1).more hb1.size
  clear hb1
  clear cC0 cC1
  go_upto_region 15 with fail
  have hTn := (hT.below (bNewW w34 (.cells #[.string ⟨#[]⟩, .string ⟨#[]⟩] 33))).more (bNewW w34 (.cells #[.string ⟨#[]⟩, .string ⟨#[]⟩] 33)).size
  clear hT
  have hT := hTn
  clear hTn
  have dCF := BC.lt
  have dTF := BT.lt
  have dRF := BR.lt
  have dAF := BA.lt
  have dBF := BB.lt
  have dDF := BD.lt
  have dEF := BE.lt
  replace BC := BC.new (.cells #[.string ⟨#[]⟩, .string ⟨#[]⟩] 33)
  replace BT := BT.new (.cells #[.string ⟨#[]⟩, .string ⟨#[]⟩] 33)
  replace BR := BR.new (.cells #[.string ⟨#[]⟩, .string ⟨#[]⟩] 33)
  replace BA := BA.new (.cells #[.string ⟨#[]⟩, .string ⟨#[]⟩] 33)
  replace BB := BB.new (.cells #[.string ⟨#[]⟩, .string ⟨#[]⟩] 33)
  replace BD := BD.new (.cells #[.string ⟨#[]⟩, .string ⟨#[]⟩] 33)
  replace BE := BE.new (.cells #[.string ⟨#[]⟩, .string ⟨#[]⟩] 33)
  have BF := Bx.mk w34 33 #[.string ⟨#[]⟩, .string ⟨#[]⟩]
  replace st := st.call (bNewW w34 (.cells #[.string ⟨#[]⟩, .string ⟨#[]⟩] 33))
  have lF := BF.lt
  generalize w34.alloc (.cells #[.string ⟨#[]⟩, .string ⟨#[]⟩] 33) = w35 at *
  generalize w34.heap.size = gF at *
  go_wp2_with fail
  refine (Hyper_not 5 6 2 1 _ (by decide)).mono ?_
  rintro _ w36 ⟨rfl, hb1⟩
  replace st := st.call hb1
  replace BC := BC.call hb1
  replace BT := BT.call hb1
  replace BR := BR.call hb1
  replace BA := BA.call hb1
  replace BB := BB.call hb1
  replace BD := BD.call hb1
  replace BE := BE.call hb1
  replace BF := BF.call hb1
  replace hT := (hT.below hb1).more hb1.size
  clear hb1
  go_upto_region 16 with fail
  have hTn := (hT.below (bNewW w36 (.cells #[.string ⟨#[]⟩, .string ⟨#[]⟩] 33))).more (bNewW w36 (.cells #[.string ⟨#[]⟩, .string ⟨#[]⟩] 33)).size
  clear hT
  have hT := hTn
  clear hTn
  have dCG := BC.lt
  have dTG := BT.lt
  have dRG := BR.lt
  have dAG := BA.lt
  have dBG := BB.lt
  have dDG := BD.lt
  have dEG := BE.lt
  have dFG := BF.lt
  replace BC := BC.new (.cells #[.string ⟨#[]⟩, .string ⟨#[]⟩] 33)
  replace BT := BT.new (.cells #[.string ⟨#[]⟩, .string ⟨#[]⟩] 33)
  replace BR := BR.new (.cells #[.string ⟨#[]⟩, .string ⟨#[]⟩] 33)
  replace BA := BA.new (.cells #[.string ⟨#[]⟩, .string ⟨#[]⟩] 33)
  replace BB := BB.new (.cells #[.string ⟨#[]⟩, .string ⟨#[]⟩] 33)
  replace BD := BD.new (.cells #[.string ⟨#[]⟩, .string ⟨#[]⟩] 33)
  replace BE := BE.new (.cells #[.string ⟨#[]⟩, .string ⟨#[]⟩] 33)
  replace BF := BF.new (.cells #[.string ⟨#[]⟩, .string ⟨#[]⟩] 33)
  have BG := Bx.mk w36 33 #[.string ⟨#[]⟩, .string ⟨#[]⟩]
  replace st := st.call (bNewW w36 (.cells #[.string ⟨#[]⟩, .string ⟨#[]⟩] 33))
  have lG := BG.lt
  generalize w36.alloc (.cells #[.string ⟨#[]⟩, .string ⟨#[]⟩] 33) = w37 at *
  generalize w36.heap.size = gG at *
  clear hT
  go_upto_region 17 with fail
  clear BC BT BR BF BG
  have rA0 := fun d os => (BA.again d os).cell 0 rfl
  have rA1 := fun d os => (BA.again d os).cell 1 rfl
  have rB0 := fun d os => (BB.again d os).cell 0 rfl
  have rB1 := fun d os => (BB.again d os).cell 1 rfl
  have rD0 := fun d os => (BD.again d os).cell 0 rfl
  have rD1 := fun d os => (BD.again d os).cell 1 rfl
  have rE0 := fun d os => (BE.again d os).cell 0 rfl
  have rE1 := fun d os => (BE.again d os).cell 1 rfl
  have kq0 := fun d os => of_s (qa := [53]) (qb := [54]) (Sort.grow (redrawn w37 d) os) ⟨by decide, by decide⟩ ⟨by decide, by decide⟩ (by decide) ⟨rfl⟩ lq_o8 (st.env.below (below_regrown w37 d os))
  have kq1 := fun d os => of_s (qa := [49]) (qb := [49]) (Sort.grow (redrawn w37 d) os) ⟨by decide, by decide⟩ ⟨by decide, by decide⟩ (by decide) ⟨rfl⟩ lq_o2 (st.env.below (below_regrown w37 d os))
  have kq2 := fun d os => of_s (qa := [48]) (qb := [49]) (Sort.grow (redrawn w37 d) os) ⟨by decide, by decide⟩ ⟨by decide, by decide⟩ (by decide) ⟨rfl⟩ lq_o1 (st.env.below (below_regrown w37 d os))
  go_wp2_with fail
  refine wp_region_quiet_below (by kernel_rfl) (by kernel_rfl) ?_
  repeat (go_big_quiet_step (first
    | (go_at_call 28; with_reducible exact Calls.regrown_of (kq0 _ _))
    | (go_at_call 28; with_reducible exact Calls.regrown_of (kq1 _ _))
    | (go_at_call 28; with_reducible exact Calls.regrown_of (kq2 _ _))))
  refine wpQuiet_nil ?_
  rintro _ ⟨q, rfl⟩
  have hb1 := below_regrown w37 q.d q.os
  replace st := st.call hb1
  replace BA := BA.call hb1
  replace BB := BB.call hb1
  replace BD := BD.call hb1
  replace BE := BE.call hb1
  clear hb1 rA0 rA1 rB0 rB1 rD0 rD1 rE0 rE1 kq0 kq1 kq2 
  generalize Sort.grow (redrawn w37 q.d) q.os = w38 at *
  go_wp2
  go_ret
  exact ⟨rfl, st.bl⟩
end Go.Proofs.YtklelhkcbdajpaaGreatDoor
namespace Go.Proofs.YtklelhkcbdajpaaGreatDoor
open Go.RowKit
def RowZ (e : TypeId) (size B n : Nat) (flat : List Value) : Value → World → Prop := fun v w => (v = .slice none 0 0 ∧ n = 0 ∧ flat = []) ∨ ∃ cap, RowC e size B cap n flat v w ∧ cap ≤ maxLen
theorem stab_rowZ (e : TypeId) (size B n : Nat) (flat : List Value) : Stab (RowZ e size B n flat) := fun v w w' h hb => by
  rcases h with h | ⟨cap, h, hm⟩
  · exact .inl h
  · exact .inr ⟨cap, stab_rowC e size B cap n flat v w w' h hb, hm⟩
theorem append_rowZ {P : Program} (w : World) (t ty e : TypeId) (i : TypeInfo) (z : Value) (size B n m : Nat) (flat news : List Value) (v x : Value) (ht : P.underlying t = some (.slice e)) (hi : P.info? e = some i) (hz : i.zero = some z)
    (hsize : i.size = size) (hzs : z.cells.size = size) (hv : RowZ e size B n flat v w) (hB : B ≤ w.heap.size) (hs : Src P size t x m news w) (hm : 0 < m) (h63 : n + m ≤ maxLen) (hb : (n + m) * i.bytes ≤ 140737488355328) :
    ∃ v' w', (Builtin.append_ #[t, t] ty #[v, x]).run P w = .ok v' w' ∧ Below B w w' ∧ RowZ e size B (n + m) (flat ++ news) v' w' := by
  rcases hv with ⟨rfl, rfl, rfl⟩ | ⟨cap, hv, hcm⟩
  · subst hsize
    have hnl := hs.newsLen
    have hold : (Builtin.firstCells i.size 0 (.slice none 0 0)).run P w.drew = .ok ([] : List Value).toArray w.drew := by simp [Builtin.firstCells, loadCells, loadCellsFrom]
    have hrun := run_append_grow_src (P := P) w t t ty e i z ht hi hz none 0 0 [] hold x m news hs (by omega) (by simp only [maxLen] at h63; omega) (growslice_fits (by omega) hb)
    have hge := grownCap_ge w (0 + m) 0 e
    refine ⟨_, _, hrun, ((Below.refl B w).drew).alloc hB _, .inr ⟨_, ⟨w.heap.size, _, rfl, hB, hge, Bx.mk w.drew e _, ?_, ?_⟩, grownCap_le_maxLen w (0 + m) 0 e h63⟩⟩
    · rw [Array.size_append, List.size_toArray, List.length_append, List.length_nil, hnl, size_zeroCells, hzs, Nat.zero_add, ← Nat.add_mul]
      congr 1; omega
    · rw [Array.toList_append, List.take_append_of_le_length (by simp [hnl, Nat.add_mul])]
      rw [List.take_of_length_le (by simp [hnl, Nat.add_mul])]
  · obtain ⟨v', w', cap', h1, h2, h3, h4, h5⟩ := append_row (P := P) w t ty e i z size B cap n m flat news v x ht hi hz hsize hzs hv hB hs hcm h63 hb
    exact ⟨v', w', h1, h2, .inr ⟨cap', h4, h5⟩⟩
theorem wpList_append_rowZ {P : Program} {w : World} {ops : Array Oper} {rest : List Oper} {o : Oper} {a : Act} {Q : Exit → Act → World → Prop} (hgd : o.guard = none) (s y : Operand) (t e : TypeId) (ho : o.op = .call { callee := .builtin .append, args := #[s, y], argTypes := #[t, t] })
    (i : TypeInfo) (z : Value) (size B n m : Nat) (flat news : List Value) (v x : Value) (ht : P.underlying t = some (.slice e)) (hi : P.info? e = some i) (hz : i.zero = some z)
    (hsize : i.size = size) (hzs : z.cells.size = size) (hes : a.eval s = v) (hey : a.eval y = x) (hv : RowZ e size B n flat v w) (hB : B ≤ w.heap.size) (hs : Src P size t x m news w) (hm : 0 < m) (h63 : n + m ≤ maxLen) (hb : (n + m) * i.bytes ≤ 140737488355328)
    (h : ∀ v' w', Below B w w' → RowZ e size B (n + m) (flat ++ news) v' w' → wpList P ops Q rest (a.put o.dst v') w') : wpList P ops Q (o :: rest) a w := by
  obtain ⟨v', w', hr, h1, h2⟩ := append_rowZ (P := P) w t o.type e i z size B n m flat news v x ht hi hz hsize hzs hv hB hs hm h63 hb
  refine wpList_plain hgd fun _ hK => ?_
  unfold Oper.wp execOp
  simp only [ho, resolve, invoke, builtin, Sem.run_bind, Sem.run_pure, Result.andThen_ok, List.map_toArray, List.map_cons, List.map_nil, hes, hey, hr]
  exact hK _ _ (h v' w' h1 h2)
theorem RowZ.at {α : Type} {size : Nat} {f : α → List Value} {w : World} {e : TypeId} {B : Nat} {p : List α} {v : Value} (hf : ∀ c, (f c).length = size) (h : RowZ e size B p.length (p.flatMap f) v w) :
    ∃ A cap, v = .slice A p.length cap ∧ At size f w w.heap.size A p ∧ p.length ≤ cap ∧ cap ≤ maxLen := by
  rcases h with ⟨rfl, h0, -⟩ | ⟨cap, h, hm⟩
  · rw [h0]
    exact ⟨none, 0, rfl, fun h => by omega, by omega, Nat.zero_le _⟩
  · obtain ⟨A, h1, h2, h3⟩ := RowC.at hf h
    exact ⟨A, cap, h1, h2, h3, hm⟩
end Go.Proofs.YtklelhkcbdajpaaGreatDoor
namespace Tb
def cD (x y : Int) : Int := if Tp.pick x 8 = 7 then 1 + Tp.pick y 1000 else 1 + Tp.pick y 12
def cN (x y : Int) : Int := Tp.pick (x.tdiv 8) (cD x y + 1)
theorem cD_in (x y : Int) : 1 ≤ cD x y ∧ cD x y ≤ 1000 := by
  unfold cD
  have h1 := Tp.pick_lt y (show (0 : Int) < 1000 by decide)
  have h2 := Tp.pick_lt y (show (0 : Int) < 12 by decide)
  split <;> omega
theorem cN_in (x y : Int) : 0 ≤ cN x y ∧ cN x y ≤ cD x y := by
  have h := cD_in x y
  have := Tp.pick_lt (x.tdiv 8) (show 0 < cD x y + 1 by omega)
  unfold cN; omega
end Tb
namespace Go.Proofs.YtklelhkcbdajpaaGreatDoor
open Go.RowKit Go.Shelf
def y2C (p : Int × Int) : List Value := [.int .i64 p.1, .int .i64 p.2]
theorem tdiv8_i64 {x : Int} (h : I64 x) : I64 (x.tdiv 8) := by
  obtain ⟨h1, h2⟩ := h
  rcases Int.le_total 0 x with hx | hx
  · have a := Int.tdiv_nonneg hx (show (0 : Int) ≤ 8 by decide)
    have b := Int.tdiv_le_self 8 hx
    exact ⟨by omega, by omega⟩
  · have a := Int.tdiv_nonneg (a := -x) (b := 8) (by omega) (by decide)
    have b := Int.tdiv_le_self 8 (show 0 ≤ -x by omega)
    rw [Int.neg_tdiv] at a b
    exact ⟨by omega, by omega⟩
theorem results_C1 {fn : Func} {t : Tmp} {g : Nat} {a b : Int} (h : fn.results = #[.cell t 23]) (tmps : Array Value) (w : World) (ht : tmps.getD t undef = .pointer (some ⟨g, 0, none⟩)) (hB : Bx w g 23 #[.int .i64 a, .int .i64 b]) :
    (results fn tmps).run Tryz.prog w = .ok (.agg #[.int .i64 a, .int .i64 b]) w := by
  have h0 := hB.cell 0 rfl
  have h1 := hB.cell 1 rfl
  have ht' : tmps[t]?.getD undef = .pointer (some ⟨g, 0, none⟩) := by simpa using ht
  simp only [results, h]
  simp [go_sem, ht', h0, h1, loadVar]
theorem rChance_any (x y : Int) (w : World) (hx : I64 x) (hy : I64 y) :
    Calls Tryz.prog 11 #[.agg #[.int .i64 x, .int .i64 y]] w fun e w' => e = .returned (.agg #[.int .i64 (Tb.cN x y), .int .i64 (Tb.cD x y)]) ∧ Below w.heap.size w w' := by
  have B0 := (Bx.mk w 24 #[.int .i64 x, .int .i64 y]).new (.cells #[.int .i64 0, .int .i64 0] 23)
  have B1 := Bx.mk (w.alloc (.cells #[.int .i64 x, .int .i64 y] 24)) 23 #[.int .i64 0, .int .i64 0]
  rw [alloc_size] at B1
  have hb := bNew (bNewW w (.cells #[.int .i64 x, .int .i64 y] 24)) (.cells #[.int .i64 0, .int .i64 0] 23)
  have c0 := B0.cell 0 rfl
  have c1 := B0.cell 1 rfl
  have f0 := B1.frozen 0
  have f1 := B1.frozen 1
  have d1 := tdiv8_i64 hx
  have p1 := fun w0 => rpick_any y 12 (by decide) hy w0
  have p2 := fun w0 => rpick_any x 8 (by decide) hx w0
  have p3 := fun w0 => rpick_any y 1000 (by decide) hy w0
  have hdi := Tb.cD_in x y
  have hni := Tb.cN_in x y
  have p4 := fun w0 => rpick_any (x.tdiv 8) (Tb.cD x y + 1) (by omega) d1 w0
  have hD : Kp (Tb.cD x y = if Tp.pick x 8 = 7 then 1 + Tp.pick y 1000 else 1 + Tp.pick y 12) := ⟨rfl⟩
  have e1 := Tp.pick_lt y (show (0 : Int) < 12 by decide)
  have e2 := Tp.pick_lt y (show (0 : Int) < 1000 by decide)
  have e3 := Tp.pick_lt x (show (0 : Int) < 8 by decide)
  rw [show Tp.pick (x.tdiv 8) (Tb.cD x y + 1) = Tb.cN x y from rfl] at p4
  generalize Tb.cN x y = N at *
  generalize Tb.cD x y = D at *
  generalize Tp.pick y 12 = q1 at *
  generalize Tp.pick x 8 = q2 at *
  generalize Tp.pick y 1000 = q3 at *
  have B4 := Bx.mk (w.alloc (.cells #[.int .i64 x, .int .i64 y] 24)) 23 #[.int .i64 N, .int .i64 D]
  rw [alloc_size] at B4
  have hb4 := bNew (bNewW w (.cells #[.int .i64 x, .int .i64 y] 24)) (.cells #[.int .i64 N, .int .i64 D] 23)
  obtain ⟨x1, x2⟩ := hx
  clear hy
  replace d1 := Kp.mk d1
  by_cases hq : q2 = 7
  · subst hq
    have hD2 : 1 + q3 = D := by rw [hD.out, if_pos rfl]
    clear hD
    go_enter Tryz.func11, Tryz.ntmps11
    go_wp2_with fail
    refine (p1 _).mono ?_
    rintro _ _ ⟨rfl, rfl⟩
    go_wp2_with fail
    refine (p2 _).mono ?_
    rintro _ _ ⟨rfl, rfl⟩
    go_wp2_with fail
    refine (p3 _).mono ?_
    rintro _ _ ⟨rfl, rfl⟩
    go_wp2_with fail
    refine (p4 _).mono ?_
    rintro _ _ ⟨rfl, rfl⟩
    go_wp2
    exact bodyPost_ret (results_C1 rfl _ _ rfl B4) rfl ⟨rfl, hb4⟩
  · have hq' : (q2 == 7) = false := by simp [hq]
    have hD2 : 1 + q1 = D := by rw [hD.out, if_neg hq]
    clear hD
    go_enter Tryz.func11, Tryz.ntmps11
    go_wp2_with fail
    refine (p1 _).mono ?_
    rintro _ _ ⟨rfl, rfl⟩
    go_wp2_with fail
    refine (p2 _).mono ?_
    rintro _ _ ⟨rfl, rfl⟩
    go_wp2_with fail
    refine (p4 _).mono ?_
    rintro _ _ ⟨rfl, rfl⟩
    go_wp2
    exact bodyPost_ret (results_C1 rfl _ _ rfl B4) rfl ⟨rfl, hb4⟩
theorem rCount_any (l : List Int) (A : Option Addr) (cap : Nat) (s wd : Int) (w : World) (hA : At 1 intC w w.heap.size A l) (hn : l.length ≤ cap) (hl : l.length ≤ 60) (hs : -1000000000 ≤ s ∧ s ≤ 1000000000) (hw : 0 ≤ wd ∧ wd ≤ 1000000000) :
    Calls Tryz.prog 31 #[.slice A l.length cap, .int .i64 s, .int .i64 wd] w fun e w' => e = .returned (.int .i64 (Tb.cw l s wd)) ∧ w = w' := by
  go_enter Tryz.func31, Tryz.ntmps31
  go_wp2
  go_loopw [7, 8] (fun s7 s8 wr => ∃ k : Nat, k ≤ l.length ∧ s8 = .int .i64 k ∧ s7 = .int .i64 (Tb.cw (l.take k) s wd) ∧ wr = w) (fun s7 s8 _ => l.length - (intOf s8).toNat)
  case atStart => exact ⟨0, Nat.zero_le _, rfl, rfl, rfl⟩
  case round =>
    obtain ⟨k, hk, rfl, rfl, rfl⟩ := hrel
    by_cases hlt : k < l.length
    · have ho : Tb.cw (l.take k) s wd ≤ 60 := Nat.le_trans List.countP_le_length (by rw [List.length_take]; omega)
      have hst : Tb.cw (l.take (k + 1)) s wd = Tb.cw (l.take k) s wd + if s ≤ l[k] ∧ l[k] < s + wd then 1 else 0 := by
        unfold Tb.cw
        rw [List.take_add_one, List.getElem?_eq_getElem hlt, Option.toList_some, List.countP_append, List.countP_singleton]
        congr 1
        simp
      obtain ⟨b, off, rfl, hbB, hcell⟩ := hA (by omega)
      have ck := hcell k _ (List.getElem?_eq_getElem hlt) 0 _ rfl
      rw [Nat.mul_one, Nat.add_zero] at ck
      replace hst := Kp.mk hst
      clear hcell hA
      generalize l[k] = y at *
      generalize hm : Tb.cw (l.take k) s wd = m at *
      clear hm
      by_cases h1 : s ≤ y
      · by_cases h2 : y < s + wd
        · have hm2 : Kp (Tb.cw (l.take (k + 1)) s wd = m + 1) := ⟨by rw [hst.out, if_pos ⟨h1, h2⟩]⟩
          clear hst
          have t1 : decide (s ≤ y) = true := by simp [h1]
          have t2 : decide (y < s + wd) = true := by simp [h2]
          go_wp2
          exact ⟨⟨k + 1, by omega, by go_num, by rw [hm2.out]; go_num, trivial⟩, by simp [intOf]; omega⟩
        · have hm2 : Kp (Tb.cw (l.take (k + 1)) s wd = m) := ⟨by rw [hst.out, if_neg (fun h => h2 h.2)]; rfl⟩
          clear hst
          have t1 : decide (s ≤ y) = true := by simp [h1]
          have t2 : decide (y < s + wd) = false := by simp; omega
          go_wp2
          exact ⟨⟨k + 1, by omega, by go_num, by rw [hm2.out], trivial⟩, by simp [intOf]; omega⟩
      · have hm2 : Kp (Tb.cw (l.take (k + 1)) s wd = m) := ⟨by rw [hst.out, if_neg (fun h => h1 h.1)]; rfl⟩
        clear hst
        have t1 : decide (s ≤ y) = false := by simp; omega
        go_wp2
        exact ⟨⟨k + 1, by omega, by go_num, by rw [hm2.out], trivial⟩, by simp [intOf]; omega⟩
    · obtain rfl : k = l.length := by omega
      rw [List.take_length] at *
      go_wp2
      go_ret
      exact ⟨rfl, rfl⟩
theorem rMade_any (x : List Int) (A : Option Addr) (cap : Nat) (w : World) (hA : At 1 intC w w.heap.size A x) (hn : x.length ≤ cap) (hlen : x.length ≤ maxLen) (hx : ∀ y ∈ x, I64 y) :
    Calls Tryz.prog 20 #[.slice A x.length cap] w fun e w' => (∃ C cc, e = .returned (.slice C (Tb.madeT x).length cc) ∧ Kp (At 1 intC w' w'.heap.size C (Tb.madeT x) ∧ (Tb.madeT x).length ≤ cc)) ∧ Below w.heap.size w w' := by
  obtain ⟨i, z, hi, hzz, hs1, hz1, hby⟩ := intI
  go_enter Tryz.func20, Tryz.ntmps20
  go_wp2
  go_loopw [3, 4, 5] (fun s3 s4 s5 wr => ∃ k : Nat, k ≤ x.length ∧ k ≤ 60 ∧ s5 = .int .i64 k ∧ s4 = .int .i64 (Tb.tk x k) ∧ RowZ 3 1 w.heap.size k ((Tb.tks x k).flatMap intC) s3 wr ∧ Below w.heap.size w wr) (fun _ _ s5 _ => 60 - (intOf s5).toNat)
  case atStart => exact ⟨0, Nat.zero_le _, Nat.zero_le _, rfl, rfl, .inl ⟨rfl, rfl, rfl⟩, bStart w⟩
  case round =>
    obtain ⟨k, hk, hk6, rfl, rfl, hrow, hb⟩ := hrel
    by_cases hlt : k < x.length
    · by_cases hl6 : k < 60
      · have t6 : decide ((k : Int) < 60) = true := by simp; omega
        obtain ⟨b9, off, rfl, hb9, hcell⟩ := hA (by omega)
        have hck := List.getElem?_eq_getElem hlt
        have hy := hx _ (List.getElem_mem hlt)
        have g0 : wr.cell? ⟨b9, off + k, none⟩ = some (.int .i64 x[k]) := by
          have h := hcell k _ hck 0 _ rfl
          rw [Nat.mul_one, Nat.add_zero] at h
          exact (hb.cell (p := ⟨b9, off + k, none⟩) hb9).trans h
        have htk : Tb.tk x (k + 1) = Tb.tk x k + Tb.stp x[k] := by
          show Tb.tk x k + Tb.stp (x[k]?.getD 0) = _
          rw [hck]; rfl
        have hts := Kp.mk (Tb.tks_succ x k)
        have htb := Tb.tk_bound x k
        have hsb := Tb.stp_lt x[k]
        have hsd : Kp (Tb.stp x[k] = if Tp.pick x[k] 8 = 7 then Tp.pick (x[k].tdiv 8) 1000 else Tp.pick (x[k].tdiv 8) 12) := ⟨rfl⟩
        clear hcell hck hA
        generalize x[k] = y at *
        have d1 := tdiv8_i64 hy
        have p1 := fun w0 => rpick_any y 8 (by decide) hy w0
        have p2 := fun w0 => rpick_any (y.tdiv 8) 1000 (by decide) d1 w0
        have p3 := fun w0 => rpick_any (y.tdiv 8) 12 (by decide) d1 w0
        generalize Tb.stp y = s at *
        generalize Tp.pick y 8 = q1 at *
        generalize Tp.pick (y.tdiv 8) 1000 = q2 at *
        generalize Tp.pick (y.tdiv 8) 12 = q3 at *
        have hnx : Kp (Tb.tks x (k + 1) = Tb.tks x k ++ [Tb.tk x k + s]) := ⟨by rw [hts.out, htk]⟩
        replace htk := Kp.mk htk
        clear hts
        generalize Tb.tk x k = t at *
        obtain ⟨y1, y2⟩ := hy
        replace d1 := Kp.mk d1
        obtain ⟨tt, htt⟩ : ∃ tt, tt = t + s := ⟨_, rfl⟩
        have htr : 0 ≤ tt ∧ tt ≤ 100000 := by omega
        rw [← htt] at hnx htk
        have hsrc := RowC.src (P := Tryz.prog) (B := wr.heap.size) (cap := 1) (e := 3) (t := 27) (fun u hu => by simp at hu; subst hu; rfl) Tryz.underlying27 (show RowC 3 1 wr.heap.size 1 1 [.int .i64 tt] (.slice (some ⟨wr.heap.size, 0, none⟩) 1 1) (wr.alloc (.cells #[.int .i64 tt] 3)) from ⟨wr.heap.size, _, rfl, Nat.le_refl _, Nat.le_refl _, Bx.mk _ _ _, rfl, rfl⟩)
        have hrow2 := stab_rowZ _ _ _ _ _ _ _ _ hrow (bNewW wr (.cells #[.int .i64 tt] 3))
        have hsz : w.heap.size ≤ (wr.alloc (.cells #[.int .i64 tt] 3)).heap.size := by rw [alloc_size]; have := hb.size; omega
        have hbn := bNew hb (.cells #[.int .i64 tt] 3)
        have fin : ∀ v' w', Below w.heap.size (wr.alloc (.cells #[.int .i64 tt] 3)) w' → RowZ 3 1 w.heap.size (k + 1) ((Tb.tks x k).flatMap intC ++ [.int .i64 tt]) v' w' → RowZ 3 1 w.heap.size (k + 1) ((Tb.tks x (k + 1)).flatMap intC) v' w' ∧ Below w.heap.size w w' := fun v' w' h1 h2 => by
          rw [hnx.out, List.flatMap_append]
          exact ⟨h2, hbn.trans h1⟩
        by_cases hq : q1 = 7
        · subst hq
          have hss : s = q2 := by rw [hsd.out, if_pos rfl]
          subst hss
          have htt' := htt.symm
          clear hsd p3 htt hnx
          go_wp2_with fail
          refine (p1 _).mono ?_
          rintro _ _ ⟨rfl, rfl⟩
          go_wp2_with fail
          refine (p2 _).mono ?_
          rintro _ _ ⟨rfl, rfl⟩
          go_wp2_with (at_builtin; refine wpList_append_rowZ rfl (.tmp 38) (.tmp 40) 27 3 rfl i z 1 w.heap.size k 1 ((Tb.tks x k).flatMap intC) [.int .i64 tt] _ _ Tryz.underlying27 hi hzz hs1 hz1 rfl rfl hrow2 hsz hsrc (by omega) (by unfold maxLen; omega) (by rw [hby]; omega) ?_; intro v' w' e1 e2; obtain ⟨f1, f2⟩ := fin _ _ e1 e2)
          exact ⟨⟨k + 1, by omega, by omega, by go_num, by rw [htk.out], f1, f2⟩, by simp [intOf]; omega⟩
        · have hq' : (q1 == 7) = false := by simp [hq]
          have hss : s = q3 := by rw [hsd.out, if_neg hq]
          subst hss
          have htt' := htt.symm
          clear hsd p2 htt hnx
          go_wp2_with fail
          refine (p1 _).mono ?_
          rintro _ _ ⟨rfl, rfl⟩
          go_wp2_with fail
          refine (p3 _).mono ?_
          rintro _ _ ⟨rfl, rfl⟩
          go_wp2_with (at_builtin; refine wpList_append_rowZ rfl (.tmp 38) (.tmp 40) 27 3 rfl i z 1 w.heap.size k 1 ((Tb.tks x k).flatMap intC) [.int .i64 tt] _ _ Tryz.underlying27 hi hzz hs1 hz1 rfl rfl hrow2 hsz hsrc (by omega) (by unfold maxLen; omega) (by rw [hby]; omega) ?_; intro v' w' e1 e2; obtain ⟨f1, f2⟩ := fin _ _ e1 e2)
          exact ⟨⟨k + 1, by omega, by omega, by go_num, by rw [htk.out], f1, f2⟩, by simp [intOf]; omega⟩
      · have t6 : decide ((k : Int) < 60) = false := by simp; omega
        have hM : Kp (Tb.madeT x = Tb.tks x k) := ⟨by unfold Tb.madeT; congr 1; omega⟩
        have hkl := Tb.tks_len x k
        have hfin : ∃ C cc, Ending.returned (.slice C k cc) = Ending.returned (.slice C k cc) ∧ True := ⟨none, 0, rfl, trivial⟩
        obtain ⟨C, cc, hs3, h1, h2, h3⟩ := RowZ.at (f := intC) (p := Tb.tks x k) (fun _ => rfl) (by rw [hkl]; exact hrow)
        subst hs3
        go_wp2
        go_ret
        exact ⟨⟨C, cc, by rw [hM.out, hkl]; rfl, ⟨by rw [hM.out]; exact h1, by rw [hM.out]; exact h2⟩⟩, hb⟩
    · obtain rfl : k = x.length := by omega
      have hM : Kp (Tb.madeT x = Tb.tks x x.length) := ⟨by unfold Tb.madeT; congr 1; omega⟩
      have hkl := Tb.tks_len x x.length
      obtain ⟨C, cc, hs3, h1, h2, h3⟩ := RowZ.at (f := intC) (p := Tb.tks x x.length) (fun _ => rfl) (by rw [hkl]; exact hrow)
      subst hs3
      go_wp2
      go_ret
      exact ⟨⟨C, cc, by rw [hM.out, hkl]; rfl, ⟨by rw [hM.out]; exact h1, by rw [hM.out]; exact h2⟩⟩, hb⟩
end Go.Proofs.YtklelhkcbdajpaaGreatDoor
namespace Go.Proofs.YtklelhkcbdajpaaGreatDoor
open Go.RowKit Go.Shelf
section
variable {x y z : Rat} {xa xb ya yb za zb : List UInt8} {j k : Nat} (w : World) (lx : LQ x xa xb) (ly : LQ y ya yb) (lz : LQ z za zb) (hx : Rq.Qz j j x) (hy : Rq.Qz k k y) (hjk : j + k + 1 ≤ 200)
include lx ly lz hx hy hjk
end
theorem lpick_m (c : Int) {b : Int} {m : Nat} (hb : b = (m : Int)) (h0 : 0 < m) (h : I64 c) : ∃ N : Nat, Kp (Tp.pick c b = (N : Int)) ∧ N < m ∧ ∀ w : World, Calls Tryz.prog 13 #[.int .i64 c, .int .i64 b] w fun e w' => e = .returned (.int .i64 (N : Int)) ∧ w = w' := by
  subst hb
  have hp := Tp.pick_lt c (show (0 : Int) < (m : Int) by omega)
  obtain ⟨N, hN⟩ := Int.eq_ofNat_of_zero_le hp.1
  refine ⟨N, ⟨hN⟩, by omega, fun w => ?_⟩
  have := lpick_any c m (by omega) h w
  rw [hN] at this
  exact this
theorem chance_k (x y : Int) (hx : I64 x) (hy : I64 y) : ∃ c e : Int, 0 ≤ c ∧ c ≤ e ∧ e ≤ 1000 ∧ 1 ≤ e ∧ Kp (Tb.cN x y = c ∧ Tb.cD x y = e) ∧ ∀ w : World, Calls Tryz.prog 11 #[.agg #[.int .i64 x, .int .i64 y]] w fun e' w' => e' = .returned (.agg #[.int .i64 c, .int .i64 e]) ∧ Below w.heap.size w w' := by
  have h1 := Tb.cD_in x y
  have h2 := Tb.cN_in x y
  exact ⟨_, _, h2.1, h2.2, h1.2, h1.1, ⟨rfl, rfl⟩, fun w => rChance_any x y w hx hy⟩
end Go.Proofs.YtklelhkcbdajpaaGreatDoor
namespace Go.Proofs.YtklelhkcbdajpaaGreatDoor
open Go.ChangeShapes Go.WideShapes Go.ChangeAt Go.RowKit
section
variable {H : Type} {enc : TypeId × Value → H} {P : Program} {W : World} {sp : Nat → Bool} {held : Bool}
theorem choose_list {α : Type} {Q : Nat → α → Prop} : ∀ n, (∀ i, i < n → ∃ c, Q i c) → ∃ x : List α, x.length = n ∧ ∀ i c, x[i]? = some c → Q i c
  | 0, _ => ⟨[], rfl, fun i c h => by simp at h⟩
  | n + 1, h => by
    obtain ⟨x, hl, hx⟩ := choose_list n fun i hi => h i (by omega)
    obtain ⟨c, hc⟩ := h n (by omega)
    refine ⟨x ++ [c], by simp [hl], fun i d hi => ?_⟩
    rcases Nat.lt_or_ge i x.length with h1 | h1
    · rw [List.getElem?_append_left h1] at hi
      exact hx i d hi
    · rw [List.getElem?_append_right h1] at hi
      have h2 : i - x.length = 0 := by
        rcases Nat.eq_zero_or_pos (i - x.length) with h3 | h3
        · exact h3
        · rw [List.getElem?_eq_none (by simp; omega)] at hi; cases hi
      rw [h2] at hi
      simp only [List.getElem?_cons_zero, Option.some.injEq] at hi
      subst hi
      rw [show i = n by omega]
      exact hc
theorem open_arr {n : Nat} {t e : TypeId} (ht : P.underlying t = some (.array n e)) (he : P.underlying e = some (.int .i64)) (ce : P.cellsOf e = 1) (ct : P.cellsOf t = n) {fuel : Nat} {cs : List Value} {y : DataW H × List MemPlace}
    (h : DataW.trod enc P W 0 sp held fuel t cs = some y) : ∃ zs : List Int, cs = zs.map (Value.int .i64) ∧ zs.length = n ∧ ∀ z ∈ zs, (Lit.int .i64 z).wf = true := by
  obtain ⟨xs, m, _, _, hl, hxl, hel⟩ := DataW.trod_array ht h
  rw [ct] at hl
  obtain ⟨zs, hz, hzz⟩ := choose_list (Q := fun i z => cs[i]? = some (Value.int .i64 z) ∧ (Lit.int .i64 z).wf = true) n fun i hi => by
    have h1 := hel i hi
    rw [ce, Nat.mul_one, List.getElem?_eq_getElem (by omega)] at h1
    obtain ⟨z, e1, _, e3⟩ := DataW.trod_int he h1
    refine ⟨z, ?_, e3⟩
    have h0 : ((cs.drop i).take 1)[0]? = some (Value.int .i64 z) := by rw [e1]; rfl
    simpa using h0
  refine ⟨zs, ?_, hz, fun z hm => ?_⟩
  · apply List.ext_getElem?
    intro i
    rw [List.getElem?_map]
    cases hi : zs[i]? with
    | none =>
      rw [List.getElem?_eq_none_iff] at hi
      rw [List.getElem?_eq_none (by omega)]; rfl
    | some z => exact (hzz i z hi).1
  · obtain ⟨i, hi⟩ := List.mem_iff_getElem?.1 hm
    exact (hzz i z hi).2
theorem open_at {α : Type} {t e : TypeId} (size : Nat) (f : α → List Value) (Q : α → Prop) (ht : P.underlying t = some (.slice e)) (hce : P.cellsOf e = size) (hpos : 0 < size) (hsz : ∀ c, (f c).length = size)
    (hel : ∀ n cs y, DataW.trod enc P W 0 sp held n e cs = some y → ∃ c, cs = f c ∧ Q c) {r : Reach} {b0 : Nat} {v : Value} {d : DataW H} {ps : List MemPlace} (hval : Value.okWide P W r b0 t v) (hd : DataW.Trod enc P W 0 sp held t v d ps) :
    ∃ (A : Option Addr) (x : List α) (cap : Nat), v = .slice A x.length cap ∧ At size f W W.heap.size A x ∧ x.length ≤ cap ∧ cap ≤ maxLen ∧ ∀ c ∈ x, Q c := by
  obtain ⟨a0, len, cap, rfl⟩ := okWide_slice ht hval
  obtain ⟨fuel, hf⟩ := hd
  rcases Go.Deep.open_slice ht hf with ⟨hcs, _⟩ | ⟨a, len', cap', m, n, D, Pl, hcs, hb, hl, hm, hmm, hx, hel2⟩
  · simp [Value.cells] at hcs
    obtain ⟨rfl, rfl, rfl⟩ := hcs
    exact ⟨none, [], 0, rfl, At.nil, Nat.le_refl _, Nat.zero_le _, fun c h => by cases h⟩
  · simp [Value.cells] at hcs
    obtain ⟨rfl, rfl, rfl⟩ := hcs
    have hlm : len ≤ m := by rw [hmm]; split <;> omega
    obtain ⟨x, hxl, hxx⟩ := choose_list (Q := fun i c => W.cells? 0 (a.add (i * size)) size = some (f c) ∧ Q c) len fun i hi => by
      obtain ⟨cs', h1, h2⟩ := hel2 i (by omega)
      obtain ⟨c, rfl, hq⟩ := hel _ _ _ h2
      rw [hce] at h1
      exact ⟨c, h1, hq⟩
    refine ⟨some a, x, cap, by rw [hxl], fun h0 => ?_, by omega, hm, fun c hc => ?_⟩
    · have hcell : ∀ i c, x[i]? = some c → ∀ j u, (f c)[j]? = some u → W.cell? ((a.add (i * size)).add j) = some u := fun i c hi j u hj => by
        obtain ⟨_, _, hc⟩ := World.cells?_some (hxx i c hi).1
        have hjl : j < size := by rw [← hsz c]; exact (List.getElem?_eq_some_iff.1 hj).1
        rw [hc j hjl]; exact hj
      have h00 : 0 < (f x[0]).length := by rw [hsz]; exact hpos
      have h1 := hcell 0 x[0] (List.getElem?_eq_getElem h0) 0 _ (List.getElem?_eq_getElem h00)
      have hs : a.spot = none := by
        cases hsp : a.spot with
        | none => rfl
        | some k =>
          unfold World.cell? at h1
          split at h1
          · simp [Addr.add, hsp] at h1
          · cases h1
      obtain ⟨b, off, spt⟩ := a
      simp only at hs
      subst hs
      have ha : ∀ o n : Nat, (⟨b, o, none⟩ : Addr).add n = ⟨b, o + n, none⟩ := by
        intro o n
        unfold Addr.add
        split
        · next h => subst h; rfl
        · rfl
      refine ⟨b, off, rfl, ?_, fun i c hi j u hj => ?_⟩
      · have h2 := World.block_lt_of_cell? _ _ h1
        rwa [ha, ha] at h2
      · have := hcell i c hi j u hj
        rwa [ha, ha] at this
    · obtain ⟨i, hi⟩ := List.mem_iff_getElem?.1 hc
      exact (hxx i c hi).2
theorem open_agg {n : Nat} {t e : TypeId} (ht : P.underlying t = some (.array n e)) (he : P.underlying e = some (.int .i64)) (ce : P.cellsOf e = 1) (ct : P.cellsOf t = n) {r : Reach} {b0 : Nat} {v : Value} {d : DataW H} {ps : List MemPlace}
    (hval : Value.okWide P W r b0 t v) (hd : DataW.Trod enc P W 0 sp held t v d ps) : ∃ zs : List Int, v = .agg (zs.map (Value.int .i64)).toArray ∧ zs.length = n ∧ ∀ z ∈ zs, (Lit.int .i64 z).wf = true := by
  unfold Value.okWide at hval
  rw [ht] at hval
  obtain ⟨cs, rfl, _, _⟩ := hval
  obtain ⟨fuel, hf⟩ := hd
  obtain ⟨zs, h1, h2, h3⟩ := open_arr ht he ce ct hf
  refine ⟨zs, ?_, h2, h3⟩
  have : cs.toList = zs.map (Value.int .i64) := h1
  rw [← this]
theorem len_two {zs : List Int} (h : zs.length = 2) : ∃ a b, zs = [a, b] := by
  match zs, h with
  | [a, b], _ => exact ⟨a, b, rfl⟩
theorem trodAll_stay (hl : laidOutB P = true) {W' : World} (hb : Below W.heap.size W W') : ∀ {ts : List TypeId} {vs : List Value} {ds : List (DataW H)} {ps : List MemPlace}, (∀ t ∈ ts, P.readableRec t = true ∧ t < P.types.size) →
    DataW.TrodAll enc P W 0 (fun _ => true) true ts vs ds ps → (∀ x ∈ ps, x.block < W.heap.size) → DataW.TrodAll enc P W' 0 (fun b => decide (b < W.heap.size)) true ts vs ds ps
  | [], _, _, _, _, h, _ => by
    obtain ⟨rfl, rfl, rfl⟩ := trodAll_nil h
    rfl
  | t :: ts, vs, ds, ps, ht, h, hlt => by
    obtain ⟨v, vs', d, ds', p, q, rfl, rfl, rfl, hd, hrest⟩ := trodAll_cons h
    have h1 := ht t (by simp)
    exact ⟨p, q, Below.trod hl h1.1 h1.2 hd hb (fun x hx => hlt x (List.mem_append_left _ hx)), trodAll_stay hl hb (fun u hu => ht u (by simp [hu])) hrest (fun x hx => hlt x (List.mem_append_right _ hx)), rfl⟩
end
end Go.Proofs.YtklelhkcbdajpaaGreatDoor
