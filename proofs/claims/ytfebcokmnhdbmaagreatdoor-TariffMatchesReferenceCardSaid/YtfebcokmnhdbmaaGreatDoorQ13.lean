/- Div of package integer. FromInt of package integer. reduced, Make, Of of package rational. Make and Of of package rational. Of of package rational; check. Exact of package tariff, where the input is good. Ints of package dialtoneref37. Midnights of package tariff. Plain mathematics of decimal digits, the lowest one first (after IMath, the base turned). -/
import Derived.Test.YtfebcokmnhdbmaaGreatDoorQ12
import Derived.Test.YtfebcokmnhdbmaaGreatDoorQ11
import Derived.Test.YtfebcokmnhdbmaaGreatDoorQ08
import Derived.Test.YtfebcokmnhdbmaaGreatDoorQ04
import Derived.Test.YtfebcokmnhdbmaaGreatDoorQ02
import Derived.Test.YtfebcokmnhdbmaaGreatDoorQ09
namespace Go.Proofs.YtfebcokmnhdbmaaGreatDoor
set_option linter.unusedVariables false
set_option linter.unusedSimpArgs false
open Go.RowKit Go.Shelf
set_option maxRecDepth 100000 in
set_option maxHeartbeats 4000000 in
theorem Div_not (a b : List UInt8) (w : World) (ha : a.length ≤ 1000000) (hb : b.length ≤ 1000000) (h : Ig.validS a = false ∨ Ig.validS b = false) :
    Calls Tryz.prog 71 #[.string ⟨a.toArray⟩, .string ⟨b.toArray⟩] w fun e w' => e = .returned (.tuple #[.string ⟨#[]⟩, .string ⟨#[]⟩, .int .i64 30]) ∧ Below w.heap.size w w' := by
  have hB := both_not a b w ha hb h
  go_enter Tryz.func71, Tryz.ntmps71
  go_wp2_with fail
  refine hB.mono ?_
  rintro _ w1 ⟨rfl, hb1⟩
  have hb2 := bNew (bNewW w1 (.cells #[.bool false, .slice none 0 0] 114)) (.cells #[.bool false, .slice none 0 0] 114)
  have hb3 := bCall hb1 hb2
  clear hB
  go_wp2
  go_ret3
  exact ⟨rfl, hb3⟩
set_option maxRecDepth 100000 in
set_option maxHeartbeats 4000000 in
theorem Div_zero (x : Int) (w : World) (hx : Ig.fits x) :
    Calls Tryz.prog 71 #[.string ⟨(Lib.itoa x).toArray⟩, .string ⟨(Lib.itoa 0).toArray⟩] w fun e w' => e = .returned (.tuple #[.string ⟨#[]⟩, .string ⟨#[]⟩, .int .i64 30]) ∧ Below w.heap.size w w' := by
  have hB := both_any x 0 w hx (by unfold Ig.fits; decide)
  generalize decide (x < 0) = nx at *
  generalize x.natAbs = ax at *
  generalize Lib.itoa x = sx at *
  rw [show decide ((0 : Int) < 0) = false from rfl, show (0 : Int).natAbs = 0 from rfl] at hB
  generalize Lib.itoa 0 = sy at *
  clear hx
  go_enter Tryz.func71, Tryz.ntmps71
  go_wp2_with fail
  refine hB.mono ?_
  rintro _ w1 ⟨u, v, rfl, hu, hv, hb1⟩
  obtain ⟨A1, c1, rfl, -⟩ := id hu.out
  obtain ⟨A2, c2, rfl, -⟩ := id hv.out
  have hl : (Ig.grp 0).length = 0 := by rw [Ig.grp_zero]; rfl
  simp only [hl] at *
  clear hB
  have hb2 := bNew (bNewW w1 (.cells #[.bool nx, .slice A1 (Ig.grp ax).length c1] 114)) (.cells #[.bool false, .slice A2 0 c2] 114)
  have hb3 := bCall hb1 hb2
  go_wp2
  go_ret3
  exact ⟨rfl, hb3⟩
set_option maxRecDepth 100000 in
set_option maxHeartbeats 8000000 in
theorem Div_any (x y : Int) (w : World) (hx : Ig.fits x) (hy : Ig.fits y) (hy0 : y ≠ 0) (hE : Env w) :
    Calls Tryz.prog 71 #[.string ⟨(Lib.itoa x).toArray⟩, .string ⟨(Lib.itoa y).toArray⟩] w fun e w' => e = .returned (.tuple #[.string ⟨(Lib.itoa (x / y)).toArray⟩, .string ⟨(Lib.itoa (x % y)).toArray⟩, .int .i64 0]) ∧ Below w.heap.size w w' := by
  have hB := both_any x y w hx hy
  have lx := Ig.fits_len hx
  have ly := Ig.fits_len hy
  have fq := fits_div y hx
  have fr := fits_mod x hy0 hy
  have hay : 0 < y.natAbs := by omega
  have k1 : decide (x < 0) = false ∨ x.natAbs % y.natAbs = 0 → Kp (Ig.resS (sgn (decide (x < 0) != decide (y < 0)) (x.natAbs / y.natAbs)) = Lib.itoa (x / y) ∧ Ig.resE (sgn (decide (x < 0) != decide (y < 0)) (x.natAbs / y.natAbs)) = 0 ∧ Ig.resS (sgn false (x.natAbs % y.natAbs)) = Lib.itoa (x % y) ∧ Ig.resE (sgn false (x.natAbs % y.natAbs)) = 0) := fun h => ⟨by
    have h1 := div_keep hy0 h
    rw [h1.1, show sgn false (x.natAbs % y.natAbs) = x % y from h1.2]
    exact ⟨Ig.resS_fits fq, Ig.resE_fits fq, Ig.resS_fits fr, Ig.resE_fits fr⟩⟩
  have k2 : decide (x < 0) = true → x.natAbs % y.natAbs ≠ 0 → Kp (Ig.resS (sgn (decide (x < 0) != decide (y < 0)) (x.natAbs / y.natAbs + 1)) = Lib.itoa (x / y) ∧ Ig.resE (sgn (decide (x < 0) != decide (y < 0)) (x.natAbs / y.natAbs + 1)) = 0 ∧ Ig.resS (sgn false (y.natAbs - x.natAbs % y.natAbs)) = Lib.itoa (x % y) ∧ Ig.resE (sgn false (y.natAbs - x.natAbs % y.natAbs)) = 0) := fun h h' => ⟨by
    have h1 := div_turn hy0 h h'
    rw [h1.1, show sgn false (y.natAbs - x.natAbs % y.natAbs) = x % y from h1.2]
    exact ⟨Ig.resS_fits fq, Ig.resE_fits fq, Ig.resS_fits fr, Ig.resE_fits fr⟩⟩
  clear fq fr
  generalize Lib.itoa (x / y) = SQ at *
  generalize Lib.itoa (x % y) = SR at *
  generalize decide (x < 0) = nx at *
  generalize decide (y < 0) = ny at *
  generalize x.natAbs = ax at *
  generalize y.natAbs = ay at *
  generalize Lib.itoa x = sx at *
  generalize Lib.itoa y = sy at *
  clear hx hy hy0
  have lq : (Ig.grp (ax / ay)).length ≤ 50 := Ig.grp_len_of lx (Nat.div_le_self _ _)
  have lq1 : (Ig.grp (ax / ay + 1)).length ≤ 50 + 1 := Ig.grp_add_len lq (by rw [grp_one]; decide)
  have lr : (Ig.grp (ax % ay)).length ≤ 50 := Ig.grp_len_of lx (Nat.mod_le _ _)
  have lr1 : (Ig.grp (ay - ax % ay)).length ≤ 50 := Ig.grp_len_of ly (Nat.sub_le _ _)
  have hrle : ax % ay ≤ ay := Nat.le_of_lt (Nat.mod_lt _ hay)
  have hly : (Ig.grp ay).length ≠ 0 := fun e => by have := Ig.grp_eq_nil.1 e; omega
  go_enter Tryz.func71, Tryz.ntmps71
  go_wp2_with fail
  refine hB.mono ?_
  rintro _ w1 ⟨u, v, rfl, hu, hv, hb1⟩
  obtain ⟨A1, c1, rfl, -⟩ := id hu.out
  obtain ⟨A2, c2, rfl, -⟩ := id hv.out
  clear hB
  have hb2 := bNew (bNewW w1 (.cells #[.bool nx, .slice A1 (Ig.grp ax).length c1] 114)) (.cells #[.bool ny, .slice A2 (Ig.grp ay).length c2] 114)
  have B1 := (Bx.mk w1 114 #[.bool nx, .slice A1 (Ig.grp ax).length c1]).new (.cells #[.bool ny, .slice A2 (Ig.grp ay).length c2] 114)
  have B2 := Bx.mk (w1.alloc (.cells #[.bool nx, .slice A1 (Ig.grp ax).length c1] 114)) 114 #[.bool ny, .slice A2 (Ig.grp ay).length c2]
  rw [alloc_size] at B2
  have t0 : decide (((Ig.grp ay).length : Int) = 0) = false := decide_eq_false (by omega)
  have t1 : (((Ig.grp ay).length : Int) == 0) = false := beq_eq_false_iff_ne.2 (by omega)
  go_wp2_with fail
  clear t0 t1
  replace hu := hu.call hb2
  replace hv := hv.call hb2
  replace hb1 := bCall hb1 hb2
  have hO := over_any ax ay _ _ _ hu hv hay (by omega) (by omega)
  generalize hg : ((w1.alloc (.cells #[.bool nx, .slice A1 (Ig.grp ax).length c1] 114)).alloc (.cells #[.bool ny, .slice A2 (Ig.grp ay).length c2] 114)) = W0 at *
  clear hg hb2
  refine hO.mono ?_
  rintro _ W1 ⟨q, r, rfl, hq, hr, hb3⟩
  clear hO
  obtain ⟨A3, c3, rfl, -⟩ := id hq.out
  obtain ⟨A4, c4, rfl, -⟩ := id hr.out
  replace B1 := B1.call hb3
  replace B2 := B2.call hb3
  replace hv := hv.call hb3
  replace hb1 := bCall hb1 hb3
  have hE1 := hE.below hb1
  have p0 := B1.cell 0 rfl
  have p2 := B2.cell 0 rfl
  clear hb3 hu hE
  cases nx
  · have hk := k1 (.inl rfl)
    clear k1 k2
    cases ny
    · go_wp2_with fail
      have hT1 := text_any false (ax / ay) _ W1 hq (by omega) hE1
      have hk1 : Ig.resS (sgn false (ax / ay)) = SQ := hk.out.1
      have hk2 : Ig.resE (sgn false (ax / ay)) = 0 := hk.out.2.1
      rw [hk1, hk2] at hT1
      refine hT1.mono ?_
      rintro _ w6 ⟨rfl, hb6⟩
      have hr6 := hr.call hb6
      have hE6 := hE1.below hb6
      have hb7 := bCall hb1 hb6
      have hT2 := text_any false (ax % ay) _ w6 hr6 (by first | omega | (rw [hn4.out]; omega)) hE6
      rw [hk.out.2.2.1, hk.out.2.2.2] at hT2
      clear hT1 hk hk1 hk2
      go_wp2_with fail
      refine hT2.mono ?_
      rintro _ w7 ⟨rfl, hb8⟩
      clear hT2
      go_wp2
      go_ret3
      exact ⟨rfl, bCall hb7 hb8⟩
    · go_wp2_with fail
      have hT1 := text_any true (ax / ay) _ W1 hq (by omega) hE1
      have hk1 : Ig.resS (sgn true (ax / ay)) = SQ := hk.out.1
      have hk2 : Ig.resE (sgn true (ax / ay)) = 0 := hk.out.2.1
      rw [hk1, hk2] at hT1
      refine hT1.mono ?_
      rintro _ w6 ⟨rfl, hb6⟩
      have hr6 := hr.call hb6
      have hE6 := hE1.below hb6
      have hb7 := bCall hb1 hb6
      have hT2 := text_any false (ax % ay) _ w6 hr6 (by first | omega | (rw [hn4.out]; omega)) hE6
      rw [hk.out.2.2.1, hk.out.2.2.2] at hT2
      clear hT1 hk hk1 hk2
      go_wp2_with fail
      refine hT2.mono ?_
      rintro _ w7 ⟨rfl, hb8⟩
      clear hT2
      go_wp2
      go_ret3
      exact ⟨rfl, bCall hb7 hb8⟩
  · by_cases hr0 : ax % ay = 0
    · have hk := k1 (.inr hr0)
      have hl0 : ((Ig.grp (ax % ay)).length : Int) = 0 := by rw [hr0, Ig.grp_zero]; rfl
      have t0 : decide (0 < (Ig.grp (ax % ay)).length) = false := decide_eq_false (by omega)
      clear k1 k2 hl0 hr0
      generalize hn4 : (Ig.grp (ax % ay)).length = n4 at *
      replace hn4 := Kp.mk hn4
      cases ny
      · go_wp2_with fail
        have hT1 := text_any true (ax / ay) _ W1 hq (by omega) hE1
        have hk1 : Ig.resS (sgn true (ax / ay)) = SQ := hk.out.1
        have hk2 : Ig.resE (sgn true (ax / ay)) = 0 := hk.out.2.1
        rw [hk1, hk2] at hT1
        refine hT1.mono ?_
        rintro _ w6 ⟨rfl, hb6⟩
        have hr6 := hr.call hb6
        have hE6 := hE1.below hb6
        have hb7 := bCall hb1 hb6
        have hT2 := text_any false (ax % ay) _ w6 hr6 (by first | omega | (rw [hn4.out]; omega)) hE6
        rw [hk.out.2.2.1, hk.out.2.2.2] at hT2
        clear hT1 hk hk1 hk2
        go_wp2_with fail
        refine hT2.mono ?_
        rintro _ w7 ⟨rfl, hb8⟩
        clear hT2
        go_wp2
        go_ret3
        exact ⟨rfl, bCall hb7 hb8⟩
      · go_wp2_with fail
        have hT1 := text_any false (ax / ay) _ W1 hq (by omega) hE1
        have hk1 : Ig.resS (sgn false (ax / ay)) = SQ := hk.out.1
        have hk2 : Ig.resE (sgn false (ax / ay)) = 0 := hk.out.2.1
        rw [hk1, hk2] at hT1
        refine hT1.mono ?_
        rintro _ w6 ⟨rfl, hb6⟩
        have hr6 := hr.call hb6
        have hE6 := hE1.below hb6
        have hb7 := bCall hb1 hb6
        have hT2 := text_any false (ax % ay) _ w6 hr6 (by first | omega | (rw [hn4.out]; omega)) hE6
        rw [hk.out.2.2.1, hk.out.2.2.2] at hT2
        clear hT1 hk hk1 hk2
        go_wp2_with fail
        refine hT2.mono ?_
        rintro _ w7 ⟨rfl, hb8⟩
        clear hT2
        go_wp2
        go_ret3
        exact ⟨rfl, bCall hb7 hb8⟩
    · have hk := k2 rfl hr0
      have hl0 : (Ig.grp (ax % ay)).length ≠ 0 := fun e => hr0 (Ig.grp_eq_nil.1 e)
      have t0 : decide (0 < (Ig.grp (ax % ay)).length) = true := decide_eq_true (by omega)
      clear k1 k2 hl0 hr0
      generalize hn4 : (Ig.grp (ax % ay)).length = n4 at *
      replace hn4 := Kp.mk hn4
      go_wp2_with fail
      clear t0
      have hly' := Kp.mk ly
      have hlq' := Kp.mk lq
      have p1 := fun w2 (hb2 : Below W1.heap.size W1 w2) => (hb2.cell (p := ⟨w1.heap.size + 1, 1, none⟩) B2.lt).trans (B2.cell 1 rfl)
      refine wp_region_rgl [Eqv (.slice A3 (Ig.grp (ax / ay)).length c3), (fun v W => NumAt W 1 v), (fun v W => NumAt W (ax / ay + 1) v), Eqv (.pointer (some ⟨w1.heap.size + 1, 1, none⟩)), Eqv (.slice A2 (Ig.grp ay).length c2), Eqv (.slice A4 n4 c4), (fun v W => NumAt W (ay - ax % ay) v)] 7 75 (by kernel_rfl) rfl rfl (by kernel_rfl) ?_ ?_ ?_
      · simp only [AllS]
        exact ⟨stab_eqv _, fun v w w' h hb => h.call hb, fun v w w' h hb => h.call hb, stab_eqv _, stab_eqv _, stab_eqv _, fun v w w' h hb => h.call hb, trivial⟩
      · simp only [Users, List.take, List.length]
        refine ⟨?_, ?_, ?_, ?_, ?_, ?_, ?_, trivial⟩
        all_goals (intro vs w2 hb2 hd; have c5 := p1 w2 hb2; have hq2 := hq.call hb2; have hr2 := hr.call hb2; have hv2 := hv.call hb2; clear p1; simp only [putD, Act.put, List.nil_append, List.cons_append, List.setIfInBounds_toArray, List.set_cons_succ, List.set_cons_zero, Nat.reduceAdd])
        · clear hd; go_wp2; exact ⟨Below.refl _ _, rfl⟩
        · clear hd
          have hC := one_any w2
          go_wp2_with fail
          refine hC.mono ?_
          clear hC
          rintro _ w9 ⟨v9, rfl, hn9, hb9⟩
          go_wp2
          exact hn9
        · have e := hd 0 rfl; change vs 0 = _ at e
          have e' : NumAt w2 1 (vs 1) := hd 1 rfl
          clear hd; rw [e]
          have hC := plus_any (ax / ay) 1 _ (vs 1) w2 hq2 e' (by omega) (by rw [grp_one]; decide)
          go_wp2_with fail
          refine hC.mono ?_
          clear hC
          rintro _ w9 ⟨v9, rfl, hn9, hb9⟩
          go_wp2
          exact hn9
        · clear hd; go_wp2; exact ⟨Below.refl _ _, rfl⟩
        · have e := hd 3 rfl; change vs 3 = _ at e; clear hd; rw [e]; go_wp2; exact ⟨Below.refl _ _, rfl⟩
        · clear hd; go_wp2; exact ⟨Below.refl _ _, rfl⟩
        · have e := hd 4 rfl; change vs 4 = _ at e
          have e' := hd 5 rfl; change vs 5 = _ at e'
          clear hd; rw [e, e']
          have hC := minus_any ay (ax % ay) _ _ w2 hv2 hr2 hrle (by omega)
          go_wp2_with fail
          refine hC.mono ?_
          clear hC
          rintro _ w9 ⟨v9, rfl, hn9, hb9⟩
          go_wp2
          exact hn9
      · clear p1
        intro vs wa hba hR
        simp only [AllR, Eqv] at hR
        obtain ⟨-, -, e2, -, -, -, e6, -⟩ := hR
        simp only [List.drop, List.take, List.map, putD, Act.put, List.setIfInBounds_toArray, List.set_cons_succ, List.set_cons_zero, Nat.reduceAdd]
        generalize vs 2 = z2 at *
        generalize vs 6 = z6 at *
        generalize vs 0 = z0, vs 1 = z1, vs 3 = z3, vs 4 = z4, vs 5 = z5
        obtain ⟨A7, c7, rfl, -⟩ := id e2.out
        obtain ⟨A8, c8, rfl, -⟩ := id e6.out
        replace B1 := B1.call hba
        replace B2 := B2.call hba
        have p0 := B1.cell 0 rfl
        have p2 := B2.cell 0 rfl
        replace hb1 := bCall hb1 hba
        replace hE1 := hE1.below hba
        clear hba
        cases ny
        · go_wp2_with fail
          have hT1 := text_any true (ax / ay + 1) _ wa e2 (by omega) hE1
          have hk1 : Ig.resS (sgn true (ax / ay + 1)) = SQ := hk.out.1
          have hk2 : Ig.resE (sgn true (ax / ay + 1)) = 0 := hk.out.2.1
          rw [hk1, hk2] at hT1
          refine hT1.mono ?_
          rintro _ w6 ⟨rfl, hb6⟩
          have hr6 := e6.call hb6
          have hE6 := hE1.below hb6
          have hb7 := bCall hb1 hb6
          have hT2 := text_any false (ay - ax % ay) _ w6 hr6 (by first | omega | (rw [hn4.out]; omega)) hE6
          rw [hk.out.2.2.1, hk.out.2.2.2] at hT2
          clear hT1 hk hk1 hk2
          go_wp2_with fail
          refine hT2.mono ?_
          rintro _ w7 ⟨rfl, hb8⟩
          clear hT2
          go_wp2
          go_ret3
          exact ⟨rfl, bCall hb7 hb8⟩
        · go_wp2_with fail
          have hT1 := text_any false (ax / ay + 1) _ wa e2 (by omega) hE1
          have hk1 : Ig.resS (sgn false (ax / ay + 1)) = SQ := hk.out.1
          have hk2 : Ig.resE (sgn false (ax / ay + 1)) = 0 := hk.out.2.1
          rw [hk1, hk2] at hT1
          refine hT1.mono ?_
          rintro _ w6 ⟨rfl, hb6⟩
          have hr6 := e6.call hb6
          have hE6 := hE1.below hb6
          have hb7 := bCall hb1 hb6
          have hT2 := text_any false (ay - ax % ay) _ w6 hr6 (by first | omega | (rw [hn4.out]; omega)) hE6
          rw [hk.out.2.2.1, hk.out.2.2.2] at hT2
          clear hT1 hk hk1 hk2
          go_wp2_with fail
          refine hT2.mono ?_
          rintro _ w7 ⟨rfl, hb8⟩
          clear hT2
          go_wp2
          go_ret3
          exact ⟨rfl, bCall hb7 hb8⟩
end Go.Proofs.YtfebcokmnhdbmaaGreatDoor
namespace Go.Proofs.YtfebcokmnhdbmaaGreatDoor
set_option linter.unusedVariables false
set_option linter.unusedSimpArgs false
open Go.RowKit Go.Shelf
theorem FromInt_any (n : Int) (w : World) (h0 : -9223372036854775808 ≤ n) (h1 : n ≤ 9223372036854775807) (hE : Env w) :
    Calls Tryz.prog 42 #[.int .i64 n] w fun e w' => e = .returned (.string ⟨(Lib.itoa n).toArray⟩) ∧ Below w.heap.size w w' := by
  have hC := Itoa_any n w h0 h1 hE
  go_enter Tryz.func42, Tryz.ntmps42
  go_wp2_with fail
  refine hC.mono ?_
  rintro _ w1 ⟨rfl, hb⟩
  clear hC
  go_wp2
  go_ret
  exact ⟨rfl, hb⟩
end Go.Proofs.YtfebcokmnhdbmaaGreatDoor
namespace Rq
/-- what is left when both are divided by their greatest common divisor -/
theorem red_fits {n d : Int} (hd : d ≠ 0) (hn : Ig.fits n) (hf : Ig.fits d) : Fq (Rat.divInt n d) := by
  have key : ∀ {n d : Int}, 0 < d → Ig.fits n → Ig.fits d → Fq (Rat.divInt n d) := fun {n d} h hn hf => by
    have h1 := make_pos (n := n) h
    refine ⟨?_, ?_⟩
    · rw [h1.1]; exact Go.Proofs.YtfebcokmnhdbmaaGreatDoor.fits_div _ hn
    · rw [h1.2]; exact Go.Proofs.YtfebcokmnhdbmaaGreatDoor.fits_div _ hf
  have hneg : ∀ {z : Int}, Ig.fits z → Ig.fits (0 - z) := fun h => by unfold Ig.fits at *; omega
  by_cases h : 0 < d
  · exact key h hn hf
  · rw [make_neg]
    exact key (by omega) (hneg hn) (hneg hf)
end Rq
namespace Go.Proofs.YtfebcokmnhdbmaaGreatDoor
set_option linter.unusedVariables false
set_option linter.unusedSimpArgs false
open Go.RowKit Go.Shelf
/-- no fraction -/
def QZ : Value := .agg #[.string ⟨#[]⟩, .string ⟨#[]⟩]
set_option maxRecDepth 100000 in
set_option maxHeartbeats 1000000 in
theorem quo_good (x y : Int) (w0 W : World) (g : Nat) (hx : Ig.fits x) (hy : Ig.fits y) (hy0 : y ≠ 0) (hE : Env w0) (h : Wk w0 W g false) :
    Calls Tryz.prog 111 #[.pointer (some ⟨g, 0, none⟩), .string ⟨(Lib.itoa x).toArray⟩, .string ⟨(Lib.itoa y).toArray⟩] W fun e w' => e = .returned (.string ⟨(Lib.itoa (x / y)).toArray⟩) ∧ Wk w0 w' g false ∧ Ks g W w' := by
  have hop : ∀ W', Below w0.heap.size w0 W' → Calls Tryz.prog 142 #[.string ⟨(Lib.itoa x).toArray⟩, .string ⟨(Lib.itoa y).toArray⟩] W' fun e' w' => e' = .returned (.tuple #[.string ⟨(Lib.itoa (x / y)).toArray⟩, .int .i64 0]) ∧ Below W'.heap.size W' w' := by
    intro W' hb
    have hD := Div_any x y W' hx hy hy0 (hE.below hb)
    clear h hx hy
    generalize Lib.itoa (x / y) = q at *
    generalize Lib.itoa (x % y) = r at *
    generalize Lib.itoa x = sx at *
    generalize Lib.itoa y = sy at *
    clear hb hE hy0
    go_enter Tryz.func142, Tryz.ntmps142
    go_wp2_with fail
    refine hD.mono ?_
    rintro _ w1 ⟨rfl, hb1⟩
    clear hD
    go_wp2
    go_ret2
    exact ⟨rfl, hb1⟩
  have hD := doQuo_good _ _ _ 0 w0 W g h hop
  clear hop h hx hy hy0
  generalize Lib.itoa (x / y) = q at *
  generalize Lib.itoa x = sx at *
  generalize Lib.itoa y = sy at *
  go_enter Tryz.func111, Tryz.ntmps111
  go_wp2_with fail
  refine hD.mono ?_
  rintro _ w1 ⟨rfl, hw, hk⟩
  clear hD
  go_wp2
  go_ret
  exact ⟨rfl, hw, hk⟩
/-- a product, in a calculation that is good: what it is, and whether it fits -/
theorem mul_res (x y : Int) (w0 W : World) (g : Nat) (hx : Ig.fits x) (hy : Ig.fits y) (hE : Env w0) (h : Wk w0 W g false) :
    Calls Tryz.prog 85 #[.pointer (some ⟨g, 0, none⟩), .string ⟨(Lib.itoa x).toArray⟩, .string ⟨(Lib.itoa y).toArray⟩] W fun e w' => e = .returned (.string ⟨(Ig.resS (x * y)).toArray⟩) ∧ Wk w0 w' g (Ig.resE (x * y) != 0) ∧ Ks g W w' := by
  have hD := doMul_good _ _ _ _ w0 W g h (fun W' hb => Mul_any x y W' hx hy (hE.below hb))
  clear h hx hy
  generalize Ig.resS (x * y) = p at *
  generalize Ig.resE (x * y) = e at *
  generalize Lib.itoa x = sx at *
  generalize Lib.itoa y = sy at *
  go_enter Tryz.func85, Tryz.ntmps85
  go_wp2_with fail
  refine hD.mono ?_
  rintro _ w1 ⟨rfl, hw, hk⟩
  clear hD
  go_wp2
  go_ret
  exact ⟨rfl, hw, hk⟩
theorem mul_good (x y : Int) (w0 W : World) (g : Nat) (hx : Ig.fits x) (hy : Ig.fits y) (hxy : Ig.fits (x * y)) (hE : Env w0) (h : Wk w0 W g false) :
    Calls Tryz.prog 85 #[.pointer (some ⟨g, 0, none⟩), .string ⟨(Lib.itoa x).toArray⟩, .string ⟨(Lib.itoa y).toArray⟩] W fun e w' => e = .returned (.string ⟨(Lib.itoa (x * y)).toArray⟩) ∧ Wk w0 w' g false ∧ Ks g W w' := by
  have h1 := mul_res x y w0 W g hx hy hE h
  rw [Ig.resS_fits hxy, Ig.resE_fits hxy] at h1
  exact h1
theorem mul_over (x y : Int) (w0 W : World) (g : Nat) (hx : Ig.fits x) (hy : Ig.fits y) (hxy : ¬ Ig.fits (x * y)) (hE : Env w0) (h : Wk w0 W g false) :
    Calls Tryz.prog 85 #[.pointer (some ⟨g, 0, none⟩), .string ⟨(Lib.itoa x).toArray⟩, .string ⟨(Lib.itoa y).toArray⟩] W fun e w' => e = .returned (.string ⟨#[]⟩) ∧ Wk w0 w' g true ∧ Ks g W w' := by
  have h1 := mul_res x y w0 W g hx hy hE h
  rw [Ig.resS_not hxy, Ig.resE_not hxy] at h1
  exact h1
theorem results_Q {fn : Func} {t u : Tmp} {g : Nat} {n d : ByteArray} {e : Value} (h : fn.results = #[.cell t 44, .tmp u]) (tmps : Array Value) (w : World) (ht : tmps.getD t undef = .pointer (some ⟨g, 0, none⟩)) (hu : tmps.getD u undef = e) (hB : Bx w g 44 #[.string n, .string d]) :
    (results fn tmps).run Tryz.prog w = .ok (.tuple #[.agg #[.string n, .string d], e]) w := by
  have h0 := hB.cell 0 rfl
  have h1 := hB.cell 1 rfl
  have ht' : tmps[t]?.getD undef = .pointer (some ⟨g, 0, none⟩) := by simpa using ht
  have hu' : tmps[u]?.getD undef = e := by simpa using hu
  simp only [results, h]
  simp [go_sem, ht', hu', h0, h1, loadVar]
/-- the result's place, made, and then filled -/
structure Rs (w0 W : World) (g gr : Nat) (bad : Bool) (n d : ByteArray) : Prop where
  wk : Wk w0 W g bad
  ne : g ≠ gr
  ge : w0.heap.size ≤ gr
  bx : Bx W gr 44 #[.string n, .string d]
section
variable {w0 W W' : World} {g gr : Nat} {bad : Bool} {n d : ByteArray}
theorem Rs.mk' (h : Wk w0 W g bad) : Rs w0 (W.alloc (.cells #[.string n, .string d] 44)) g W.heap.size bad n d :=
  ⟨h.call (bNewW W _), Nat.ne_of_lt h.bx.lt, h.hb.size, Bx.mk _ _ _⟩
theorem Rs.step (h : Rs w0 W g gr bad n d) {b : Bool} (hw : Wk w0 W' g b) (hk : Ks g W W') : Rs w0 W' g gr b n d := ⟨hw, h.ne, h.ge, h.bx.ks hk (fun e => h.ne e.symm)⟩
theorem Rs.call (h : Rs w0 W g gr bad n d) (hb : Below W.heap.size W W') : Rs w0 W' g gr bad n d := ⟨h.wk.call hb, h.ne, h.ge, h.bx.call hb⟩
theorem Rs.set (h : Rs w0 W g gr bad n d) (n' d' : ByteArray) : Rs w0 ((W.setCell ⟨gr, 0, none⟩ (.string n')).setCell ⟨gr, 1, none⟩ (.string d')) g gr bad n' d' := by
  refine ⟨(h.wk.far (p := ⟨gr, 0, none⟩) h.ne h.ge _).far (p := ⟨gr, 1, none⟩) h.ne h.ge _, h.ne, h.ge, ?_⟩
  have := (h.bx.set 0 (.string n')).set 1 (.string d')
  simpa using this
end
set_option maxRecDepth 100000 in
set_option maxHeartbeats 1000000 in
theorem reduced_bad (n d : List UInt8) (w0 W : World) (g : Nat) (h : Wk w0 W g true) :
    Calls Tryz.prog 86 #[.pointer (some ⟨g, 0, none⟩), .string ⟨n.toArray⟩, .string ⟨d.toArray⟩] W fun e w' => e = .returned (.tuple #[QZ, .int .i64 40]) ∧ Below w0.heap.size w0 w' := by
  unfold QZ
  have h0 := Rs.mk' (n := ⟨#[]⟩) (d := ⟨#[]⟩) h
  have hc := h0.wk.cell
  have f0 := h0.bx.frozen 0
  have f1 := h0.bx.frozen 1
  clear h
  go_enter Tryz.func86, Tryz.ntmps86
  go_wp2
  refine bodyPost_ret (results_Q rfl _ _ rfl rfl h0.bx) rfl ⟨rfl, h0.wk.hb⟩
set_option maxRecDepth 100000 in
set_option maxHeartbeats 1000000 in
theorem reduced_zero (n : List UInt8) (w0 W : World) (g : Nat) (h : Wk w0 W g false) :
    Calls Tryz.prog 86 #[.pointer (some ⟨g, 0, none⟩), .string ⟨n.toArray⟩, .string ⟨#[48]⟩] W fun e w' => e = .returned (.tuple #[QZ, .int .i64 40]) ∧ Below w0.heap.size w0 w' := by
  unfold QZ
  have h0 := Rs.mk' (n := ⟨#[]⟩) (d := ⟨#[]⟩) h
  have hc := h0.wk.cell
  have f0 := h0.bx.frozen 0
  have f1 := h0.bx.frozen 1
  clear h
  go_enter Tryz.func86, Tryz.ntmps86
  go_wp2
  refine bodyPost_ret (results_Q rfl _ _ rfl rfl h0.bx) rfl ⟨rfl, h0.wk.hb⟩
/-- both parts of a fraction that a calculation has made good -/
theorem fits_gcd_ne {n d : Int} (hd : d ≠ 0) : ((Nat.gcd n.natAbs d.natAbs : Nat) : Int) ≠ 0 := by
  intro h
  have := Nat.eq_zero_of_gcd_eq_zero_right (show Nat.gcd n.natAbs d.natAbs = 0 by omega)
  omega
set_option maxRecDepth 100000 in
set_option maxHeartbeats 4000000 in
theorem reduced_pos (n d : Int) (w0 W : World) (g : Nat) (hn : Ig.fits n) (hf : Ig.fits d) (hd : 0 < d) (hE : Env w0) (h : Wk w0 W g false) :
    Calls Tryz.prog 86 #[.pointer (some ⟨g, 0, none⟩), .string ⟨(Lib.itoa n).toArray⟩, .string ⟨(Lib.itoa d).toArray⟩] W fun e w' => e = .returned (.tuple #[QV (Rat.divInt n d), .int .i64 0]) ∧ Below w0.heap.size w0 w' := by
  unfold QV
  have e := Rq.make_pos (n := n) hd
  rw [e.1, e.2]
  have h0 := Rs.mk' (n := ⟨#[]⟩) (d := ⟨#[]⟩) h
  have hc := h0.wk.cell
  have hne : (Lib.itoa d == [48]) = false := by rw [itoa_is0]; exact decide_eq_false (by omega)
  have hC := fun w1 => Compare_any d 0 w1 hf fits_0
  rw [itoa_0] at hC
  have hlt : decide (cmpZ d 0 < 0) = false := decide_eq_false (by unfold cmpZ; rw [if_neg (by omega), if_pos (by omega)]; decide)
  have hG := fun w1 hw => doGcd_good _ _ _ 0 w0 w1 g hw (fun W' hb => Gcd_any n d W' hn hf (hE.below hb))
  have hg := fits_gcd hn hf
  have hg0 := fits_gcd_ne (n := n) (d := d) (by omega)
  have hQ1 := fun w1 hw => quo_good n _ w0 w1 g hn hg hg0 hE hw
  have hQ2 := fun w1 hw => quo_good d _ w0 w1 g hf hg hg0 hE hw
  generalize cmpZ d 0 = cc at *
  generalize ((Nat.gcd n.natAbs d.natAbs : Nat) : Int) = gg at *
  generalize Lib.itoa (n / gg) = sn at *
  generalize Lib.itoa (d / gg) = sd at *
  generalize Lib.itoa gg = sg at *
  generalize Lib.itoa n = sn0 at *
  generalize Lib.itoa d = sd0 at *
  clear e hn hf hd hg hg0 h
  go_enter Tryz.func86, Tryz.ntmps86
  go_wp2_with fail
  refine (hC _).mono ?_
  rintro _ w1 ⟨rfl, hb1⟩
  have h1 := h0.call hb1
  clear hC h0 hc hb1
  go_wp2_with fail
  refine (hG _ h1.wk).mono ?_
  rintro _ w2 ⟨rfl, hw2, hk2⟩
  have h2 := h1.step hw2 hk2
  clear hG h1 hw2 hk2
  go_wp2_with fail
  refine (hQ1 _ h2.wk).mono ?_
  rintro _ w3 ⟨rfl, hw3, hk3⟩
  have h3 := h2.step hw3 hk3
  clear hQ1 h2 hw3 hk3
  go_wp2_with fail
  refine (hQ2 _ h3.wk).mono ?_
  rintro _ w4 ⟨rfl, hw4, hk4⟩
  have h4 := h3.step hw4 hk4
  clear hQ2 h3 hw4 hk4
  have h5 := h4.call (bNewW w4 (.cells #[.string ⟨sn.toArray⟩, .string ⟨sd.toArray⟩] 44))
  have B5 := Bx.mk w4 44 #[.string ⟨sn.toArray⟩, .string ⟨sd.toArray⟩]
  have c0 := B5.cell 0 rfl
  have c1 := B5.cell 1 rfl
  have hc5 := h5.wk.cell
  have r0 := h5.bx.cell 0 rfl
  have r1 := h5.bx.cell 1 rfl
  have f0 := h5.bx.frozen 0
  have f1 := h5.bx.frozen 1
  have h6 := h5.set ⟨sn.toArray⟩ ⟨sd.toArray⟩
  clear h4
  go_wp2
  refine bodyPost_ret (results_Q rfl _ _ rfl rfl h6.bx) rfl ⟨rfl, h6.wk.hb⟩
set_option maxRecDepth 100000 in
set_option maxHeartbeats 4000000 in
theorem reduced_neg (n d : Int) (w0 W : World) (g : Nat) (hn : Ig.fits n) (hf : Ig.fits d) (hd : d < 0) (hE : Env w0) (h : Wk w0 W g false) :
    Calls Tryz.prog 86 #[.pointer (some ⟨g, 0, none⟩), .string ⟨(Lib.itoa n).toArray⟩, .string ⟨(Lib.itoa d).toArray⟩] W fun e w' => e = .returned (.tuple #[QV (Rat.divInt n d), .int .i64 0]) ∧ Below w0.heap.size w0 w' := by
  unfold QV
  have hneg : ∀ {z : Int}, Ig.fits z → Ig.fits (0 - z) := fun h => by unfold Ig.fits at *; omega
  have hS1 := fun w1 hw => doSub_good _ _ _ _ w0 w1 g hw (fun W' hb => Sub_any 0 n W' fits_0 hn (hE.below hb))
  have hS2 := fun w1 hw => doSub_good _ _ _ _ w0 w1 g hw (fun W' hb => Sub_any 0 d W' fits_0 hf (hE.below hb))
  rw [Ig.resS_fits (hneg hn), Ig.resE_fits (hneg hn), itoa_0] at hS1
  rw [Ig.resS_fits (hneg hf), Ig.resE_fits (hneg hf), itoa_0] at hS2
  have hlt : decide (cmpZ d 0 < 0) = true := decide_eq_true (by unfold cmpZ; rw [if_pos (by omega)]; decide)
  have hne : (Lib.itoa d == [48]) = false := by rw [itoa_is0]; exact decide_eq_false (by omega)
  have hC := fun w1 => Compare_any d 0 w1 hf fits_0
  rw [itoa_0] at hC
  generalize cmpZ d 0 = cc at *
  rw [Rq.make_neg]
  replace hn := hneg hn
  replace hf := hneg hf
  clear hneg
  generalize Lib.itoa n = so at *
  generalize Lib.itoa d = sp at *
  obtain ⟨n, rfl⟩ : ∃ n', n = 0 - n' := ⟨0 - n, by omega⟩
  obtain ⟨d, rfl⟩ : ∃ d', d = 0 - d' := ⟨0 - d, by omega⟩
  rw [show 0 - (0 - n) = n by omega] at *
  rw [show 0 - (0 - d) = d by omega] at *
  replace hd : 0 < d := by omega
  have e := Rq.make_pos (n := n) hd
  rw [e.1, e.2]
  have h0 := Rs.mk' (n := ⟨#[]⟩) (d := ⟨#[]⟩) h
  have hc := h0.wk.cell
  have hG := fun w1 hw => doGcd_good _ _ _ 0 w0 w1 g hw (fun W' hb => Gcd_any n d W' hn hf (hE.below hb))
  have hg := fits_gcd hn hf
  have hg0 := fits_gcd_ne (n := n) (d := d) (by omega)
  have hQ1 := fun w1 hw => quo_good n _ w0 w1 g hn hg hg0 hE hw
  have hQ2 := fun w1 hw => quo_good d _ w0 w1 g hf hg hg0 hE hw
  generalize ((Nat.gcd n.natAbs d.natAbs : Nat) : Int) = gg at *
  generalize Lib.itoa (n / gg) = sn at *
  generalize Lib.itoa (d / gg) = sd at *
  generalize Lib.itoa gg = sg at *
  generalize Lib.itoa n = sn0 at *
  generalize Lib.itoa d = sd0 at *
  clear e hn hf hd hg hg0 h
  go_enter Tryz.func86, Tryz.ntmps86
  go_wp2_with fail
  refine (hC _).mono ?_
  rintro _ w1 ⟨rfl, hb1⟩
  have h1 := h0.call hb1
  clear hC h0 hc hb1
  go_wp2_with fail
  refine (hS1 _ h1.wk).mono ?_
  rintro _ wa ⟨rfl, hwa, hka⟩
  replace h1 := h1.step hwa hka
  clear hS1 hwa hka
  go_wp2_with fail
  refine (hS2 _ h1.wk).mono ?_
  rintro _ wb ⟨rfl, hwb, hkb⟩
  replace h1 := h1.step hwb hkb
  clear hS2 hwb hkb
  go_wp2_with fail
  refine (hG _ h1.wk).mono ?_
  rintro _ w2 ⟨rfl, hw2, hk2⟩
  have h2 := h1.step hw2 hk2
  clear hG h1 hw2 hk2
  go_wp2_with fail
  refine (hQ1 _ h2.wk).mono ?_
  rintro _ w3 ⟨rfl, hw3, hk3⟩
  have h3 := h2.step hw3 hk3
  clear hQ1 h2 hw3 hk3
  go_wp2_with fail
  refine (hQ2 _ h3.wk).mono ?_
  rintro _ w4 ⟨rfl, hw4, hk4⟩
  have h4 := h3.step hw4 hk4
  clear hQ2 h3 hw4 hk4
  have h5 := h4.call (bNewW w4 (.cells #[.string ⟨sn.toArray⟩, .string ⟨sd.toArray⟩] 44))
  have B5 := Bx.mk w4 44 #[.string ⟨sn.toArray⟩, .string ⟨sd.toArray⟩]
  have c0 := B5.cell 0 rfl
  have c1 := B5.cell 1 rfl
  have hc5 := h5.wk.cell
  have r0 := h5.bx.cell 0 rfl
  have r1 := h5.bx.cell 1 rfl
  have f0 := h5.bx.frozen 0
  have f1 := h5.bx.frozen 1
  have h6 := h5.set ⟨sn.toArray⟩ ⟨sd.toArray⟩
  clear h4
  go_wp2
  refine bodyPost_ret (results_Q rfl _ _ rfl rfl h6.bx) rfl ⟨rfl, h6.wk.hb⟩
theorem reduced_good (n d : Int) (w0 W : World) (g : Nat) (hn : Ig.fits n) (hf : Ig.fits d) (hd : d ≠ 0) (hE : Env w0) (h : Wk w0 W g false) :
    Calls Tryz.prog 86 #[.pointer (some ⟨g, 0, none⟩), .string ⟨(Lib.itoa n).toArray⟩, .string ⟨(Lib.itoa d).toArray⟩] W fun e w' => e = .returned (.tuple #[QV (Rat.divInt n d), .int .i64 0]) ∧ Below w0.heap.size w0 w' := by
  by_cases h0 : 0 < d
  · exact reduced_pos n d w0 W g hn hf h0 hE h
  · exact reduced_neg n d w0 W g hn hf (by omega) hE h
end Go.Proofs.YtfebcokmnhdbmaaGreatDoor
namespace Go.Proofs.YtfebcokmnhdbmaaGreatDoor
set_option linter.unusedVariables false
set_option linter.unusedSimpArgs false
open Go.RowKit Go.Shelf
theorem Wk.new (w : World) (b : Bool) : Wk w (w.alloc (.cells #[.bool b] 108)) w.heap.size b := ⟨bNewW _ _, Nat.le_refl _, Bx.mk _ _ _⟩
set_option maxRecDepth 100000 in
set_option maxHeartbeats 2000000 in
theorem Make_ok (n d : Int) (w : World) (hn : Ig.fits n) (hf : Ig.fits d) (hd : d ≠ 0) (hE : Env w) :
    Calls Tryz.prog 79 #[.string ⟨(Lib.itoa n).toArray⟩, .string ⟨(Lib.itoa d).toArray⟩] w fun e w' => e = .returned (.tuple #[QV (Rat.divInt n d), .int .i64 0]) ∧ Below w.heap.size w w' := by
  have hV1 := fun w0 => Valid_any (Lib.itoa n) (fits_small hn) w0
  have hV2 := fun w0 => Valid_any (Lib.itoa d) (fits_small hf) w0
  rw [Ig.valid_itoa hn] at hV1
  rw [Ig.valid_itoa hf] at hV2
  have hRR := fun w2 hE2 => reduced_good n d w2 _ _ hn hf hd hE2 (Wk.new w2 false)
  unfold QV at *
  generalize Lib.itoa (Rat.divInt n d).num = sa at *
  generalize Lib.itoa ((Rat.divInt n d).den : Int) = sb at *
  generalize Lib.itoa n = sn at *
  generalize Lib.itoa d = sd at *
  clear hn hf hd
  have B := Bx.mk w 44 #[.string ⟨#[]⟩, .string ⟨#[]⟩]
  have hb := bNewW w (.cells #[.string ⟨#[]⟩, .string ⟨#[]⟩] 44)
  go_enter Tryz.func79, Tryz.ntmps79
  go_wp2_with fail
  refine (hV1 _).mono ?_
  rintro _ w1 ⟨rfl, hb1⟩
  replace hb := bCall hb hb1
  replace B := B.call hb1
  clear hV1 hb1
  go_wp2_with fail
  refine (hV2 _).mono ?_
  rintro _ w2 ⟨rfl, hb1⟩
  replace hb := bCall hb hb1
  replace B := B.call hb1
  clear hV2 hb1
  have hR := hRR w2 (hE.below hb)
  clear hRR
  go_wp2_with fail
  refine hR.mono ?_
  rintro _ w3 ⟨rfl, hb1⟩
  replace hb := bCall hb hb1
  replace B := B.call hb1
  clear hR hb1
  have r0 := B.cell 0 rfl
  have r1 := B.cell 1 rfl
  have f0 := B.frozen 0
  have f1 := B.frozen 1
  have B2 := (B.set 0 (.string ⟨sa.toArray⟩)).set 1 (.string ⟨sb.toArray⟩)
  have hb2 := bSet (bSet hb (p := ⟨w.heap.size, 0, none⟩) (Nat.le_refl _) (.string ⟨sa.toArray⟩)) (p := ⟨w.heap.size, 1, none⟩) (Nat.le_refl _) (.string ⟨sb.toArray⟩)
  go_wp2
  first
    | exact bodyPost_ret (results_Q rfl _ _ rfl rfl B2) rfl ⟨rfl, hb2⟩
    | exact bodyPost_ret (results_Q rfl _ _ rfl rfl B) rfl ⟨rfl, hb⟩
set_option maxRecDepth 100000 in
set_option maxHeartbeats 2000000 in
theorem Make_zero (n : Int) (w : World) (hn : Ig.fits n) :
    Calls Tryz.prog 79 #[.string ⟨(Lib.itoa n).toArray⟩, .string ⟨(Lib.itoa 0).toArray⟩] w fun e w' => e = .returned (.tuple #[QZ, .int .i64 40]) ∧ Below w.heap.size w w' := by
  have hV1 := fun w0 => Valid_any (Lib.itoa n) (fits_small hn) w0
  have hV2 := fun w0 => Valid_any (Lib.itoa 0) (fits_small fits_0) w0
  rw [Ig.valid_itoa hn] at hV1
  rw [Ig.valid_itoa fits_0] at hV2
  rw [itoa_0] at *
  have hRR := fun w2 => reduced_zero (Lib.itoa n) w2 _ _ (Wk.new w2 false)
  unfold QZ at *
  generalize Lib.itoa n = sn at *
  clear hn
  have B := Bx.mk w 44 #[.string ⟨#[]⟩, .string ⟨#[]⟩]
  have hb := bNewW w (.cells #[.string ⟨#[]⟩, .string ⟨#[]⟩] 44)
  go_enter Tryz.func79, Tryz.ntmps79
  go_wp2_with fail
  refine (hV1 _).mono ?_
  rintro _ w1 ⟨rfl, hb1⟩
  replace hb := bCall hb hb1
  replace B := B.call hb1
  clear hV1 hb1
  go_wp2_with fail
  refine (hV2 _).mono ?_
  rintro _ w2 ⟨rfl, hb1⟩
  replace hb := bCall hb hb1
  replace B := B.call hb1
  clear hV2 hb1
  have hR := hRR w2
  clear hRR
  go_wp2_with fail
  refine hR.mono ?_
  rintro _ w3 ⟨rfl, hb1⟩
  replace hb := bCall hb hb1
  replace B := B.call hb1
  clear hR hb1
  have r0 := B.cell 0 rfl
  have r1 := B.cell 1 rfl
  have f0 := B.frozen 0
  have f1 := B.frozen 1
  have B2 := (B.set 0 (.string ⟨#[]⟩)).set 1 (.string ⟨#[]⟩)
  have hb2 := bSet (bSet hb (p := ⟨w.heap.size, 0, none⟩) (Nat.le_refl _) (.string ⟨#[]⟩)) (p := ⟨w.heap.size, 1, none⟩) (Nat.le_refl _) (.string ⟨#[]⟩)
  go_wp2
  first
    | exact bodyPost_ret (results_Q rfl _ _ rfl rfl B2) rfl ⟨rfl, hb2⟩
    | exact bodyPost_ret (results_Q rfl _ _ rfl rfl B) rfl ⟨rfl, hb⟩
set_option maxRecDepth 100000 in
set_option maxHeartbeats 2000000 in
theorem Make_not1 (n d : List UInt8) (w : World) (hn : n.length ≤ 1000000) (h : Ig.validS n = false) :
    Calls Tryz.prog 79 #[.string ⟨n.toArray⟩, .string ⟨d.toArray⟩] w fun e w' => e = .returned (.tuple #[QZ, .int .i64 40]) ∧ Below w.heap.size w w' := by
  have hV1 := fun w0 => Valid_any n hn w0
  rw [h] at hV1
  have hRR := fun w2 => reduced_bad n d w2 _ _ (Wk.new w2 true)
  unfold QZ at *
  clear hn h
  have B := Bx.mk w 44 #[.string ⟨#[]⟩, .string ⟨#[]⟩]
  have hb := bNewW w (.cells #[.string ⟨#[]⟩, .string ⟨#[]⟩] 44)
  go_enter Tryz.func79, Tryz.ntmps79
  go_wp2_with fail
  refine (hV1 _).mono ?_
  rintro _ w1 ⟨rfl, hb1⟩
  replace hb := bCall hb hb1
  replace B := B.call hb1
  clear hV1 hb1
  have hR := hRR w1
  clear hRR
  go_wp2_with fail
  refine hR.mono ?_
  rintro _ w3 ⟨rfl, hb1⟩
  replace hb := bCall hb hb1
  replace B := B.call hb1
  clear hR hb1
  have r0 := B.cell 0 rfl
  have r1 := B.cell 1 rfl
  have f0 := B.frozen 0
  have f1 := B.frozen 1
  have B2 := (B.set 0 (.string ⟨#[]⟩)).set 1 (.string ⟨#[]⟩)
  have hb2 := bSet (bSet hb (p := ⟨w.heap.size, 0, none⟩) (Nat.le_refl _) (.string ⟨#[]⟩)) (p := ⟨w.heap.size, 1, none⟩) (Nat.le_refl _) (.string ⟨#[]⟩)
  go_wp2
  first
    | exact bodyPost_ret (results_Q rfl _ _ rfl rfl B2) rfl ⟨rfl, hb2⟩
    | exact bodyPost_ret (results_Q rfl _ _ rfl rfl B) rfl ⟨rfl, hb⟩
set_option maxRecDepth 100000 in
set_option maxHeartbeats 2000000 in
theorem Make_not2 (n d : List UInt8) (w : World) (hn : n.length ≤ 1000000) (hd : d.length ≤ 1000000) (h : Ig.validS n = true) (h' : Ig.validS d = false) :
    Calls Tryz.prog 79 #[.string ⟨n.toArray⟩, .string ⟨d.toArray⟩] w fun e w' => e = .returned (.tuple #[QZ, .int .i64 40]) ∧ Below w.heap.size w w' := by
  have hV1 := fun w0 => Valid_any n hn w0
  have hV2 := fun w0 => Valid_any d hd w0
  rw [h] at hV1
  rw [h'] at hV2
  have hRR := fun w2 => reduced_bad n d w2 _ _ (Wk.new w2 true)
  unfold QZ at *
  clear hn hd h h'
  have B := Bx.mk w 44 #[.string ⟨#[]⟩, .string ⟨#[]⟩]
  have hb := bNewW w (.cells #[.string ⟨#[]⟩, .string ⟨#[]⟩] 44)
  go_enter Tryz.func79, Tryz.ntmps79
  go_wp2_with fail
  refine (hV1 _).mono ?_
  rintro _ w1 ⟨rfl, hb1⟩
  replace hb := bCall hb hb1
  replace B := B.call hb1
  clear hV1 hb1
  go_wp2_with fail
  refine (hV2 _).mono ?_
  rintro _ w2 ⟨rfl, hb1⟩
  replace hb := bCall hb hb1
  replace B := B.call hb1
  clear hV2 hb1
  have hR := hRR w2
  clear hRR
  go_wp2_with fail
  refine hR.mono ?_
  rintro _ w3 ⟨rfl, hb1⟩
  replace hb := bCall hb hb1
  replace B := B.call hb1
  clear hR hb1
  have r0 := B.cell 0 rfl
  have r1 := B.cell 1 rfl
  have f0 := B.frozen 0
  have f1 := B.frozen 1
  have B2 := (B.set 0 (.string ⟨#[]⟩)).set 1 (.string ⟨#[]⟩)
  have hb2 := bSet (bSet hb (p := ⟨w.heap.size, 0, none⟩) (Nat.le_refl _) (.string ⟨#[]⟩)) (p := ⟨w.heap.size, 1, none⟩) (Nat.le_refl _) (.string ⟨#[]⟩)
  go_wp2
  first
    | exact bodyPost_ret (results_Q rfl _ _ rfl rfl B2) rfl ⟨rfl, hb2⟩
    | exact bodyPost_ret (results_Q rfl _ _ rfl rfl B) rfl ⟨rfl, hb⟩
end Go.Proofs.YtfebcokmnhdbmaaGreatDoor
namespace Go.Proofs.YtfebcokmnhdbmaaGreatDoor
set_option linter.unusedVariables false
set_option linter.unusedSimpArgs false
open Go.RowKit Go.Shelf
theorem i64_fits' {z : Int} (h : I64 z) : Ig.fits z := by
  have h1 : z.natAbs < 10 ^ 20 := by have := h.1; have := h.2; omega
  exact Nat.lt_of_lt_of_le h1 (Nat.pow_le_pow_right (by decide) (by decide))
set_option maxRecDepth 100000 in
set_option maxHeartbeats 2000000 in
theorem Of_ok (n d : Int) (w : World) (hn : I64 n) (hf : I64 d) (hd : d ≠ 0) (hE : Env w) :
    Calls Tryz.prog 60 #[.int .i64 n, .int .i64 d] w fun e w' => e = .returned (.tuple #[QV (Rat.divInt n d), .int .i64 0]) ∧ Below w.heap.size w w' := by
  have hF1 := fun w0 hE0 => FromInt_any n w0 hn.1 hn.2 hE0
  have hF2 := fun w0 hE0 => FromInt_any d w0 hf.1 hf.2 hE0
  have hM := fun w0 hE0 => Make_ok n d w0 (i64_fits' hn) (i64_fits' hf) hd hE0
  unfold QV at *
  generalize Lib.itoa (Rat.divInt n d).num = sa at *
  generalize Lib.itoa ((Rat.divInt n d).den : Int) = sb at *
  generalize Lib.itoa n = sn at *
  generalize Lib.itoa d = sd at *
  have B := Bx.mk w 44 #[.string ⟨#[]⟩, .string ⟨#[]⟩]
  have hb := bNewW w (.cells #[.string ⟨#[]⟩, .string ⟨#[]⟩] 44)
  clear hd
  go_enter Tryz.func60, Tryz.ntmps60
  go_wp2_with fail
  refine (hF1 _ (hE.below hb)).mono ?_
  rintro _ w1 ⟨rfl, hb1⟩
  replace hb := bCall hb hb1
  replace B := B.call hb1
  clear hF1 hb1
  go_wp2_with fail
  refine (hF2 _ (hE.below hb)).mono ?_
  rintro _ w2 ⟨rfl, hb1⟩
  replace hb := bCall hb hb1
  replace B := B.call hb1
  clear hF2 hb1
  go_wp2_with fail
  refine (hM _ (hE.below hb)).mono ?_
  rintro _ w3 ⟨rfl, hb1⟩
  replace hb := bCall hb hb1
  replace B := B.call hb1
  clear hM hb1
  have r0 := B.cell 0 rfl
  have r1 := B.cell 1 rfl
  have f0 := B.frozen 0
  have f1 := B.frozen 1
  have B2 := (B.set 0 (.string ⟨sa.toArray⟩)).set 1 (.string ⟨sb.toArray⟩)
  have hb2 := bSet (bSet hb (p := ⟨w.heap.size, 0, none⟩) (Nat.le_refl _) (.string ⟨sa.toArray⟩)) (p := ⟨w.heap.size, 1, none⟩) (Nat.le_refl _) (.string ⟨sb.toArray⟩)
  go_wp2
  exact bodyPost_ret (results_Q rfl _ _ rfl rfl B2) rfl ⟨rfl, hb2⟩
set_option maxRecDepth 100000 in
set_option maxHeartbeats 2000000 in
theorem Of_zero (n : Int) (w : World) (hn : I64 n) (hE : Env w) :
    Calls Tryz.prog 60 #[.int .i64 n, .int .i64 0] w fun e w' => e = .returned (.tuple #[QZ, .int .i64 40]) ∧ Below w.heap.size w w' := by
  have hF1 := fun w0 hE0 => FromInt_any n w0 hn.1 hn.2 hE0
  have hF2 := fun w0 hE0 => FromInt_any 0 w0 (by decide) (by decide) hE0
  have hM := fun w0 => Make_zero n w0 (i64_fits' hn)
  unfold QZ at *
  generalize Lib.itoa 0 = sd at *
  generalize Lib.itoa n = sn at *
  have B := Bx.mk w 44 #[.string ⟨#[]⟩, .string ⟨#[]⟩]
  have hb := bNewW w (.cells #[.string ⟨#[]⟩, .string ⟨#[]⟩] 44)
  go_enter Tryz.func60, Tryz.ntmps60
  go_wp2_with fail
  refine (hF1 _ (hE.below hb)).mono ?_
  rintro _ w1 ⟨rfl, hb1⟩
  replace hb := bCall hb hb1
  replace B := B.call hb1
  clear hF1 hb1
  go_wp2_with fail
  refine (hF2 _ (hE.below hb)).mono ?_
  rintro _ w2 ⟨rfl, hb1⟩
  replace hb := bCall hb hb1
  replace B := B.call hb1
  clear hF2 hb1
  go_wp2_with fail
  refine (hM _).mono ?_
  rintro _ w3 ⟨rfl, hb1⟩
  replace hb := bCall hb hb1
  replace B := B.call hb1
  clear hM hb1
  have r0 := B.cell 0 rfl
  have r1 := B.cell 1 rfl
  have f0 := B.frozen 0
  have f1 := B.frozen 1
  have B2 := (B.set 0 (.string ⟨#[]⟩)).set 1 (.string ⟨#[]⟩)
  have hb2 := bSet (bSet hb (p := ⟨w.heap.size, 0, none⟩) (Nat.le_refl _) (.string ⟨#[]⟩)) (p := ⟨w.heap.size, 1, none⟩) (Nat.le_refl _) (.string ⟨#[]⟩)
  go_wp2
  exact bodyPost_ret (results_Q rfl _ _ rfl rfl B2) rfl ⟨rfl, hb2⟩
end Go.Proofs.YtfebcokmnhdbmaaGreatDoor
namespace Go.Proofs.YtfebcokmnhdbmaaGreatDoor
set_option linter.unusedVariables false
set_option linter.unusedSimpArgs false
open Go.RowKit Go.Shelf
set_option maxRecDepth 100000 in
set_option maxHeartbeats 4000000 in
theorem Exact_good (base : Int) (L : List Tp.Rate) (A : Option Addr) (cap : Nat) (off a b : Int) (w : World) (hT : Tar w base L A cap) (hE : Env w) (hgood : good base L off a b = true) :
    Calls Tryz.prog 28 #[.agg #[.slice A L.length cap, .int .i64 base], .int .i64 off, .agg #[.int .i64 a, .int .i64 b]] w fun e w' => e = .returned (.tuple #[QV (Rat.divInt (Tp.sumF (Tp.price base L off) a b) 60), .int .i64 0]) ∧ Below w.heap.size w w' := by
  have b1 := bNewW w (.cells #[.slice A L.length cap, .int .i64 base] 26)
  have b2 := bNew b1 (.cells #[.int .i64 a, .int .i64 b] 28)
  have hb := bNew b2 (.cells #[.string ⟨#[]⟩, .string ⟨#[]⟩] 44)
  have B := ((Bx.mk w 26 #[.slice A L.length cap, .int .i64 base]).new (.cells #[.int .i64 a, .int .i64 b] 28)).new (.cells #[.string ⟨#[]⟩, .string ⟨#[]⟩] 44)
  have B2 := (Bx.mk (w.alloc (.cells #[.slice A L.length cap, .int .i64 base] 26)) 28 #[.int .i64 a, .int .i64 b]).new (.cells #[.string ⟨#[]⟩, .string ⟨#[]⟩] 44)
  rw [alloc_size] at B2
  have B3 := Bx.mk ((w.alloc (.cells #[.slice A L.length cap, .int .i64 base] 26)).alloc (.cells #[.int .i64 a, .int .i64 b] 28)) 44 #[.string ⟨#[]⟩, .string ⟨#[]⟩]
  rw [alloc_size, alloc_size] at B3
  obtain ⟨g1, g2, g3, g4, g5⟩ := good_iff.1 hgood
  have hG := good_any base L A cap off a b _ (hT.call hb)
  rw [hgood] at hG
  have hS := fun w1 (h1 : Tar w1 base L A cap) => sum_any base L A cap off a b w1 h1 g1 g2 g3 g4 (by omega)
  have hsb := sumF_bound g1 off a b g4
  have hO := fun w1 hE1 => Of_ok (Tp.sumF (Tp.price base L off) a b) 60 w1 ⟨by omega, by omega⟩ ⟨by decide, by decide⟩ (by decide) hE1
  unfold QV at *
  generalize Lib.itoa (Rat.divInt (Tp.sumF (Tp.price base L off) a b) 60).num = sa at *
  generalize Lib.itoa ((Rat.divInt (Tp.sumF (Tp.price base L off) a b) 60).den : Int) = sb at *
  generalize Tp.sumF (Tp.price base L off) a b = y at *
  have c0 := B.cell 0 rfl
  have c1 := B.cell 1 rfl
  have c2 := B2.cell 0 rfl
  have c3 := B2.cell 1 rfl
  clear b1 b2 hgood
  go_enter Tryz.func28, Tryz.ntmps28
  go_wp2_with fail
  refine hG.mono ?_
  rintro _ w1 ⟨rfl, hb1⟩
  replace hb := bCall hb hb1; replace B := B.call hb1; replace B2 := B2.call hb1; replace B3 := B3.call hb1
  clear c0 c1 c2 c3 hG hb1
  have c0 := B.cell 0 rfl
  have c1 := B.cell 1 rfl
  have c2 := B2.cell 0 rfl
  have c3 := B2.cell 1 rfl
  go_wp2_with fail
  refine (hS _ (hT.call hb)).mono ?_
  rintro _ w2 ⟨rfl, hb1⟩
  replace hb := bCall hb hb1; replace B3 := B3.call hb1
  clear c0 c1 c2 c3 hS hb1 B B2 hT
  go_wp2_with fail
  refine (hO _ (hE.below hb)).mono ?_
  rintro _ w3 ⟨rfl, hb1⟩
  replace hb := bCall hb hb1; replace B3 := B3.call hb1
  clear hO hb1
  have hlt : w.heap.size + 1 + 1 ≠ w3.heap.size := Nat.ne_of_lt B3.lt
  have B4 := Bx.mk w3 44 #[.string ⟨sa.toArray⟩, .string ⟨sb.toArray⟩]
  have d0 := B4.cell 0 rfl
  have d1 := B4.cell 1 rfl
  have B5 := B3.new (.cells #[.string ⟨sa.toArray⟩, .string ⟨sb.toArray⟩] 44)
  have hb5 := bNew hb (.cells #[.string ⟨sa.toArray⟩, .string ⟨sb.toArray⟩] 44)
  have r0 := B5.cell 0 rfl
  have r1 := B5.cell 1 rfl
  have f0 := B5.frozen 0
  have f1 := B5.frozen 1
  have B6 := (B5.set 0 (.string ⟨sa.toArray⟩)).set 1 (.string ⟨sb.toArray⟩)
  have hb6 := bSet (bSet hb5 (p := ⟨w.heap.size + 1 + 1, 0, none⟩) (by show w.heap.size ≤ w.heap.size + 1 + 1; omega) (.string ⟨sa.toArray⟩)) (p := ⟨w.heap.size + 1 + 1, 1, none⟩) (by show w.heap.size ≤ w.heap.size + 1 + 1; omega) (.string ⟨sb.toArray⟩)
  clear B3 B4 B5 hb hb5
  go_wp2
  exact bodyPost_ret (results_Q rfl _ _ rfl rfl B6) rfl ⟨rfl, hb6⟩
end Go.Proofs.YtfebcokmnhdbmaaGreatDoor
namespace Go.Proofs.YtfebcokmnhdbmaaGreatDoor
set_option linter.unusedVariables false
set_option linter.unusedSimpArgs false
open Go.RowKit
theorem ints_ne {x y : List Int} (k : Nat) (h1 : k < x.length) (h2 : k < y.length) (h : x[k] ≠ y[k]) : decide (x = y) = false := by
  simp only [decide_eq_false_iff_not]
  rintro rfl
  exact h rfl
set_option maxRecDepth 100000 in
set_option maxHeartbeats 4000000 in
theorem Ints_any (x y : List Int) (A C : Option Addr) (ca cc : Nat) (w : World) (hA : At 1 intC w w.heap.size A x) (hC : At 1 intC w w.heap.size C y) (ha : x.length ≤ ca) (hc : y.length ≤ cc) (hx : x.length ≤ 9223372036854775807) (hy : y.length ≤ 9223372036854775807) :
    Calls Tryz.prog 35 #[.slice A x.length ca, .slice C y.length cc] w fun e w' => e = .returned (.bool (decide (x = y))) ∧ Below w.heap.size w w' := by
  by_cases hl : x.length = y.length
  · have t0 : ((x.length : Int) == (y.length : Int)) = true := by simp [hl]
    have hlk : Kp (x.length = y.length) := ⟨hl⟩
    clear hl
    go_enter Tryz.func35, Tryz.ntmps35
    go_wp2_with fail
    go_loopw [5] (fun s5 wr => ∃ k : Nat, k ≤ x.length ∧ s5 = .int .i64 k ∧ Kp (∀ (j : Nat) (h1 : j < x.length) (h2 : j < y.length), j < k → x[j] = y[j]) ∧ Below w.heap.size w wr) (fun s5 _ => x.length - (intOf s5).toNat)
    case atStart => exact ⟨0, Nat.zero_le _, rfl, ⟨fun j h1 h2 h => by omega⟩, bStart _⟩
    case round =>
      obtain ⟨k, hk, rfl, heq, hb⟩ := hrel
      by_cases hlt : k < x.length
      · have hlt2 : k < y.length := by have := hlk.out; omega
        obtain ⟨b, off, rfl, hbB, hcell⟩ := hA (by omega)
        obtain ⟨b2, off2, rfl, hbB2, hcell2⟩ := hC (by omega)
        have c0 : wr.cell? ⟨b, off + k, none⟩ = some (.int .i64 x[k]) := (hb.cell (p := ⟨b, _, none⟩) hbB).trans (by have := hcell k _ (List.getElem?_eq_getElem hlt) 0 _ rfl; simpa using this)
        have c1 : wr.cell? ⟨b2, off2 + k, none⟩ = some (.int .i64 y[k]) := (hb.cell (p := ⟨b2, _, none⟩) hbB2).trans (by have := hcell2 k _ (List.getElem?_eq_getElem hlt2) 0 _ rfl; simpa using this)
        have g0 := fun d os => ((below_regrown wr d os).cell (p := ⟨b, off + k, none⟩) (Nat.lt_of_lt_of_le hbB hb.size)).trans c0
        have g1 := fun d os => ((below_regrown wr d os).cell (p := ⟨b2, off2 + k, none⟩) (Nat.lt_of_lt_of_le hbB2 hb.size)).trans c1
        have hne : Kp (x[k] ≠ y[k] → decide (x = y) = false) := ⟨ints_ne k hlt hlt2⟩
        have hnx : Kp (x[k] = y[k] → ∀ (j : Nat) (h1 : j < x.length) (h2 : j < y.length), j < k + 1 → x[j] = y[j]) := ⟨fun h j h1 h2 hj => by
          rcases Nat.lt_or_ge j k with h3 | h3
          · exact heq.out j h1 h2 h3
          · obtain rfl : j = k := by omega
            exact h⟩
        generalize x[k] = u at *
        generalize y[k] = v at *
        clear hcell hcell2 hA hC c0 c1 heq
        by_cases huv : u = v
        · subst huv
          replace hnx := hnx.out rfl
          replace hnx : Kp (∀ (j : Nat) (h1 : j < x.length) (h2 : j < y.length), j < k + 1 → x[j] = y[j]) := ⟨hnx⟩
          clear hne
          go_wp2_with fail
          refine wp_region_quiet_below (by kernel_rfl) (by kernel_rfl) ?_
          repeat (go_big_quiet_step (fail))
          refine wpQuiet_nil ?_
          rintro _ ⟨q, rfl⟩
          go_wp2
          exact ⟨⟨k + 1, by omega, by go_num, hnx, bAgain hb q.d q.os⟩, by simp [intOf]; omega⟩
        · have t1 : (u == v) = false := by simp [huv]
          have hfin : Kp (decide (x = y) = false) := ⟨hne.out huv⟩
          clear hnx hne
          go_wp2_with fail
          refine wp_region_quiet_below (by kernel_rfl) (by kernel_rfl) ?_
          repeat (go_big_quiet_step (fail))
          refine wpQuiet_nil ?_
          rintro _ ⟨q, rfl⟩
          go_wp2
          go_ret
          exact ⟨ret_bool hfin.out.symm, bAgain hb q.d q.os⟩
      · have hfin : Kp (decide (x = y) = true) := ⟨by
          simp only [decide_eq_true_eq]
          exact List.ext_getElem hlk.out fun j h1 h2 => heq.out j h1 h2 (by omega)⟩
        clear heq hA hC
        go_wp2
        go_ret
        exact ⟨ret_bool hfin.out.symm, hb⟩
  · have t0 : ((x.length : Int) == (y.length : Int)) = false := by simp; omega
    have hfin : Kp (decide (x = y) = false) := ⟨by simp only [decide_eq_false_iff_not]; rintro rfl; exact hl rfl⟩
    clear hl hA hC
    go_enter Tryz.func35, Tryz.ntmps35
    go_wp2
    go_ret
    exact ⟨ret_bool hfin.out.symm, Below.refl _ _⟩
end Go.Proofs.YtfebcokmnhdbmaaGreatDoor
namespace Go.Proofs.YtfebcokmnhdbmaaGreatDoor
set_option linter.unusedVariables false
set_option linter.unusedSimpArgs false
open Go.RowKit Go.Shelf
def upto (t0 : Int) (k : Nat) : List Int := (List.range k).map fun (i : Nat) => t0 + 86400 * (i : Int)
theorem upto_succ (t0 : Int) (k : Nat) : upto t0 (k + 1) = upto t0 k ++ [t0 + 86400 * k] := by
  unfold upto
  rw [List.range_succ, List.map_append]
  rfl
theorem upto_len (t0 : Int) (k : Nat) : (upto t0 k).length = k := by simp [upto]
def midsOf (off a b : Int) : List Int := Tp.mids 200 (Tp.first off a) b
theorem mids_upto {t0 b : Int} {k : Nat} (h1 : k = 0 ∨ t0 + 86400 * ((k : Int) - 1) < b) (h2 : ¬ t0 + 86400 * k < b) (hb : b - t0 ≤ 17280000) : Tp.mids 200 t0 b = upto t0 k := by
  have hl := Tp.mids_len 200 t0 b (by omega)
  have hk : ((Tp.mids 200 t0 b).length : Int) = k := by
    rw [hl]
    split <;> omega
  apply List.ext_getElem?
  intro i
  cases h : (Tp.mids 200 t0 b)[i]? with
  | some x =>
    have := (Tp.mids_get 200 t0 b i x h).1
    have hi : i < k := by have := (List.getElem?_eq_some_iff.1 h).1; omega
    unfold upto
    rw [List.getElem?_map, List.getElem?_range hi, this]
    rfl
  | none =>
    have := List.getElem?_eq_none_iff.1 h
    rw [List.getElem?_eq_none (by rw [upto_len]; omega)]
set_option maxRecDepth 100000 in
set_option maxHeartbeats 4000000 in
theorem Midnights_any (off a b : Int) (w : World) :
    Calls Tryz.prog 32 #[.int .i64 off, .agg #[.int .i64 a, .int .i64 b]] w fun e w' => (∃ v, e = .returned (.tuple #[v, .int .i64 (if isZone off && isSpell a b then 0 else 370)]) ∧
      (if isZone off && isSpell a b then RowZ 3 1 (w.heap.size + 1) (midsOf off a b).length ((midsOf off a b).flatMap intC) v w' else v = .slice none 0 0)) ∧ Below w.heap.size w w' := by
  have hb := bNewW w (.cells #[.int .i64 a, .int .i64 b] 28)
  have B := Bx.mk w 28 #[.int .i64 a, .int .i64 b]
  have hZ := fun w0 => isZone_any off w0
  have hI := fun w0 => isSpell_any a b w0
  have hz : Kp (isZone off = true → -50400 ≤ off ∧ off ≤ 50400) := ⟨fun h => Tp.within_iff.1 h⟩
  have hs : Kp (isSpell a b = true → 0 ≤ a ∧ a ≤ b ∧ b ≤ 10000000) := ⟨fun h => by unfold isSpell at h; simp only [Bool.and_eq_true, Tp.within_iff, decide_eq_true_eq] at h; exact h⟩
  have c0 := B.cell 0 rfl
  have c1 := B.cell 1 rfl
  generalize isZone off = q2 at *
  generalize isSpell a b = q3 at *
  cases q2
  · clear hz hs hI
    go_enter Tryz.func32, Tryz.ntmps32
    go_wp2_with (go_at_call 51; refine (hZ _).mono ?_; rintro e w2 ⟨rfl, rfl⟩; clear hZ)
    go_ret2
    exact ⟨rfl, hb⟩
  · cases q3
    · clear hz hs
      go_enter Tryz.func32, Tryz.ntmps32
      go_wp2_with (first | (go_at_call 51; refine (hZ _).mono ?_; rintro e w2 ⟨rfl, rfl⟩; clear hZ) | (go_at_call 63; refine (hI _).mono ?_; rintro e w3 ⟨rfl, hb3⟩; clear hI))
      go_ret2
      exact ⟨rfl, bCall hb hb3⟩
    · obtain ⟨z1, z2⟩ := hz.out rfl
      obtain ⟨s1, s2, s3⟩ := hs.out rfl
      have hsec := Tp.sec_lt off a
      have hL := fun w0 => local_any off a w0 (by omega) (by omega) (by omega) (by omega)
      have hf : Kp (Tp.first off a = a + (86400 - Tp.sec off a % 86400) % 86400) := ⟨rfl⟩
      have hfi := Tp.first_is off a
      have hm : Kp (midsOf off a b = Tp.mids 200 (Tp.first off a) b) := ⟨rfl⟩
      obtain ⟨i, z, hi, hzz, hs1, hz1, hby⟩ := intI
      generalize midsOf off a b = M at *
      generalize Tp.first off a = t0 at *
      generalize Tp.sec off a = s at *
      clear hz hs
      go_enter Tryz.func32, Tryz.ntmps32
      go_wp2_with (first | (go_at_call 51; refine (hZ _).mono ?_; rintro e w2 ⟨rfl, rfl⟩; clear hZ) | (go_at_call 63; refine (hI _).mono ?_; rintro e w3 ⟨rfl, hb3⟩; clear hI; have k0 := (B.call hb3).cell 0 rfl) | (go_at_call 53; refine (hL _).mono ?_; rintro e w4 ⟨rfl, rfl⟩; clear hL))
      have B3 := B.call hb3
      have hb4 := bCall hb hb3
      have hfe : a + -(s % 86400) % 86400 = t0 := by have := hf.out; omega
      rw [hfe]
      clear hf hfe
      generalize (86400 - s % 86400) % 86400 = m26
      clear B hb hb3 c0 c1 k0
      obtain ⟨hfa, hfb, hfc⟩ := hfi
      clear hfa hsec
      go_loopw [6, 8] (fun s6 s8 wr => ∃ k : Nat, s8 = .int .i64 (t0 + 86400 * (k : Int)) ∧ Kp (k = 0 ∨ t0 + 86400 * ((k : Int) - 1) < b) ∧ (k : Int) ≤ 200 ∧ RowZ 3 1 (w.heap.size + 1) k ((upto t0 k).flatMap intC) s6 wr ∧ Below w.heap.size w wr ∧ Bx wr w.heap.size 28 #[.int .i64 a, .int .i64 b]) (fun s6 s8 wr => (b - intOf s8).toNat)
      case atStart => exact ⟨0, by simp, ⟨.inl rfl⟩, by omega, .inl ⟨rfl, rfl, rfl⟩, hb4, B3⟩
      case round =>
        clear hb4 B3
        obtain ⟨k, rfl, hkl, hk2, hrow, hb, B⟩ := hrel
        have c1 := B.cell 1 rfl
        by_cases hlt : t0 + 86400 * (k : Int) < b
        · have t1 : decide (t0 + 86400 * (k : Int) < b) = true := by simp; omega
          have hup := upto_succ t0 k
          have hup : Kp (upto t0 (k + 1) = upto t0 k ++ [t0 + 86400 * k]) := ⟨hup⟩
          obtain ⟨x, hx⟩ : ∃ x, x = t0 + 86400 * (k : Int) := ⟨_, rfl⟩
          rw [← hx] at hup t1 hlt ⊢
          have hx2 : Kp (x + 86400 = t0 + 86400 * ((k + 1 : Nat) : Int) ∧ x = t0 + 86400 * (((k + 1 : Nat) : Int) - 1)) := ⟨by omega⟩
          have hkk : (k : Int) + 1 ≤ 200 := by omega
          have hxr : 0 ≤ x := by omega
          clear hx
          have hsrc := RowC.src (P := Tryz.prog) (B := wr.heap.size) (cap := 1) (e := 3) (t := 36) (fun u hu => by simp at hu; subst hu; rfl) Tryz.underlying36 (show RowC 3 1 wr.heap.size 1 1 [.int .i64 x] (.slice (some ⟨wr.heap.size, 0, none⟩) 1 1) (wr.alloc (.cells #[.int .i64 x] 3)) from ⟨wr.heap.size, _, rfl, Nat.le_refl _, Nat.le_refl _, Bx.mk _ _ _, rfl, rfl⟩)
          have hrow2 := stab_rowZ _ _ _ _ _ _ _ _ hrow (bNewW wr (.cells #[.int .i64 x] 3))
          have hsz : w.heap.size + 1 ≤ (wr.alloc (.cells #[.int .i64 x] 3)).heap.size := by rw [alloc_size]; have := B.lt; omega
          have hbn := bNew hb (.cells #[.int .i64 x] 3)
          have Bn := B.new (.cells #[.int .i64 x] 3)
          go_wp2_with (at_builtin; refine wpList_append_rowZ rfl (.tmp 34) (.tmp 36) 36 3 rfl i z 1 (w.heap.size + 1) k 1 ((upto t0 k).flatMap intC) [.int .i64 x] _ _ Tryz.underlying36 hi hzz hs1 hz1 rfl rfl hrow2 hsz hsrc (by omega) (by unfold maxLen; omega) (by rw [hby]; omega) ?_; intro v' w' e1 e2)
          refine ⟨⟨k + 1, by rw [hx2.out.1], ⟨.inr (by rw [← hx2.out.2]; exact hlt)⟩, by omega, ?_, hbn.trans (e1.mono (by omega)), Bn.below e1 (Nat.lt_succ_self _)⟩, by simp [intOf]; omega⟩
          rw [hup.out, List.flatMap_append]
          exact e2
        · have t1 : decide (t0 + 86400 * (k : Int) < b) = false := by simp; omega
          have hM : Kp (M = upto t0 k) := ⟨by rw [hm.out]; exact mids_upto hkl.out hlt (by omega)⟩
          have hMl : Kp (M.length = k) := ⟨by rw [hM.out, upto_len]⟩
          clear hm hkl
          generalize t0 + 86400 * (k : Int) = x at *
          go_wp2
          go_ret2
          exact ⟨⟨_, rfl, by show RowZ _ _ _ _ _ _ _; rw [hMl.out, hM.out]; exact hrow⟩, hb⟩
end Go.Proofs.YtfebcokmnhdbmaaGreatDoor
namespace Dx
/-- what groups say, the lowest one first -/
def gval : List Int → Int
  | [] => 0
  | g :: l => g + 10 * gval l
def Gr (l : List Int) : Prop := ∀ g ∈ l, 0 ≤ g ∧ g < 10
/-- the groups of a number -/
def grp (n : Nat) : List Int := if h : n = 0 then [] else ((n % 10 : Nat) : Int) :: grp (n / 10)
  termination_by n
  decreasing_by omega
theorem grp_zero : grp 0 = [] := by rw [grp, dif_pos rfl]
theorem grp_pos {n : Nat} (h : n ≠ 0) : grp n = ((n % 10 : Nat) : Int) :: grp (n / 10) := by rw [grp, dif_neg h]
theorem gval_grp (n : Nat) : gval (grp n) = n := by
  induction n using Nat.strongRecOn with
  | _ n ih =>
    by_cases h : n = 0
    · subst h; rw [grp_zero]; rfl
    · rw [grp_pos h, gval, ih (n / 10) (by omega)]; omega
theorem gr_grp (n : Nat) : Gr (grp n) := by
  induction n using Nat.strongRecOn with
  | _ n ih =>
    by_cases h : n = 0
    · subst h; rw [grp_zero]; intro g hg; cases hg
    · rw [grp_pos h]
      intro g hg
      rcases List.mem_cons.1 hg with rfl | hg
      · omega
      · exact ih (n / 10) (by omega) g hg
theorem grp_nil {n : Nat} : grp n = [] ↔ n = 0 := by
  constructor
  · intro h
    by_cases h0 : n = 0
    · exact h0
    · rw [grp_pos h0] at h; cases h
  · rintro rfl; exact grp_zero
theorem gval_nonneg {l : List Int} (h : Gr l) : 0 ≤ gval l := by
  induction l with
  | nil => exact Int.le_refl _
  | cons g l ih =>
    have h1 := h g (by simp)
    have h2 := ih (fun x hx => h x (by simp [hx]))
    unfold gval; omega
theorem gval_append (a b : List Int) : gval (a ++ b) = gval a + 10 ^ a.length * gval b := by
  induction a with
  | nil => simp [gval]
  | cons g a ih =>
    rw [List.cons_append, gval, ih, gval, List.length_cons, Int.pow_succ]
    rw [Int.mul_add, ← Int.mul_assoc, Int.mul_comm 10 (10 ^ a.length)]
    omega
theorem gval_lt {l : List Int} (h : Gr l) : gval l < 10 ^ l.length := by
  induction l with
  | nil => decide
  | cons g l ih =>
    have h1 := h g (by simp)
    have h2 := ih (fun x hx => h x (by simp [hx]))
    rw [gval, List.length_cons, Int.pow_succ]; omega
/-- without zeros at the end, they are the groups of what they say -/
theorem grp_of : ∀ {l : List Int}, Gr l → l.getLast? ≠ some 0 → l = grp (gval l).toNat
  | [], _, _ => by rw [gval]; exact grp_zero.symm
  | g :: l, h, ht => by
    have h1 := h g (by simp)
    have h2 : Gr l := fun x hx => h x (by simp [hx])
    have h3 := gval_nonneg h2
    have ht2 : l.getLast? ≠ some 0 := by
      cases l with
      | nil => simp
      | cons a l => simpa [List.getLast?_cons_cons] using ht
    have ih := grp_of h2 ht2
    have hne : (gval (g :: l)).toNat ≠ 0 := by
      rw [gval]
      intro h0
      have hl0 : gval l = 0 := by omega
      rw [hl0] at ih
      rw [show (0 : Int).toNat = 0 from rfl, grp_zero] at ih
      subst ih
      have hg : g = 0 := by omega
      subst hg
      simp at ht
    rw [grp_pos hne]
    have e1 : ((gval (g :: l)).toNat / 10) = (gval l).toNat := by rw [gval]; omega
    have e2 : (((gval (g :: l)).toNat % 10 : Nat) : Int) = g := by rw [gval]; omega
    rw [e1, e2, ← ih]
/-- without zeros at the end -/
def trimG (l : List Int) : List Int := (l.reverse.dropWhile (· == 0)).reverse
theorem trimG_snoc_zero (l : List Int) : trimG (l ++ [0]) = trimG l := by simp [trimG]
theorem trimG_snoc {l : List Int} {g : Int} (h : g ≠ 0) : trimG (l ++ [g]) = l ++ [g] := by simp [trimG, h]
theorem trimG_nil : trimG [] = [] := rfl
theorem snoc_cases (l : List Int) : l = [] ∨ ∃ m g, l = m ++ [g] := by
  rcases List.eq_nil_or_concat l with h | ⟨m, g, h⟩
  · exact .inl h
  · exact .inr ⟨m, g, by simpa using h⟩
theorem trimG_grp : ∀ (n : Nat) {l : List Int}, l.length = n → Gr l → trimG l = grp (gval l).toNat
  | 0, l, hn, _ => by
    obtain rfl : l = [] := List.length_eq_zero_iff.1 hn
    exact grp_zero.symm
  | n + 1, l, hn, h => by
    rcases snoc_cases l with rfl | ⟨m, g, rfl⟩
    · simp at hn
    · have hm : Gr m := fun x hx => h x (by simp [hx])
      by_cases hg : g = 0
      · subst hg
        rw [trimG_snoc_zero, trimG_grp n (by simpa using hn) hm, gval_append]
        simp [gval]
      · rw [trimG_snoc hg]
        exact grp_of h (by simp [hg])
theorem trimG_of {l : List Int} (h : Gr l) : trimG l = grp (gval l).toNat := trimG_grp _ rfl h
theorem grp_getLast (n : Nat) : (grp n).getLast? ≠ some 0 := by
  induction n using Nat.strongRecOn with
  | _ n ih =>
    by_cases h : n = 0
    · subst h; rw [grp_zero]; simp
    · rw [grp_pos h]
      cases hl : grp (n / 10) with
      | nil =>
        have h0 := grp_nil.1 hl
        simp; omega
      | cons a l =>
        rw [List.getLast?_cons_cons, ← hl]
        exact ih (n / 10) (by omega)
theorem grp_len {n k : Nat} (h : n < 10 ^ k) : (grp n).length ≤ k := by
  induction k generalizing n with
  | zero =>
    have : n = 0 := by simpa using h
    subst this; rw [grp_zero]; simp
  | succ k ih =>
    by_cases h0 : n = 0
    · subst h0; rw [grp_zero]; simp
    · rw [grp_pos h0, List.length_cons]
      have : n / 10 < 10 ^ k := by
        rw [Nat.pow_succ] at h
        exact Nat.div_lt_of_lt_mul (by rw [Nat.mul_comm]; exact h)
      have := ih this
      omega
theorem grp_lt (n : Nat) : n < 10 ^ (grp n).length := by
  have h1 := gval_lt (gr_grp n)
  rw [gval_grp] at h1
  have h2 : ((10 ^ (grp n).length : Nat) : Int) = (10 : Int) ^ (grp n).length := by simp
  omega
theorem trim_same (l : List Int) : trimG l = Ig.trimG l := rfl
theorem grp_small {n : Nat} (h0 : n ≠ 0) (h : n < 10) : grp n = [(n : Int)] := by rw [grp_pos h0, show n / 10 = 0 by omega, grp_zero, Nat.mod_eq_of_lt h]
/-- the text of a number out of its digits -/
theorem dec_grp {n : Nat} (h : n ≠ 0) : Go.Lib.decDigits n = (grp n).reverse.map fun d => Ig.dg d.toNat := by
  induction n using Nat.strongRecOn with
  | _ n ih =>
    by_cases h1 : n < 10
    · rw [Ig.dec_small h1, grp_small h h1]; simp
    · rw [Ig.dec_big h1, ih (n / 10) (by omega) (by omega), grp_pos h, List.reverse_cons, List.map_append]
      rw [List.map_singleton, Int.toNat_natCast]
theorem grp_nd {n : Nat} (h : n ≠ 0) : (grp n).length = Go.Lib.nDigits n := by
  rw [← Ig.dec_len, dec_grp h]; simp
theorem grp_nil_len {n : Nat} : (grp n).length = 0 ↔ n = 0 := by rw [List.length_eq_zero_iff, grp_nil]
/-- the integer that a string determines -/
def madeN (s : List UInt8) (m : Nat) : Nat := (gval ((s.take m).map fun c => ((c.toNat % 10 : Nat) : Int))).toNat
def madeB (s : List UInt8) : Bool := match s with | [] => false | c :: _ => decide (128 ≤ c.toNat)
theorem made_gr (s : List UInt8) (m : Nat) : Gr ((s.take m).map fun c => ((c.toNat % 10 : Nat) : Int)) := fun g hg => by
  obtain ⟨c, _, rfl⟩ := List.mem_map.1 hg
  omega
theorem made_trim (s : List UInt8) (m : Nat) : Ig.trimG ((s.take m).map fun c => ((c.toNat % 10 : Nat) : Int)) = grp (madeN s m) := by
  rw [← trim_same, trimG_of (made_gr s m)]; rfl
theorem madeN_lt (s : List UInt8) (m : Nat) : madeN s m < 10 ^ m := by
  have h1 := gval_lt (made_gr s m)
  have h2 := gval_nonneg (made_gr s m)
  have h3 : ((s.take m).map fun c => ((c.toNat % 10 : Nat) : Int)).length ≤ m := by simp; omega
  have h4 : (10 : Int) ^ ((s.take m).map fun c => ((c.toNat % 10 : Nat) : Int)).length ≤ 10 ^ m := by
    have := Nat.pow_le_pow_right (show 0 < 10 by decide) h3
    have e : ∀ k : Nat, (10 : Int) ^ k = ((10 ^ k : Nat) : Int) := fun k => by simp
    rw [e, e]; omega
  have e : (10 : Int) ^ m = ((10 ^ m : Nat) : Int) := by simp
  unfold madeN
  omega
end Dx
