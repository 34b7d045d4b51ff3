/- Div of package integer. -/
import Derived.Test.YtdjnkaeggnkgeaaGreatDoorIDivP
import Derived.Test.YtdjnkaeggnkgeaaGreatDoorIOver2
namespace Go.Proofs.YtdjnkaeggnkgeaaGreatDoor
set_option linter.unusedVariables false
set_option linter.unusedSimpArgs false
open Go.RowKit Go.Shelf
set_option maxRecDepth 100000 in
set_option maxHeartbeats 4000000 in
theorem Div_not (a b : List UInt8) (w : World) (ha : a.length ≤ 1000000) (hb : b.length ≤ 1000000) (h : Ig.validS a = false ∨ Ig.validS b = false) :
    Calls Tryz.prog 17 #[.string ⟨a.toArray⟩, .string ⟨b.toArray⟩] w fun e w' => e = .returned (.tuple #[.string ⟨#[]⟩, .string ⟨#[]⟩, .int .i64 30]) ∧ Below w.heap.size w w' := by
  have hB := both_not a b w ha hb h
  go_enter Tryz.func17, Tryz.ntmps17
  go_wp2_with fail
  refine hB.mono ?_
  rintro _ w1 ⟨rfl, hb1⟩
  have hb2 := bNew (bNewW w1 (.cells #[.bool false, .slice none 0 0] 50)) (.cells #[.bool false, .slice none 0 0] 50)
  have hb3 := bCall hb1 hb2
  clear hB
  go_wp2
  go_ret3
  exact ⟨rfl, hb3⟩
set_option maxRecDepth 100000 in
set_option maxHeartbeats 4000000 in
theorem Div_zero (x : Int) (w : World) (hx : Ig.fits x) :
    Calls Tryz.prog 17 #[.string ⟨(Lib.itoa x).toArray⟩, .string ⟨(Lib.itoa 0).toArray⟩] w fun e w' => e = .returned (.tuple #[.string ⟨#[]⟩, .string ⟨#[]⟩, .int .i64 30]) ∧ Below w.heap.size w w' := by
  have hB := both_any x 0 w hx (by unfold Ig.fits; decide)
  generalize decide (x < 0) = nx at *
  generalize x.natAbs = ax at *
  generalize Lib.itoa x = sx at *
  rw [show decide ((0 : Int) < 0) = false from rfl, show (0 : Int).natAbs = 0 from rfl] at hB
  generalize Lib.itoa 0 = sy at *
  clear hx
  go_enter Tryz.func17, Tryz.ntmps17
  go_wp2_with fail
  refine hB.mono ?_
  rintro _ w1 ⟨u, v, rfl, hu, hv, hb1⟩
  obtain ⟨A1, c1, rfl, -⟩ := id hu.out
  obtain ⟨A2, c2, rfl, -⟩ := id hv.out
  have hl : (Ig.grp 0).length = 0 := by rw [Ig.grp_zero]; rfl
  simp only [hl] at *
  clear hB
  have hb2 := bNew (bNewW w1 (.cells #[.bool nx, .slice A1 (Ig.grp ax).length c1] 50)) (.cells #[.bool false, .slice A2 0 c2] 50)
  have hb3 := bCall hb1 hb2
  go_wp2
  go_ret3
  exact ⟨rfl, hb3⟩
set_option maxRecDepth 100000 in
set_option maxHeartbeats 8000000 in
theorem Div_any (x y : Int) (w : World) (hx : Ig.fits x) (hy : Ig.fits y) (hy0 : y ≠ 0) (hE : Env w) :
    Calls Tryz.prog 17 #[.string ⟨(Lib.itoa x).toArray⟩, .string ⟨(Lib.itoa y).toArray⟩] w fun e w' => e = .returned (.tuple #[.string ⟨(Lib.itoa (x / y)).toArray⟩, .string ⟨(Lib.itoa (x % y)).toArray⟩, .int .i64 0]) ∧ Below w.heap.size w w' := by
  have hB := both_any x y w hx hy
  have lx := Ig.fits_len hx
  have ly := Ig.fits_len hy
  have fq := fits_div y hx
  have fr := fits_mod x hy0 hy
  have hay : 0 < y.natAbs := by omega
  have k1 : decide (x < 0) = false ∨ x.natAbs % y.natAbs = 0 → Kp (Ig.resS (sgn (decide (x < 0) != decide (y < 0)) (x.natAbs / y.natAbs)) = Lib.itoa (x / y) ∧ Ig.resE (sgn (decide (x < 0) != decide (y < 0)) (x.natAbs / y.natAbs)) = 0 ∧ Ig.resS (sgn false (x.natAbs % y.natAbs)) = Lib.itoa (x % y) ∧ Ig.resE (sgn false (x.natAbs % y.natAbs)) = 0) := fun h => ⟨by
    have h1 := div_keep hy0 h
    rw [h1.1, show sgn false (x.natAbs % y.natAbs) = x % y from h1.2]
    exact ⟨Ig.resS_fits fq, Ig.resE_fits fq, Ig.resS_fits fr, Ig.resE_fits fr⟩⟩
  have k2 : decide (x < 0) = true → x.natAbs % y.natAbs ≠ 0 → Kp (Ig.resS (sgn (decide (x < 0) != decide (y < 0)) (x.natAbs / y.natAbs + 1)) = Lib.itoa (x / y) ∧ Ig.resE (sgn (decide (x < 0) != decide (y < 0)) (x.natAbs / y.natAbs + 1)) = 0 ∧ Ig.resS (sgn false (y.natAbs - x.natAbs % y.natAbs)) = Lib.itoa (x % y) ∧ Ig.resE (sgn false (y.natAbs - x.natAbs % y.natAbs)) = 0) := fun h h' => ⟨by
    have h1 := div_turn hy0 h h'
    rw [h1.1, show sgn false (y.natAbs - x.natAbs % y.natAbs) = x % y from h1.2]
    exact ⟨Ig.resS_fits fq, Ig.resE_fits fq, Ig.resS_fits fr, Ig.resE_fits fr⟩⟩
  clear fq fr
  generalize Lib.itoa (x / y) = SQ at *
  generalize Lib.itoa (x % y) = SR at *
  generalize decide (x < 0) = nx at *
  generalize decide (y < 0) = ny at *
  generalize x.natAbs = ax at *
  generalize y.natAbs = ay at *
  generalize Lib.itoa x = sx at *
  generalize Lib.itoa y = sy at *
  clear hx hy hy0
  have lq : (Ig.grp (ax / ay)).length ≤ 50 := Ig.grp_len_of lx (Nat.div_le_self _ _)
  have lq1 : (Ig.grp (ax / ay + 1)).length ≤ 50 + 1 := Ig.grp_add_len lq (by rw [grp_one]; decide)
  have lr : (Ig.grp (ax % ay)).length ≤ 50 := Ig.grp_len_of lx (Nat.mod_le _ _)
  have lr1 : (Ig.grp (ay - ax % ay)).length ≤ 50 := Ig.grp_len_of ly (Nat.sub_le _ _)
  have hrle : ax % ay ≤ ay := Nat.le_of_lt (Nat.mod_lt _ hay)
  have hly : (Ig.grp ay).length ≠ 0 := fun e => by have := Ig.grp_eq_nil.1 e; omega
  go_enter Tryz.func17, Tryz.ntmps17
  go_wp2_with fail
  refine hB.mono ?_
  rintro _ w1 ⟨u, v, rfl, hu, hv, hb1⟩
  obtain ⟨A1, c1, rfl, -⟩ := id hu.out
  obtain ⟨A2, c2, rfl, -⟩ := id hv.out
  clear hB
  have hb2 := bNew (bNewW w1 (.cells #[.bool nx, .slice A1 (Ig.grp ax).length c1] 50)) (.cells #[.bool ny, .slice A2 (Ig.grp ay).length c2] 50)
  have B1 := (Bx.mk w1 50 #[.bool nx, .slice A1 (Ig.grp ax).length c1]).new (.cells #[.bool ny, .slice A2 (Ig.grp ay).length c2] 50)
  have B2 := Bx.mk (w1.alloc (.cells #[.bool nx, .slice A1 (Ig.grp ax).length c1] 50)) 50 #[.bool ny, .slice A2 (Ig.grp ay).length c2]
  rw [alloc_size] at B2
  have t0 : decide (((Ig.grp ay).length : Int) = 0) = false := decide_eq_false (by omega)
  have t1 : (((Ig.grp ay).length : Int) == 0) = false := beq_eq_false_iff_ne.2 (by omega)
  go_wp2_with fail
  clear t0 t1
  replace hu := hu.call hb2
  replace hv := hv.call hb2
  replace hb1 := bCall hb1 hb2
  have hO := over_any ax ay _ _ _ hu hv hay (by omega) (by omega)
  generalize hg : ((w1.alloc (.cells #[.bool nx, .slice A1 (Ig.grp ax).length c1] 50)).alloc (.cells #[.bool ny, .slice A2 (Ig.grp ay).length c2] 50)) = W0 at *
  clear hg hb2
  refine hO.mono ?_
  rintro _ W1 ⟨q, r, rfl, hq, hr, hb3⟩
  clear hO
  obtain ⟨A3, c3, rfl, -⟩ := id hq.out
  obtain ⟨A4, c4, rfl, -⟩ := id hr.out
  replace B1 := B1.call hb3
  replace B2 := B2.call hb3
  replace hv := hv.call hb3
  replace hb1 := bCall hb1 hb3
  have hE1 := hE.below hb1
  have p0 := B1.cell 0 rfl
  have p2 := B2.cell 0 rfl
  clear hb3 hu hE
  cases nx
  · have hk := k1 (.inl rfl)
    clear k1 k2
    cases ny
    · go_wp2_with fail
      have hT1 := text_any false (ax / ay) _ W1 hq (by omega) hE1
      have hk1 : Ig.resS (sgn false (ax / ay)) = SQ := hk.out.1
      have hk2 : Ig.resE (sgn false (ax / ay)) = 0 := hk.out.2.1
      rw [hk1, hk2] at hT1
      refine hT1.mono ?_
      rintro _ w6 ⟨rfl, hb6⟩
      have hr6 := hr.call hb6
      have hE6 := hE1.below hb6
      have hb7 := bCall hb1 hb6
      have hT2 := text_any false (ax % ay) _ w6 hr6 (by first | omega | (rw [hn4.out]; omega)) hE6
      rw [hk.out.2.2.1, hk.out.2.2.2] at hT2
      clear hT1 hk hk1 hk2
      go_wp2_with fail
      refine hT2.mono ?_
      rintro _ w7 ⟨rfl, hb8⟩
      clear hT2
      go_wp2
      go_ret3
      exact ⟨rfl, bCall hb7 hb8⟩
    · go_wp2_with fail
      have hT1 := text_any true (ax / ay) _ W1 hq (by omega) hE1
      have hk1 : Ig.resS (sgn true (ax / ay)) = SQ := hk.out.1
      have hk2 : Ig.resE (sgn true (ax / ay)) = 0 := hk.out.2.1
      rw [hk1, hk2] at hT1
      refine hT1.mono ?_
      rintro _ w6 ⟨rfl, hb6⟩
      have hr6 := hr.call hb6
      have hE6 := hE1.below hb6
      have hb7 := bCall hb1 hb6
      have hT2 := text_any false (ax % ay) _ w6 hr6 (by first | omega | (rw [hn4.out]; omega)) hE6
      rw [hk.out.2.2.1, hk.out.2.2.2] at hT2
      clear hT1 hk hk1 hk2
      go_wp2_with fail
      refine hT2.mono ?_
      rintro _ w7 ⟨rfl, hb8⟩
      clear hT2
      go_wp2
      go_ret3
      exact ⟨rfl, bCall hb7 hb8⟩
  · by_cases hr0 : ax % ay = 0
    · have hk := k1 (.inr hr0)
      have hl0 : ((Ig.grp (ax % ay)).length : Int) = 0 := by rw [hr0, Ig.grp_zero]; rfl
      have t0 : decide (0 < (Ig.grp (ax % ay)).length) = false := decide_eq_false (by omega)
      clear k1 k2 hl0 hr0
      generalize hn4 : (Ig.grp (ax % ay)).length = n4 at *
      replace hn4 := Kp.mk hn4
      cases ny
      · go_wp2_with fail
        have hT1 := text_any true (ax / ay) _ W1 hq (by omega) hE1
        have hk1 : Ig.resS (sgn true (ax / ay)) = SQ := hk.out.1
        have hk2 : Ig.resE (sgn true (ax / ay)) = 0 := hk.out.2.1
        rw [hk1, hk2] at hT1
        refine hT1.mono ?_
        rintro _ w6 ⟨rfl, hb6⟩
        have hr6 := hr.call hb6
        have hE6 := hE1.below hb6
        have hb7 := bCall hb1 hb6
        have hT2 := text_any false (ax % ay) _ w6 hr6 (by first | omega | (rw [hn4.out]; omega)) hE6
        rw [hk.out.2.2.1, hk.out.2.2.2] at hT2
        clear hT1 hk hk1 hk2
        go_wp2_with fail
        refine hT2.mono ?_
        rintro _ w7 ⟨rfl, hb8⟩
        clear hT2
        go_wp2
        go_ret3
        exact ⟨rfl, bCall hb7 hb8⟩
      · go_wp2_with fail
        have hT1 := text_any false (ax / ay) _ W1 hq (by omega) hE1
        have hk1 : Ig.resS (sgn false (ax / ay)) = SQ := hk.out.1
        have hk2 : Ig.resE (sgn false (ax / ay)) = 0 := hk.out.2.1
        rw [hk1, hk2] at hT1
        refine hT1.mono ?_
        rintro _ w6 ⟨rfl, hb6⟩
        have hr6 := hr.call hb6
        have hE6 := hE1.below hb6
        have hb7 := bCall hb1 hb6
        have hT2 := text_any false (ax % ay) _ w6 hr6 (by first | omega | (rw [hn4.out]; omega)) hE6
        rw [hk.out.2.2.1, hk.out.2.2.2] at hT2
        clear hT1 hk hk1 hk2
        go_wp2_with fail
        refine hT2.mono ?_
        rintro _ w7 ⟨rfl, hb8⟩
        clear hT2
        go_wp2
        go_ret3
        exact ⟨rfl, bCall hb7 hb8⟩
    · have hk := k2 rfl hr0
      have hl0 : (Ig.grp (ax % ay)).length ≠ 0 := fun e => hr0 (Ig.grp_eq_nil.1 e)
      have t0 : decide (0 < (Ig.grp (ax % ay)).length) = true := decide_eq_true (by omega)
      clear k1 k2 hl0 hr0
      generalize hn4 : (Ig.grp (ax % ay)).length = n4 at *
      replace hn4 := Kp.mk hn4
      go_wp2_with fail
      clear t0
      have hly' := Kp.mk ly
      have hlq' := Kp.mk lq
      have p1 := fun w2 (hb2 : Below W1.heap.size W1 w2) => (hb2.cell (p := ⟨w1.heap.size + 1, 1, none⟩) B2.lt).trans (B2.cell 1 rfl)
      refine wp_region_rgl [Eqv (.slice A3 (Ig.grp (ax / ay)).length c3), (fun v W => NumAt W 1 v), (fun v W => NumAt W (ax / ay + 1) v), Eqv (.pointer (some ⟨w1.heap.size + 1, 1, none⟩)), Eqv (.slice A2 (Ig.grp ay).length c2), Eqv (.slice A4 n4 c4), (fun v W => NumAt W (ay - ax % ay) v)] 7 75 (by kernel_rfl) rfl rfl (by kernel_rfl) ?_ ?_ ?_
      · simp only [AllS]
        exact ⟨stab_eqv _, fun v w w' h hb => h.call hb, fun v w w' h hb => h.call hb, stab_eqv _, stab_eqv _, stab_eqv _, fun v w w' h hb => h.call hb, trivial⟩
      · simp only [Users, List.take, List.length]
        refine ⟨?_, ?_, ?_, ?_, ?_, ?_, ?_, trivial⟩
        all_goals (intro vs w2 hb2 hd; have c5 := p1 w2 hb2; have hq2 := hq.call hb2; have hr2 := hr.call hb2; have hv2 := hv.call hb2; clear p1; simp only [putD, Act.put, List.nil_append, List.cons_append, List.setIfInBounds_toArray, List.set_cons_succ, List.set_cons_zero, Nat.reduceAdd])
        · clear hd; go_wp2; exact ⟨Below.refl _ _, rfl⟩
        · clear hd
          have hC := one_any w2
          go_wp2_with fail
          refine hC.mono ?_
          clear hC
          rintro _ w9 ⟨v9, rfl, hn9, hb9⟩
          go_wp2
          exact hn9
        · have e := hd 0 rfl; change vs 0 = _ at e
          have e' : NumAt w2 1 (vs 1) := hd 1 rfl
          clear hd; rw [e]
          have hC := plus_any (ax / ay) 1 _ (vs 1) w2 hq2 e' (by omega) (by rw [grp_one]; decide)
          go_wp2_with fail
          refine hC.mono ?_
          clear hC
          rintro _ w9 ⟨v9, rfl, hn9, hb9⟩
          go_wp2
          exact hn9
        · clear hd; go_wp2; exact ⟨Below.refl _ _, rfl⟩
        · have e := hd 3 rfl; change vs 3 = _ at e; clear hd; rw [e]; go_wp2; exact ⟨Below.refl _ _, rfl⟩
        · clear hd; go_wp2; exact ⟨Below.refl _ _, rfl⟩
        · have e := hd 4 rfl; change vs 4 = _ at e
          have e' := hd 5 rfl; change vs 5 = _ at e'
          clear hd; rw [e, e']
          have hC := minus_any ay (ax % ay) _ _ w2 hv2 hr2 hrle (by omega)
          go_wp2_with fail
          refine hC.mono ?_
          clear hC
          rintro _ w9 ⟨v9, rfl, hn9, hb9⟩
          go_wp2
          exact hn9
      · clear p1
        intro vs wa hba hR
        simp only [AllR, Eqv] at hR
        obtain ⟨-, -, e2, -, -, -, e6, -⟩ := hR
        simp only [List.drop, List.take, List.map, putD, Act.put, List.setIfInBounds_toArray, List.set_cons_succ, List.set_cons_zero, Nat.reduceAdd]
        generalize vs 2 = z2 at *
        generalize vs 6 = z6 at *
        generalize vs 0 = z0, vs 1 = z1, vs 3 = z3, vs 4 = z4, vs 5 = z5
        obtain ⟨A7, c7, rfl, -⟩ := id e2.out
        obtain ⟨A8, c8, rfl, -⟩ := id e6.out
        replace B1 := B1.call hba
        replace B2 := B2.call hba
        have p0 := B1.cell 0 rfl
        have p2 := B2.cell 0 rfl
        replace hb1 := bCall hb1 hba
        replace hE1 := hE1.below hba
        clear hba
        cases ny
        · go_wp2_with fail
          have hT1 := text_any true (ax / ay + 1) _ wa e2 (by omega) hE1
          have hk1 : Ig.resS (sgn true (ax / ay + 1)) = SQ := hk.out.1
          have hk2 : Ig.resE (sgn true (ax / ay + 1)) = 0 := hk.out.2.1
          rw [hk1, hk2] at hT1
          refine hT1.mono ?_
          rintro _ w6 ⟨rfl, hb6⟩
          have hr6 := e6.call hb6
          have hE6 := hE1.below hb6
          have hb7 := bCall hb1 hb6
          have hT2 := text_any false (ay - ax % ay) _ w6 hr6 (by first | omega | (rw [hn4.out]; omega)) hE6
          rw [hk.out.2.2.1, hk.out.2.2.2] at hT2
          clear hT1 hk hk1 hk2
          go_wp2_with fail
          refine hT2.mono ?_
          rintro _ w7 ⟨rfl, hb8⟩
          clear hT2
          go_wp2
          go_ret3
          exact ⟨rfl, bCall hb7 hb8⟩
        · go_wp2_with fail
          have hT1 := text_any false (ax / ay + 1) _ wa e2 (by omega) hE1
          have hk1 : Ig.resS (sgn false (ax / ay + 1)) = SQ := hk.out.1
          have hk2 : Ig.resE (sgn false (ax / ay + 1)) = 0 := hk.out.2.1
          rw [hk1, hk2] at hT1
          refine hT1.mono ?_
          rintro _ w6 ⟨rfl, hb6⟩
          have hr6 := e6.call hb6
          have hE6 := hE1.below hb6
          have hb7 := bCall hb1 hb6
          have hT2 := text_any false (ay - ax % ay) _ w6 hr6 (by first | omega | (rw [hn4.out]; omega)) hE6
          rw [hk.out.2.2.1, hk.out.2.2.2] at hT2
          clear hT1 hk hk1 hk2
          go_wp2_with fail
          refine hT2.mono ?_
          rintro _ w7 ⟨rfl, hb8⟩
          clear hT2
          go_wp2
          go_ret3
          exact ⟨rfl, bCall hb7 hb8⟩
end Go.Proofs.YtdjnkaeggnkgeaaGreatDoor
