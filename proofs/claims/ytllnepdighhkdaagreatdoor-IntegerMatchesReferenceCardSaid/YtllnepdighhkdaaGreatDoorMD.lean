/- Signed division, plain. Div of package integer. Gcd of package integer. Root, FromInt of package integer. -/
import Derived.Test.YtllnepdighhkdaaGreatDoorIAdd
import Derived.Test.YtllnepdighhkdaaGreatDoorIOver2
namespace Go.Proofs.YtllnepdighhkdaaGreatDoor
theorem neg_div0 {a b : Nat} (hb : 0 < b) (h : a % b = 0) : (-(a : Int)) / (b : Int) = -((a / b : Nat) : Int) ∧ (-(a : Int)) % (b : Int) = 0 := by
  refine (Int.ediv_emod_unique (by omega)).2 ⟨?_, Int.le_refl _, by omega⟩
  have h1 := Nat.div_add_mod a b
  rw [h] at h1
  rw [Int.mul_neg, Int.zero_add, ← Int.natCast_mul]
  omega
theorem neg_div1 {a b : Nat} (hb : 0 < b) (h : a % b ≠ 0) : (-(a : Int)) / (b : Int) = -((a / b + 1 : Nat) : Int) ∧ (-(a : Int)) % (b : Int) = ((b - a % b : Nat) : Int) := by
  have h2 := Nat.mod_lt a hb
  refine (Int.ediv_emod_unique (by omega)).2 ⟨?_, by omega, by omega⟩
  have h1 := Nat.div_add_mod a b
  rw [Int.mul_neg, ← Int.natCast_mul, Nat.mul_add, Nat.mul_one]
  omega
theorem abs_cases (x : Int) : (x = (x.natAbs : Int) ∧ decide (x < 0) = false) ∨ (x = -(x.natAbs : Int) ∧ decide (x < 0) = true) := by
  by_cases h : x < 0
  · exact .inr ⟨by omega, by simpa using h⟩
  · exact .inl ⟨by omega, by simpa using h⟩
theorem div_keep {x y : Int} (hy : y ≠ 0) (h : decide (x < 0) = false ∨ x.natAbs % y.natAbs = 0) : sgn (decide (x < 0) != decide (y < 0)) (x.natAbs / y.natAbs) = x / y ∧ ((x.natAbs % y.natAbs : Nat) : Int) = x % y := by
  have hb : 0 < y.natAbs := by omega
  have hx := abs_cases x
  have hy := abs_cases y
  generalize x.natAbs = a at *
  generalize y.natAbs = b at *
  generalize decide (x < 0) = n at *
  generalize decide (y < 0) = m at *
  rcases hx with ⟨rfl, rfl⟩ | ⟨rfl, rfl⟩ <;> rcases hy with ⟨rfl, rfl⟩ | ⟨rfl, rfl⟩
  · simp [sgn]
  · simp [sgn, Int.ediv_neg]
  · have hr : a % b = 0 := by simpa using h
    have := neg_div0 hb hr
    simp [sgn, this.1, this.2, hr]
  · have hr : a % b = 0 := by simpa using h
    have := neg_div0 hb hr
    simp [sgn, Int.ediv_neg, this.1, this.2, hr]
theorem div_turn {x y : Int} (hy : y ≠ 0) (h : decide (x < 0) = true) (h' : x.natAbs % y.natAbs ≠ 0) : sgn (decide (x < 0) != decide (y < 0)) (x.natAbs / y.natAbs + 1) = x / y ∧ ((y.natAbs - x.natAbs % y.natAbs : Nat) : Int) = x % y := by
  have hb : 0 < y.natAbs := by omega
  have hx := abs_cases x
  have hy := abs_cases y
  generalize x.natAbs = a at *
  generalize y.natAbs = b at *
  generalize decide (x < 0) = n at *
  generalize decide (y < 0) = m at *
  subst h
  have hx : x = -(a : Int) := by simpa using hx
  subst hx
  have h3 := neg_div1 hb h'
  rcases hy with ⟨rfl, rfl⟩ | ⟨rfl, rfl⟩
  · rw [h3.1, h3.2]; simp [sgn]
  · rw [Int.ediv_neg, Int.emod_neg, h3.1, h3.2]; simp [sgn]
theorem fits_div {x : Int} (y : Int) (h : Ig.fits x) : Ig.fits (x / y) := Nat.lt_of_le_of_lt (Int.natAbs_ediv_le_natAbs x y) h
theorem fits_mod (x : Int) {y : Int} (hy : y ≠ 0) (h : Ig.fits y) : Ig.fits (x % y) := by
  have h1 := Int.emod_nonneg x hy
  have h2 := Int.emod_lt x hy
  unfold Ig.fits at *
  omega
end Go.Proofs.YtllnepdighhkdaaGreatDoor
namespace Go.Proofs.YtllnepdighhkdaaGreatDoor
set_option linter.unusedVariables false
set_option linter.unusedSimpArgs false
open Go.RowKit Go.Shelf
set_option maxRecDepth 100000 in
set_option maxHeartbeats 4000000 in
theorem Div_not (a b : List UInt8) (w : World) (ha : a.length ≤ 1000000) (hb : b.length ≤ 1000000) (h : Ig.validS a = false ∨ Ig.validS b = false) :
    Calls Tryz.prog 22 #[.string ⟨a.toArray⟩, .string ⟨b.toArray⟩] w fun e w' => e = .returned (.tuple #[.string ⟨#[]⟩, .string ⟨#[]⟩, .int .i64 30]) ∧ Below w.heap.size w w' := by
  have hB := both_not a b w ha hb h
  go_enter Tryz.func22, Tryz.ntmps22
  go_wp2_with fail
  refine hB.mono ?_
  rintro _ w1 ⟨rfl, hb1⟩
  have hb2 := bNew (bNewW w1 (.cells #[.bool false, .slice none 0 0] 100)) (.cells #[.bool false, .slice none 0 0] 100)
  have hb3 := bCall hb1 hb2
  clear hB
  go_wp2
  go_ret3
  exact ⟨rfl, hb3⟩
set_option maxRecDepth 100000 in
set_option maxHeartbeats 4000000 in
theorem Div_zero (x : Int) (w : World) (hx : Ig.fits x) :
    Calls Tryz.prog 22 #[.string ⟨(Lib.itoa x).toArray⟩, .string ⟨(Lib.itoa 0).toArray⟩] w fun e w' => e = .returned (.tuple #[.string ⟨#[]⟩, .string ⟨#[]⟩, .int .i64 30]) ∧ Below w.heap.size w w' := by
  have hB := both_any x 0 w hx (by unfold Ig.fits; decide)
  generalize decide (x < 0) = nx at *
  generalize x.natAbs = ax at *
  generalize Lib.itoa x = sx at *
  rw [show decide ((0 : Int) < 0) = false from rfl, show (0 : Int).natAbs = 0 from rfl] at hB
  generalize Lib.itoa 0 = sy at *
  clear hx
  go_enter Tryz.func22, Tryz.ntmps22
  go_wp2_with fail
  refine hB.mono ?_
  rintro _ w1 ⟨u, v, rfl, hu, hv, hb1⟩
  obtain ⟨A1, c1, rfl, -⟩ := id hu.out
  obtain ⟨A2, c2, rfl, -⟩ := id hv.out
  have hl : (Ig.grp 0).length = 0 := by rw [Ig.grp_zero]; rfl
  simp only [hl] at *
  clear hB
  have hb2 := bNew (bNewW w1 (.cells #[.bool nx, .slice A1 (Ig.grp ax).length c1] 100)) (.cells #[.bool false, .slice A2 0 c2] 100)
  have hb3 := bCall hb1 hb2
  go_wp2
  go_ret3
  exact ⟨rfl, hb3⟩
set_option maxRecDepth 100000 in
set_option maxHeartbeats 8000000 in
theorem Div_any (x y : Int) (w : World) (hx : Ig.fits x) (hy : Ig.fits y) (hy0 : y ≠ 0) (hE : Env w) :
    Calls Tryz.prog 22 #[.string ⟨(Lib.itoa x).toArray⟩, .string ⟨(Lib.itoa y).toArray⟩] w fun e w' => e = .returned (.tuple #[.string ⟨(Lib.itoa (x / y)).toArray⟩, .string ⟨(Lib.itoa (x % y)).toArray⟩, .int .i64 0]) ∧ Below w.heap.size w w' := by
  have hB := both_any x y w hx hy
  have lx := Ig.fits_len hx
  have ly := Ig.fits_len hy
  have fq := fits_div y hx
  have fr := fits_mod x hy0 hy
  have hay : 0 < y.natAbs := by omega
  have k1 : decide (x < 0) = false ∨ x.natAbs % y.natAbs = 0 → Kp (Ig.resS (sgn (decide (x < 0) != decide (y < 0)) (x.natAbs / y.natAbs)) = Lib.itoa (x / y) ∧ Ig.resE (sgn (decide (x < 0) != decide (y < 0)) (x.natAbs / y.natAbs)) = 0 ∧ Ig.resS (sgn false (x.natAbs % y.natAbs)) = Lib.itoa (x % y) ∧ Ig.resE (sgn false (x.natAbs % y.natAbs)) = 0) := fun h => ⟨by
    have h1 := div_keep hy0 h
    rw [h1.1, show sgn false (x.natAbs % y.natAbs) = x % y from h1.2]
    exact ⟨Ig.resS_fits fq, Ig.resE_fits fq, Ig.resS_fits fr, Ig.resE_fits fr⟩⟩
  have k2 : decide (x < 0) = true → x.natAbs % y.natAbs ≠ 0 → Kp (Ig.resS (sgn (decide (x < 0) != decide (y < 0)) (x.natAbs / y.natAbs + 1)) = Lib.itoa (x / y) ∧ Ig.resE (sgn (decide (x < 0) != decide (y < 0)) (x.natAbs / y.natAbs + 1)) = 0 ∧ Ig.resS (sgn false (y.natAbs - x.natAbs % y.natAbs)) = Lib.itoa (x % y) ∧ Ig.resE (sgn false (y.natAbs - x.natAbs % y.natAbs)) = 0) := fun h h' => ⟨by
    have h1 := div_turn hy0 h h'
    rw [h1.1, show sgn false (y.natAbs - x.natAbs % y.natAbs) = x % y from h1.2]
    exact ⟨Ig.resS_fits fq, Ig.resE_fits fq, Ig.resS_fits fr, Ig.resE_fits fr⟩⟩
  clear fq fr
  generalize Lib.itoa (x / y) = SQ at *
  generalize Lib.itoa (x % y) = SR at *
  generalize decide (x < 0) = nx at *
  generalize decide (y < 0) = ny at *
  generalize x.natAbs = ax at *
  generalize y.natAbs = ay at *
  generalize Lib.itoa x = sx at *
  generalize Lib.itoa y = sy at *
  clear hx hy hy0
  have lq : (Ig.grp (ax / ay)).length ≤ 50 := Ig.grp_len_of lx (Nat.div_le_self _ _)
  have lq1 : (Ig.grp (ax / ay + 1)).length ≤ 50 + 1 := Ig.grp_add_len lq (by rw [grp_one]; decide)
  have lr : (Ig.grp (ax % ay)).length ≤ 50 := Ig.grp_len_of lx (Nat.mod_le _ _)
  have lr1 : (Ig.grp (ay - ax % ay)).length ≤ 50 := Ig.grp_len_of ly (Nat.sub_le _ _)
  have hrle : ax % ay ≤ ay := Nat.le_of_lt (Nat.mod_lt _ hay)
  have hly : (Ig.grp ay).length ≠ 0 := fun e => by have := Ig.grp_eq_nil.1 e; omega
  go_enter Tryz.func22, Tryz.ntmps22
  go_wp2_with fail
  refine hB.mono ?_
  rintro _ w1 ⟨u, v, rfl, hu, hv, hb1⟩
  obtain ⟨A1, c1, rfl, -⟩ := id hu.out
  obtain ⟨A2, c2, rfl, -⟩ := id hv.out
  clear hB
  have hb2 := bNew (bNewW w1 (.cells #[.bool nx, .slice A1 (Ig.grp ax).length c1] 100)) (.cells #[.bool ny, .slice A2 (Ig.grp ay).length c2] 100)
  have B1 := (Bx.mk w1 100 #[.bool nx, .slice A1 (Ig.grp ax).length c1]).new (.cells #[.bool ny, .slice A2 (Ig.grp ay).length c2] 100)
  have B2 := Bx.mk (w1.alloc (.cells #[.bool nx, .slice A1 (Ig.grp ax).length c1] 100)) 100 #[.bool ny, .slice A2 (Ig.grp ay).length c2]
  rw [alloc_size] at B2
  have t0 : decide (((Ig.grp ay).length : Int) = 0) = false := decide_eq_false (by omega)
  have t1 : (((Ig.grp ay).length : Int) == 0) = false := beq_eq_false_iff_ne.2 (by omega)
  go_wp2_with fail
  clear t0 t1
  replace hu := hu.call hb2
  replace hv := hv.call hb2
  replace hb1 := bCall hb1 hb2
  have hO := over_any ax ay _ _ _ hu hv hay (by omega) (by omega)
  generalize hg : ((w1.alloc (.cells #[.bool nx, .slice A1 (Ig.grp ax).length c1] 100)).alloc (.cells #[.bool ny, .slice A2 (Ig.grp ay).length c2] 100)) = W0 at *
  clear hg hb2
  refine hO.mono ?_
  rintro _ W1 ⟨q, r, rfl, hq, hr, hb3⟩
  clear hO
  obtain ⟨A3, c3, rfl, -⟩ := id hq.out
  obtain ⟨A4, c4, rfl, -⟩ := id hr.out
  replace B1 := B1.call hb3
  replace B2 := B2.call hb3
  replace hv := hv.call hb3
  replace hb1 := bCall hb1 hb3
  have hE1 := hE.below hb1
  have p0 := B1.cell 0 rfl
  have p2 := B2.cell 0 rfl
  clear hb3 hu hE
  cases nx
  · have hk := k1 (.inl rfl)
    clear k1 k2
    cases ny
    · go_wp2_with fail
      have hT1 := text_any false (ax / ay) _ W1 hq (by omega) hE1
      have hk1 : Ig.resS (sgn false (ax / ay)) = SQ := hk.out.1
      have hk2 : Ig.resE (sgn false (ax / ay)) = 0 := hk.out.2.1
      rw [hk1, hk2] at hT1
      refine hT1.mono ?_
      rintro _ w6 ⟨rfl, hb6⟩
      have hr6 := hr.call hb6
      have hE6 := hE1.below hb6
      have hb7 := bCall hb1 hb6
      have hT2 := text_any false (ax % ay) _ w6 hr6 (by first | omega | (rw [hn4.out]; omega)) hE6
      rw [hk.out.2.2.1, hk.out.2.2.2] at hT2
      clear hT1 hk hk1 hk2
      go_wp2_with fail
      refine hT2.mono ?_
      rintro _ w7 ⟨rfl, hb8⟩
      clear hT2
      go_wp2
      go_ret3
      exact ⟨rfl, bCall hb7 hb8⟩
    · go_wp2_with fail
      have hT1 := text_any true (ax / ay) _ W1 hq (by omega) hE1
      have hk1 : Ig.resS (sgn true (ax / ay)) = SQ := hk.out.1
      have hk2 : Ig.resE (sgn true (ax / ay)) = 0 := hk.out.2.1
      rw [hk1, hk2] at hT1
      refine hT1.mono ?_
      rintro _ w6 ⟨rfl, hb6⟩
      have hr6 := hr.call hb6
      have hE6 := hE1.below hb6
      have hb7 := bCall hb1 hb6
      have hT2 := text_any false (ax % ay) _ w6 hr6 (by first | omega | (rw [hn4.out]; omega)) hE6
      rw [hk.out.2.2.1, hk.out.2.2.2] at hT2
      clear hT1 hk hk1 hk2
      go_wp2_with fail
      refine hT2.mono ?_
      rintro _ w7 ⟨rfl, hb8⟩
      clear hT2
      go_wp2
      go_ret3
      exact ⟨rfl, bCall hb7 hb8⟩
  · by_cases hr0 : ax % ay = 0
    · have hk := k1 (.inr hr0)
      have hl0 : ((Ig.grp (ax % ay)).length : Int) = 0 := by rw [hr0, Ig.grp_zero]; rfl
      have t0 : decide (0 < (Ig.grp (ax % ay)).length) = false := decide_eq_false (by omega)
      clear k1 k2 hl0 hr0
      generalize hn4 : (Ig.grp (ax % ay)).length = n4 at *
      replace hn4 := Kp.mk hn4
      cases ny
      · go_wp2_with fail
        have hT1 := text_any true (ax / ay) _ W1 hq (by omega) hE1
        have hk1 : Ig.resS (sgn true (ax / ay)) = SQ := hk.out.1
        have hk2 : Ig.resE (sgn true (ax / ay)) = 0 := hk.out.2.1
        rw [hk1, hk2] at hT1
        refine hT1.mono ?_
        rintro _ w6 ⟨rfl, hb6⟩
        have hr6 := hr.call hb6
        have hE6 := hE1.below hb6
        have hb7 := bCall hb1 hb6
        have hT2 := text_any false (ax % ay) _ w6 hr6 (by first | omega | (rw [hn4.out]; omega)) hE6
        rw [hk.out.2.2.1, hk.out.2.2.2] at hT2
        clear hT1 hk hk1 hk2
        go_wp2_with fail
        refine hT2.mono ?_
        rintro _ w7 ⟨rfl, hb8⟩
        clear hT2
        go_wp2
        go_ret3
        exact ⟨rfl, bCall hb7 hb8⟩
      · go_wp2_with fail
        have hT1 := text_any false (ax / ay) _ W1 hq (by omega) hE1
        have hk1 : Ig.resS (sgn false (ax / ay)) = SQ := hk.out.1
        have hk2 : Ig.resE (sgn false (ax / ay)) = 0 := hk.out.2.1
        rw [hk1, hk2] at hT1
        refine hT1.mono ?_
        rintro _ w6 ⟨rfl, hb6⟩
        have hr6 := hr.call hb6
        have hE6 := hE1.below hb6
        have hb7 := bCall hb1 hb6
        have hT2 := text_any false (ax % ay) _ w6 hr6 (by first | omega | (rw [hn4.out]; omega)) hE6
        rw [hk.out.2.2.1, hk.out.2.2.2] at hT2
        clear hT1 hk hk1 hk2
        go_wp2_with fail
        refine hT2.mono ?_
        rintro _ w7 ⟨rfl, hb8⟩
        clear hT2
        go_wp2
        go_ret3
        exact ⟨rfl, bCall hb7 hb8⟩
    · have hk := k2 rfl hr0
      have hl0 : (Ig.grp (ax % ay)).length ≠ 0 := fun e => hr0 (Ig.grp_eq_nil.1 e)
      have t0 : decide (0 < (Ig.grp (ax % ay)).length) = true := decide_eq_true (by omega)
      clear k1 k2 hl0 hr0
      generalize hn4 : (Ig.grp (ax % ay)).length = n4 at *
      replace hn4 := Kp.mk hn4
      go_wp2_with fail
      clear t0
      have hly' := Kp.mk ly
      have hlq' := Kp.mk lq
      have p1 := fun w2 (hb2 : Below W1.heap.size W1 w2) => (hb2.cell (p := ⟨w1.heap.size + 1, 1, none⟩) B2.lt).trans (B2.cell 1 rfl)
      refine wp_region_rgl [Eqv (.slice A3 (Ig.grp (ax / ay)).length c3), (fun v W => NumAt W 1 v), (fun v W => NumAt W (ax / ay + 1) v), Eqv (.pointer (some ⟨w1.heap.size + 1, 1, none⟩)), Eqv (.slice A2 (Ig.grp ay).length c2), Eqv (.slice A4 n4 c4), (fun v W => NumAt W (ay - ax % ay) v)] 7 75 (by kernel_rfl) rfl rfl (by kernel_rfl) ?_ ?_ ?_
      · simp only [AllS]
        exact ⟨stab_eqv _, fun v w w' h hb => h.call hb, fun v w w' h hb => h.call hb, stab_eqv _, stab_eqv _, stab_eqv _, fun v w w' h hb => h.call hb, trivial⟩
      · simp only [Users, List.take, List.length]
        refine ⟨?_, ?_, ?_, ?_, ?_, ?_, ?_, trivial⟩
        all_goals (intro vs w2 hb2 hd; have c5 := p1 w2 hb2; have hq2 := hq.call hb2; have hr2 := hr.call hb2; have hv2 := hv.call hb2; clear p1; simp only [putD, Act.put, List.nil_append, List.cons_append, List.setIfInBounds_toArray, List.set_cons_succ, List.set_cons_zero, Nat.reduceAdd])
        · clear hd; go_wp2; exact ⟨Below.refl _ _, rfl⟩
        · clear hd
          have hC := one_any w2
          go_wp2_with fail
          refine hC.mono ?_
          clear hC
          rintro _ w9 ⟨v9, rfl, hn9, hb9⟩
          go_wp2
          exact hn9
        · have e := hd 0 rfl; change vs 0 = _ at e
          have e' : NumAt w2 1 (vs 1) := hd 1 rfl
          clear hd; rw [e]
          have hC := plus_any (ax / ay) 1 _ (vs 1) w2 hq2 e' (by omega) (by rw [grp_one]; decide)
          go_wp2_with fail
          refine hC.mono ?_
          clear hC
          rintro _ w9 ⟨v9, rfl, hn9, hb9⟩
          go_wp2
          exact hn9
        · clear hd; go_wp2; exact ⟨Below.refl _ _, rfl⟩
        · have e := hd 3 rfl; change vs 3 = _ at e; clear hd; rw [e]; go_wp2; exact ⟨Below.refl _ _, rfl⟩
        · clear hd; go_wp2; exact ⟨Below.refl _ _, rfl⟩
        · have e := hd 4 rfl; change vs 4 = _ at e
          have e' := hd 5 rfl; change vs 5 = _ at e'
          clear hd; rw [e, e']
          have hC := minus_any ay (ax % ay) _ _ w2 hv2 hr2 hrle (by omega)
          go_wp2_with fail
          refine hC.mono ?_
          clear hC
          rintro _ w9 ⟨v9, rfl, hn9, hb9⟩
          go_wp2
          exact hn9
      · clear p1
        intro vs wa hba hR
        simp only [AllR, Eqv] at hR
        obtain ⟨-, -, e2, -, -, -, e6, -⟩ := hR
        simp only [List.drop, List.take, List.map, putD, Act.put, List.setIfInBounds_toArray, List.set_cons_succ, List.set_cons_zero, Nat.reduceAdd]
        generalize vs 2 = z2 at *
        generalize vs 6 = z6 at *
        generalize vs 0 = z0, vs 1 = z1, vs 3 = z3, vs 4 = z4, vs 5 = z5
        obtain ⟨A7, c7, rfl, -⟩ := id e2.out
        obtain ⟨A8, c8, rfl, -⟩ := id e6.out
        replace B1 := B1.call hba
        replace B2 := B2.call hba
        have p0 := B1.cell 0 rfl
        have p2 := B2.cell 0 rfl
        replace hb1 := bCall hb1 hba
        replace hE1 := hE1.below hba
        clear hba
        cases ny
        · go_wp2_with fail
          have hT1 := text_any true (ax / ay + 1) _ wa e2 (by omega) hE1
          have hk1 : Ig.resS (sgn true (ax / ay + 1)) = SQ := hk.out.1
          have hk2 : Ig.resE (sgn true (ax / ay + 1)) = 0 := hk.out.2.1
          rw [hk1, hk2] at hT1
          refine hT1.mono ?_
          rintro _ w6 ⟨rfl, hb6⟩
          have hr6 := e6.call hb6
          have hE6 := hE1.below hb6
          have hb7 := bCall hb1 hb6
          have hT2 := text_any false (ay - ax % ay) _ w6 hr6 (by first | omega | (rw [hn4.out]; omega)) hE6
          rw [hk.out.2.2.1, hk.out.2.2.2] at hT2
          clear hT1 hk hk1 hk2
          go_wp2_with fail
          refine hT2.mono ?_
          rintro _ w7 ⟨rfl, hb8⟩
          clear hT2
          go_wp2
          go_ret3
          exact ⟨rfl, bCall hb7 hb8⟩
        · go_wp2_with fail
          have hT1 := text_any false (ax / ay + 1) _ wa e2 (by omega) hE1
          have hk1 : Ig.resS (sgn false (ax / ay + 1)) = SQ := hk.out.1
          have hk2 : Ig.resE (sgn false (ax / ay + 1)) = 0 := hk.out.2.1
          rw [hk1, hk2] at hT1
          refine hT1.mono ?_
          rintro _ w6 ⟨rfl, hb6⟩
          have hr6 := e6.call hb6
          have hE6 := hE1.below hb6
          have hb7 := bCall hb1 hb6
          have hT2 := text_any false (ay - ax % ay) _ w6 hr6 (by first | omega | (rw [hn4.out]; omega)) hE6
          rw [hk.out.2.2.1, hk.out.2.2.2] at hT2
          clear hT1 hk hk1 hk2
          go_wp2_with fail
          refine hT2.mono ?_
          rintro _ w7 ⟨rfl, hb8⟩
          clear hT2
          go_wp2
          go_ret3
          exact ⟨rfl, bCall hb7 hb8⟩
end Go.Proofs.YtllnepdighhkdaaGreatDoor
namespace Go.Proofs.YtllnepdighhkdaaGreatDoor
set_option linter.unusedVariables false
set_option linter.unusedSimpArgs false
open Go.RowKit Go.Shelf
theorem num_unique {W : World} {a b : Nat} {v : Value} (h : NumAt W a v) (k : NumAt W b v) : a = b := by
  obtain ⟨A, c, rfl, hA, -, -⟩ := h.out
  obtain ⟨A', c', e, hA', -, -⟩ := k.out
  simp only [Value.slice.injEq] at e
  obtain ⟨rfl, hl, rfl⟩ := e
  have : Ig.grp a = Ig.grp b := by
    apply List.ext_getElem hl
    intro i h1 h2
    obtain ⟨g, off, rfl, -, hc⟩ := hA (by omega)
    obtain ⟨g', off', e', -, hc'⟩ := hA' (by omega)
    simp only [Option.some.injEq, Addr.mk.injEq, and_true] at e'
    obtain ⟨rfl, rfl⟩ := e'
    have x1 := hc i _ (List.getElem?_eq_getElem h1) 0 _ rfl
    have x2 := hc' i _ (List.getElem?_eq_getElem h2) 0 _ rfl
    rw [x1] at x2
    simpa using x2
  have h1 := Ig.gval_grp a
  rw [this, Ig.gval_grp] at h1
  omega
theorem numV_eq {W : World} {a : Nat} {v : Value} (h : NumAt W a v) : Classical.epsilon (fun k => NumAt W k v) = a :=
  num_unique (Classical.epsilon_spec (p := fun k => NumAt W k v) ⟨a, h⟩) h
set_option maxRecDepth 100000 in
set_option maxHeartbeats 4000000 in
theorem Gcd_not (a b : List UInt8) (w : World) (ha : a.length ≤ 1000000) (hb : b.length ≤ 1000000) (h : Ig.validS a = false ∨ Ig.validS b = false) :
    Calls Tryz.prog 24 #[.string ⟨a.toArray⟩, .string ⟨b.toArray⟩] w fun e w' => e = .returned (.tuple #[.string ⟨#[]⟩, .int .i64 30]) ∧ Below w.heap.size w w' := by
  have hB := both_not a b w ha hb h
  go_enter Tryz.func24, Tryz.ntmps24
  go_wp2_with fail
  refine hB.mono ?_
  rintro _ w1 ⟨rfl, hb1⟩
  have hb2 := bNew (bNewW w1 (.cells #[.bool false, .slice none 0 0] 100)) (.cells #[.bool false, .slice none 0 0] 100)
  have hb3 := bCall hb1 hb2
  clear hB
  go_wp2
  go_ret2
  exact ⟨rfl, hb3⟩
theorem fits_gcd {x y : Int} (hx : Ig.fits x) (hy : Ig.fits y) : Ig.fits ((Nat.gcd x.natAbs y.natAbs : Nat) : Int) := by
  unfold Ig.fits at *
  rw [Int.natAbs_natCast]
  by_cases h : x.natAbs = 0
  · rw [h, Nat.gcd_zero_left]; exact hy
  · exact Nat.lt_of_le_of_lt (Nat.le_of_dvd (by omega) (Nat.gcd_dvd_left _ _)) hx
set_option maxRecDepth 100000 in
set_option maxHeartbeats 8000000 in
theorem Gcd_any (x y : Int) (w : World) (hx : Ig.fits x) (hy : Ig.fits y) (hE : Env w) :
    Calls Tryz.prog 24 #[.string ⟨(Lib.itoa x).toArray⟩, .string ⟨(Lib.itoa y).toArray⟩] w fun e w' => e = .returned (.tuple #[.string ⟨(Lib.itoa ((Nat.gcd x.natAbs y.natAbs : Nat) : Int)).toArray⟩, .int .i64 0]) ∧ Below w.heap.size w w' := by
  have hB := both_any x y w hx hy
  have lx := Ig.fits_len hx
  have ly := Ig.fits_len hy
  have fg := fits_gcd hx hy
  have hres : ∀ k, k = Nat.gcd x.natAbs y.natAbs → Kp (Ig.resS (sgn false k) = Lib.itoa ((Nat.gcd x.natAbs y.natAbs : Nat) : Int) ∧ Ig.resE (sgn false k) = 0) := fun k h => ⟨by
    rw [h, show sgn false (Nat.gcd x.natAbs y.natAbs) = ((Nat.gcd x.natAbs y.natAbs : Nat) : Int) from rfl]
    exact ⟨Ig.resS_fits fg, Ig.resE_fits fg⟩⟩
  clear fg
  generalize Lib.itoa ((Nat.gcd x.natAbs y.natAbs : Nat) : Int) = SG at *
  generalize decide (x < 0) = nx at *
  generalize decide (y < 0) = ny at *
  generalize x.natAbs = ax at *
  generalize y.natAbs = ay at *
  generalize Lib.itoa x = sx at *
  generalize Lib.itoa y = sy at *
  clear hx hy
  go_enter Tryz.func24, Tryz.ntmps24
  go_wp2_with fail
  refine hB.mono ?_
  rintro _ w1 ⟨u, v, rfl, hu, hv, hb1⟩
  obtain ⟨A1, c1, rfl, -⟩ := id hu.out
  obtain ⟨A2, c2, rfl, -⟩ := id hv.out
  clear hB
  have hb2 := bNew (bNewW w1 (.cells #[.bool nx, .slice A1 (Ig.grp ax).length c1] 100)) (.cells #[.bool ny, .slice A2 (Ig.grp ay).length c2] 100)
  have B1 := (Bx.mk w1 100 #[.bool nx, .slice A1 (Ig.grp ax).length c1]).new (.cells #[.bool ny, .slice A2 (Ig.grp ay).length c2] 100)
  have B2 := Bx.mk (w1.alloc (.cells #[.bool nx, .slice A1 (Ig.grp ax).length c1] 100)) 100 #[.bool ny, .slice A2 (Ig.grp ay).length c2]
  rw [alloc_size] at B2
  go_wp2_with fail
  replace hu := hu.call hb2
  replace hv := hv.call hb2
  replace hb1 := bCall hb1 hb2
  generalize hg : ((w1.alloc (.cells #[.bool nx, .slice A1 (Ig.grp ax).length c1] 100)).alloc (.cells #[.bool ny, .slice A2 (Ig.grp ay).length c2] 100)) = W0 at *
  clear hg hb2
  have q1 := fun w2 (hb2 : Below W0.heap.size W0 w2) => (hb2.cell (p := ⟨w1.heap.size, 1, none⟩) B1.lt).trans (B1.cell 1 rfl)
  have q2 := fun w2 (hb2 : Below W0.heap.size W0 w2) => (hb2.cell (p := ⟨w1.heap.size + 1, 1, none⟩) B2.lt).trans (B2.cell 1 rfl)
  refine wp_region_rgl [Eqv (.pointer (some ⟨w1.heap.size, 1, none⟩)), Eqv (.slice A1 (Ig.grp ax).length c1), Eqv (.pointer (some ⟨w1.heap.size + 1, 1, none⟩)), Eqv (.slice A2 (Ig.grp ay).length c2), Eqv (.slice A1 (Ig.grp ax).length c1), Eqv (.slice A2 (Ig.grp ay).length c2)] 6 42 (by kernel_rfl) rfl rfl (by kernel_rfl) ?_ ?_ ?_
  · simp only [AllS]
    exact ⟨stab_eqv _, stab_eqv _, stab_eqv _, stab_eqv _, stab_eqv _, stab_eqv _, trivial⟩
  · simp only [Users, List.take, List.length]
    refine ⟨?_, ?_, ?_, ?_, ?_, ?_, trivial⟩
    all_goals (intro vs w2 hb2 hd; have p1 := q1 w2 hb2; have p2 := q2 w2 hb2; clear q1 q2; simp only [putD, Act.put, List.nil_append, List.cons_append, List.setIfInBounds_toArray, List.set_cons_succ, List.set_cons_zero, Nat.reduceAdd])
    · clear hd; go_wp2; exact ⟨Below.refl _ _, rfl⟩
    · have e := hd 0 rfl; change vs 0 = _ at e; clear hd; rw [e]; go_wp2; exact ⟨Below.refl _ _, rfl⟩
    · clear hd; go_wp2; exact ⟨Below.refl _ _, rfl⟩
    · have e := hd 2 rfl; change vs 2 = _ at e; clear hd; rw [e]; go_wp2; exact ⟨Below.refl _ _, rfl⟩
    · have e := hd 1 rfl; change vs 1 = _ at e; clear hd; rw [e]; go_wp2; exact ⟨Below.refl _ _, rfl⟩
    · have e := hd 3 rfl; change vs 3 = _ at e; clear hd; rw [e]; go_wp2; exact ⟨Below.refl _ _, rfl⟩
  · clear q1 q2
    intro vs wa hba hR
    simp only [AllR, Eqv] at hR
    obtain ⟨e0, e1, e2, e3, e4, e5, -⟩ := hR
    simp only [List.drop, List.take, List.map, putD, Act.put, List.setIfInBounds_toArray, List.set_cons_succ, List.set_cons_zero, Nat.reduceAdd]
    rw [e0, e1, e2, e3, e4, e5]
    replace hu := hu.call hba
    replace hv := hv.call hba
    replace hb1 := bCall hb1 hba
    clear e0 e1 e2 e3 e4 e5 hba B1 B2
    go_wp2
    go_loopw [9, 10, 11, 12] (fun s9 s10 s11 s12 wr => ∃ k l, NumAt wr k s9 ∧ NumAt wr l s10 ∧ (Ig.grp k).length ≤ 50 ∧ (Ig.grp l).length ≤ 50 ∧ Nat.gcd k l = Nat.gcd ax ay ∧ Below w.heap.size w wr) (fun s9 s10 s11 s12 wr => Classical.epsilon (fun k => NumAt wr k s10))
    case atStart => exact ⟨ax, ay, hu, hv, lx, ly, rfl, hb1⟩
    case round =>
      clear hu hv hb1 lx ly
      obtain ⟨k, l, hk, hl, lk, ll, hg, hb⟩ := hrel
      have hm := numV_eq hl
      obtain ⟨A3, c3, rfl, -⟩ := id hk.out
      obtain ⟨A4, c4, rfl, -⟩ := id hl.out
      by_cases h0 : l = 0
      · subst h0
        have hl0 : (Ig.grp 0).length = 0 := by rw [Ig.grp_zero]; rfl
        have hr := hres k (by rw [← hg, Nat.gcd_zero_right])
        have hT := text_any false k _ wr hk (by omega) (hE.below hb)
        rw [hr.out.1, hr.out.2] at hT
        simp only [hl0]
        clear hres hm hg hl hr
        go_wp2_with fail
        refine hT.mono ?_
        rintro _ w5 ⟨rfl, hb5⟩
        clear hT
        go_wp2
        go_ret2
        exact ⟨rfl, bCall hb hb5⟩
      · have hl0 : (Ig.grp l).length ≠ 0 := fun e => h0 (Ig.grp_eq_nil.1 e)
        have t0 : decide (((Ig.grp l).length : Int) > 0) = true := decide_eq_true (by omega)
        have hO := over_any k l _ _ wr hk hl (by omega) (by omega) (by omega)
        go_wp2_with fail
        refine hO.mono ?_
        rintro _ w5 ⟨q, r, rfl, hq, hr, hb5⟩
        clear hO t0
        have hl5 := hl.call hb5
        have hm5 := numV_eq hr
        obtain ⟨A5, c5, rfl, -⟩ := id hq.out
        obtain ⟨A6, c6, rfl, -⟩ := id hr.out
        go_wp2
        refine ⟨⟨l, k % l, hl5, hr, ll, Ig.grp_len_of lk (Nat.mod_le _ _), by rw [← hg, Nat.gcd_comm k l, Nat.gcd_rec l k, Nat.gcd_comm], bCall hb hb5⟩, ?_⟩
        rw [hm, hm5]
        exact Nat.mod_lt _ (by omega)
end Go.Proofs.YtllnepdighhkdaaGreatDoor
namespace Ig
theorem root_start {x k : Nat} (h : (grp x).length ≤ 2 * k) : x < (10000 ^ k + 1) * (10000 ^ k + 1) := by
  have h1 := Nat.lt_of_lt_of_le (grp_lt x) (Nat.pow_le_pow_right (show 0 < 10000 by decide) h)
  rw [Nat.mul_comm 2 k, Nat.pow_mul, Nat.pow_two] at h1
  exact Nat.lt_of_lt_of_le h1 (Nat.mul_le_mul (Nat.le_succ _) (Nat.le_succ _))
theorem root_next {x r : Nat} (hr : 0 < r) : x < ((r + x / r) / 2 + 1) * ((r + x / r) / 2 + 1) := by
  rcases Nat.lt_or_ge x (((r + x / r) / 2 + 1) * ((r + x / r) / 2 + 1)) with h | h
  · exact h
  · have := newton_above hr h
    omega
theorem root_pos {x r : Nat} (hx : 0 < x) (hr : 0 < r) : 0 < (r + x / r) / 2 := by
  rcases Nat.lt_or_ge 1 r with h | h
  · have h2 : 2 ≤ r + x / r := Nat.le_trans h (Nat.le_add_right _ _)
    generalize r + x / r = y at *
    omega
  · obtain rfl : r = 1 := by omega
    rw [Nat.div_one]; omega
theorem grp_pow (k : Nat) : grp (10000 ^ k) = List.replicate k 0 ++ [1] := by
  have hG : Gr (List.replicate k (0 : Int) ++ [1]) := fun g hg => by
    rcases List.mem_append.1 hg with h | h
    · rw [(List.mem_replicate.1 h).2]; omega
    · obtain rfl : g = 1 := by simpa using h
      omega
  have h := grp_of hG (by simp)
  have hv : ∀ k, gval (List.replicate k (0 : Int)) = 0 := by
    intro k
    induction k with
    | zero => rfl
    | succ k ih => rw [List.replicate_succ, gval, ih]; rfl
  rw [h, gval_append, hv, List.length_replicate]
  have e : (0 : Int) + 10000 ^ k * gval [1] = ((10000 ^ k : Nat) : Int) := by simp [gval]
  rw [e, Int.toNat_natCast]
end Ig
namespace Go.Proofs.YtllnepdighhkdaaGreatDoor
set_option linter.unusedVariables false
set_option linter.unusedSimpArgs false
open Go.RowKit Go.Shelf
theorem FromInt_any (n : Int) (w : World) (h0 : -9223372036854775808 ≤ n) (h1 : n ≤ 9223372036854775807) (hE : Env w) :
    Calls Tryz.prog 34 #[.int .i64 n] w fun e w' => e = .returned (.string ⟨(Lib.itoa n).toArray⟩) ∧ Below w.heap.size w w' := by
  have hC := Itoa_any n w h0 h1 hE
  go_enter Tryz.func34, Tryz.ntmps34
  go_wp2_with fail
  refine hC.mono ?_
  rintro _ w1 ⟨rfl, hb⟩
  clear hC
  go_wp2
  go_ret
  exact ⟨rfl, hb⟩
theorem flat_ints (l : List Int) : l.flatMap intC = l.map (Value.int .i64) := by
  induction l with
  | nil => rfl
  | cons c l ih => rw [List.flatMap_cons, ih]; rfl
theorem num_digit (w : World) (d : Nat) (h0 : 0 < d) (h1 : d < 10000) : NumAt (w.alloc (.cells #[.int .i64 (d : Int)] 3)) d (.slice (some ⟨w.heap.size, 0, none⟩) 1 1) := by
  have hg : Ig.grp d = [(d : Int)] := by rw [Ig.grp_pos (by omega), show d / 10000 = 0 by omega, Ig.grp_zero, Nat.mod_eq_of_lt h1]
  have hB := Bx.mk w 3 #[.int .i64 (d : Int)]
  refine ⟨some ⟨w.heap.size, 0, none⟩, 1, by rw [hg]; rfl, ?_, by rw [hg]; exact Nat.le_refl 1, by decide⟩
  rw [hg]
  intro _
  refine ⟨w.heap.size, 0, rfl, hB.lt, fun i c hi j u hj => ?_⟩
  obtain rfl : i = 0 := by rcases i with _ | i; · rfl
                           · simp at hi
  obtain rfl : c = (d : Int) := by simpa using hi.symm
  obtain rfl : j = 0 := by rcases j with _ | j; · rfl
                           · simp [intC] at hj
  obtain rfl : u = .int .i64 (d : Int) := by simpa [intC] using hj.symm
  exact hB.cell 0 rfl
theorem itoa_zero : Lib.itoa 0 = [48] := by decide +kernel
set_option maxRecDepth 100000 in
set_option maxHeartbeats 4000000 in
theorem Root_not (a : List UInt8) (w : World) (ha : a.length ≤ 1000000) (h : Ig.validS a = false) :
    Calls Tryz.prog 26 #[.string ⟨a.toArray⟩] w fun e w' => e = .returned (.tuple #[.string ⟨#[]⟩, .int .i64 30]) ∧ Below w.heap.size w w' := by
  have hB := both_not a [48] w ha (by decide) (.inl h)
  go_enter Tryz.func26, Tryz.ntmps26
  go_wp2_with fail
  refine hB.mono ?_
  rintro _ w1 ⟨rfl, hb1⟩
  have hb2 := bNew (bNewW w1 (.cells #[.bool false, .slice none 0 0] 100)) (.cells #[.bool false, .slice none 0 0] 100)
  have hb3 := bCall hb1 hb2
  clear hB
  go_wp2
  go_ret2
  exact ⟨rfl, hb3⟩
set_option maxRecDepth 100000 in
set_option maxHeartbeats 4000000 in
theorem Root_neg (x : Int) (w : World) (hx : Ig.fits x) (h : x < 0) :
    Calls Tryz.prog 26 #[.string ⟨(Lib.itoa x).toArray⟩] w fun e w' => e = .returned (.tuple #[.string ⟨#[]⟩, .int .i64 30]) ∧ Below w.heap.size w w' := by
  have hB := both_any x 0 w hx (by unfold Ig.fits; decide)
  rw [decide_eq_true h, itoa_zero, show decide ((0 : Int) < 0) = false from rfl] at hB
  generalize x.natAbs = ax at *
  generalize Lib.itoa x = sx at *
  clear h hx
  go_enter Tryz.func26, Tryz.ntmps26
  go_wp2_with fail
  refine hB.mono ?_
  rintro _ w1 ⟨u, v, rfl, hu, hv, hb1⟩
  obtain ⟨A1, c1, rfl, -⟩ := id hu.out
  obtain ⟨A2, c2, rfl, -⟩ := id hv.out
  have hb2 := bNew (bNewW w1 (.cells #[.bool true, .slice A1 (Ig.grp ax).length c1] 100)) (.cells #[.bool false, .slice A2 (Ig.grp (0 : Int).natAbs).length c2] 100)
  have hb3 := bCall hb1 hb2
  clear hB hu hv
  generalize (Ig.grp (0 : Int).natAbs).length = l0 at *
  go_wp2
  go_ret2
  exact ⟨rfl, hb3⟩
set_option maxRecDepth 100000 in
set_option maxHeartbeats 8000000 in
theorem Root_any (x : Int) (w : World) (hx : Ig.fits x) (h0 : 0 ≤ x) (hE : Env w) :
    Calls Tryz.prog 26 #[.string ⟨(Lib.itoa x).toArray⟩] w fun e w' => ∃ s : Nat, e = .returned (.tuple #[.string ⟨(Lib.itoa (s : Int)).toArray⟩, .int .i64 0]) ∧ s * s ≤ x.natAbs ∧ x.natAbs < (s + 1) * (s + 1) ∧ Below w.heap.size w w' := by
  have hB := both_any x 0 w hx (by unfold Ig.fits; decide)
  have lx := Ig.fits_len hx
  rw [decide_eq_false (by omega), itoa_zero, show decide ((0 : Int) < 0) = false from rfl, show (0 : Int).natAbs = 0 from rfl] at hB
  have hfit : ∀ s : Nat, s * s ≤ x.natAbs → Kp (Ig.resS (sgn false s) = Lib.itoa (s : Int) ∧ Ig.resE (sgn false s) = 0) := fun s hs => ⟨by
    have hf : Ig.fits (s : Int) := by
      unfold Ig.fits at *
      rw [Int.natAbs_natCast]
      exact Nat.lt_of_le_of_lt (Nat.le_trans (Nat.le_mul_self s) hs) hx
    exact ⟨Ig.resS_fits hf, Ig.resE_fits hf⟩⟩
  generalize x.natAbs = ax at *
  generalize Lib.itoa x = sx at *
  clear hx h0
  go_enter Tryz.func26, Tryz.ntmps26
  go_wp2_with fail
  refine hB.mono ?_
  rintro _ w1 ⟨u, v, rfl, hu, hv, hb1⟩
  obtain ⟨A1, c1, rfl, -⟩ := id hu.out
  obtain ⟨A2, c2, rfl, -⟩ := id hv.out
  clear hB hv
  have hl00 : (Ig.grp 0).length = 0 := by rw [Ig.grp_zero]; rfl
  simp only [hl00]
  have hb2 := bNew (bNewW w1 (.cells #[.bool false, .slice A1 (Ig.grp ax).length c1] 100)) (.cells #[.bool false, .slice A2 0 c2] 100)
  have B1 := (Bx.mk w1 100 #[.bool false, .slice A1 (Ig.grp ax).length c1]).new (.cells #[.bool false, .slice A2 0 c2] 100)
  replace hu := hu.call hb2
  replace hb1 := bCall hb1 hb2
  have hst := Kp.mk (Ig.root_start (x := ax) (k := ((Ig.grp ax).length + 1) / 2) (by omega))
  have hkl : ((Ig.grp ax).length + 1) / 2 ≤ 25 := by omega
  have hk : (((Ig.grp ax).length : Int) + 1) / 2 = ((((Ig.grp ax).length + 1) / 2 : Nat) : Int) := by omega
  have hmk := fun w0 => make_nums (((Ig.grp ax).length + 1) / 2) (by omega) w0
  rw [← hk] at hmk
  clear hk
  generalize ((Ig.grp ax).length + 1) / 2 = k at *
  have hA0 := alloc_size w1 (.cells #[.bool false, .slice A1 (Ig.grp ax).length c1] 100)
  have hA1 := alloc_size (w1.alloc (.cells #[.bool false, .slice A1 (Ig.grp ax).length c1] 100)) (.cells #[.bool false, .slice A2 0 c2] 100)
  rw [hA0] at hA1
  have hR0 := Bx.mk ((w1.alloc (.cells #[.bool false, .slice A1 (Ig.grp ax).length c1] 100)).alloc (.cells #[.bool false, .slice A2 0 c2] 100)) 3 (madeCells #[.int .i64 0] k)
  have hA2 := alloc_size ((w1.alloc (.cells #[.bool false, .slice A1 (Ig.grp ax).length c1] 100)).alloc (.cells #[.bool false, .slice A2 0 c2] 100)) (.cells (madeCells #[.int .i64 0] k) 3)
  rw [hA1] at hR0 hA2
  have hsrc := src_one (((w1.alloc (.cells #[.bool false, .slice A1 (Ig.grp ax).length c1] 100)).alloc (.cells #[.bool false, .slice A2 0 c2] 100)).alloc (.cells (madeCells #[.int .i64 0] k) 3)) 1
  have hbb := bNew (bNewW ((w1.alloc (.cells #[.bool false, .slice A1 (Ig.grp ax).length c1] 100)).alloc (.cells #[.bool false, .slice A2 0 c2] 100)) (.cells (madeCells #[.int .i64 0] k) 3)) (.cells #[.int .i64 1] 3)
  rw [hA2] at hsrc
  have hrow : RowC 3 1 (w1.heap.size + 1 + 1) k k (madeCells #[.int .i64 0] k).toList (.slice (some ⟨w1.heap.size + 1 + 1, 0, none⟩) k k) ((((w1.alloc (.cells #[.bool false, .slice A1 (Ig.grp ax).length c1] 100)).alloc (.cells #[.bool false, .slice A2 0 c2] 100)).alloc (.cells (madeCells #[.int .i64 0] k) 3)).alloc (.cells #[.int .i64 1] 3)) :=
    ⟨w1.heap.size + 1 + 1, _, rfl, Nat.le_refl _, Nat.le_refl _, hR0.new _, by simp [madeCells], by rw [List.take_of_length_le (by simp [madeCells])]⟩
  have hsz4 : w1.heap.size + 1 + 1 ≤ ((((w1.alloc (.cells #[.bool false, .slice A1 (Ig.grp ax).length c1] 100)).alloc (.cells #[.bool false, .slice A2 0 c2] 100)).alloc (.cells (madeCells #[.int .i64 0] k) 3)).alloc (.cells #[.int .i64 1] 3)).heap.size := by rw [alloc_size, hA2]; omega
  go_wp2_with (at_builtin; refine wpList_append_nums rfl (.tmp 29) (.tmp 30) rfl (w1.heap.size + 1 + 1) k k 1 (madeCells #[.int .i64 0] k).toList [.int .i64 1] _ _ rfl rfl hrow hsz4 hsrc (by unfold maxLen; omega) (by omega) ?_; intro v' w' cap' e1 e2 e3 e4)
  have hb4 := e2 trivial
  have hNr : NumAt w' (10000 ^ k) v' := by
    have hfl : (madeCells #[.int .i64 0] k).toList ++ [.int .i64 1] = (Ig.grp (10000 ^ k)).flatMap intC := by
      rw [Ig.grp_pow, List.flatMap_append]
      congr 1
      rw [flat_ints, List.map_replicate]
      refine List.ext_getElem (by simp [madeCells]) fun i h1 h2 => ?_
      simp [madeCells, Nat.mod_one]
    have hln : k + 1 = (Ig.grp (10000 ^ k)).length := by rw [Ig.grp_pow]; simp
    rw [hfl, hln] at e3
    obtain ⟨A, h1, h2, h3⟩ := RowC.at (f := intC) (size := 1) (fun _ => rfl) e3
    exact ⟨A, cap', h1, h2, h3, e4⟩
  have B1' := (B1.call hbb).call hb4
  have hu' := (hu.call hbb).call hb4
  have hb1' := bCall (bCall hb1 hbb) hb4
  have hrl : (Ig.grp (10000 ^ k)).length ≤ 26 := by rw [Ig.grp_pow]; simp; omega
  have hrp : 0 < 10000 ^ k := Nat.pos_of_ne_zero (by simp)
  clear hrow hsrc hbb hR0 hA0 hA1 hA2 hsz4 hmk e1 e2 e3 e4 hb4 B1 hu hb1 hb2
  generalize 10000 ^ k = r0 at *
  go_loopw [7, 8, 9, 10, 11] (fun s7 s8 s9 s10 s11 wr => ∃ r, NumAt wr r s7 ∧ 0 < r ∧ (Ig.grp r).length ≤ 26 ∧ Kp (ax < (r + 1) * (r + 1)) ∧ Bx wr w1.heap.size 100 #[.bool false, .slice A1 (Ig.grp ax).length c1] ∧ NumAt wr ax (.slice A1 (Ig.grp ax).length c1) ∧ Below w.heap.size w wr) (fun s7 s8 s9 s10 s11 wr => Classical.epsilon (fun k => NumAt wr k s7))
  case atStart => exact ⟨r0, hNr, hrp, hrl, hst, B1', hu', hb1'⟩
  case round =>
    clear hNr hrp hrl hst B1' hu' hb1'
    obtain ⟨r, hr, hrp, hrl, hst, B1, hu, hb⟩ := hrel
    have hm := numV_eq hr
    obtain ⟨A3, c3, rfl, -⟩ := id hr.out
    have k1 := B1.cell 1 rfl
    by_cases hz : ax = 0
    · have hf := hfit 0 (by omega)
      subst hz
      simp only [hl00] at k1
      clear hfit hm
      rw [show ((0 : Nat) : Int) = 0 from rfl, itoa_zero] at hf
      go_wp2
      go_ret2
      exact ⟨0, by rw [show ((0 : Nat) : Int) = 0 from rfl, itoa_zero]; rfl, by decide, by decide, hb⟩
    · have hl0 : (Ig.grp ax).length ≠ 0 := fun e => hz (Ig.grp_eq_nil.1 e)
      have t0 : decide (((Ig.grp ax).length : Int) > 0) = true := decide_eq_true (by omega)
      have hO := over_any ax r _ _ wr hu hr hrp (by omega) (by omega)
      go_wp2_with fail
      refine hO.mono ?_
      rintro _ w5 ⟨q, qr, rfl, hq, hqr, hb5⟩
      clear hO t0
      replace hu := hu.call hb5
      replace hr := hr.call hb5
      replace B1 := B1.call hb5
      replace hb := bCall hb hb5
      obtain ⟨A5, c5, rfl, -⟩ := id hq.out
      obtain ⟨A6, c6, rfl, -⟩ := id hqr.out
      have hql : (Ig.grp (ax / r)).length ≤ 50 := Ig.grp_len_of lx (Nat.div_le_self _ _)
      have hP := plus_any r (ax / r) _ _ w5 hr hq (by omega) (by omega)
      go_wp2_with fail
      refine hP.mono ?_
      rintro _ w6 ⟨sm, rfl, hsm, hb6⟩
      clear hP hb5
      replace hu := hu.call hb6
      replace hr := hr.call hb6
      replace B1 := B1.call hb6
      replace hb := bCall hb hb6
      obtain ⟨A7, c7, rfl, -⟩ := id hsm.out
      have hb7 := bNewW w6 (.cells #[.int .i64 2] 3)
      have h2 := num_digit w6 2 (by decide) (by decide)
      have hO := over_any (r + ax / r) 2 _ _ _ (hsm.call hb7) h2 (by decide) (by have := Ig.grp_add_len (k := 50) (a := r) (b := ax / r) (by omega) hql; omega) (by rw [show Ig.grp 2 = [2] by rw [Ig.grp_pos (by decide), show 2 / 10000 = 0 from rfl, Ig.grp_zero]; rfl]; decide)
      go_wp2_with fail
      refine hO.mono ?_
      rintro _ w8 ⟨nx, nr, rfl, hnx, hnr, hb8⟩
      clear hO hb6
      replace hb8 := bCall hb7 hb8
      replace hu := hu.call hb8
      replace hr := hr.call hb8
      replace B1 := B1.call hb8
      replace hb := bCall hb hb8
      obtain ⟨A8, c8, rfl, -⟩ := id hnx.out
      obtain ⟨A9, c9, rfl, -⟩ := id hnr.out
      have hnl : (Ig.grp ((r + ax / r) / 2)).length ≤ 51 := Ig.grp_len_of (Ig.grp_add_len (k := 50) (a := r) (b := ax / r) (by omega) hql) (Nat.div_le_self _ _)
      have hnext := Kp.mk (Ig.root_next (x := ax) hrp)
      have hnp := Ig.root_pos (x := ax) (by omega) hrp
      have hend := fun h => Ig.newton hrp hst.out (x := ax) (r := r) h
      have hC := compare_any ((r + ax / r) / 2) r _ _ w8 hnx hr (by omega) (by omega)
      clear hq hqr hsm h2 hnr hb7 hb8 hql
      generalize (r + ax / r) / 2 = nn at *
      rcases Nat.lt_or_ge nn r with hlt | hge
      · rw [Ig.cmpI_lt hlt] at hC
        go_wp2_with fail
        refine hC.mono ?_
        rintro _ w9 ⟨rfl, hb9⟩
        clear hC hend
        have hnx9 := hnx.call hb9
        have hm9 := numV_eq hnx9
        have hr9 := B1.call hb9
        go_wp2
        refine ⟨⟨nn, hnx9, hnp, Ig.grp_len_of hrl (Nat.le_of_lt hlt), hnext, hr9, hu.call hb9, bCall hb hb9⟩, ?_⟩
        rw [hm, hm9]
        exact hlt
      · have hfin := hend hge
        have hf := hfit r hfin
        have t5 := cmpI_ge hge
        generalize Ig.cmpI nn r = ci at *
        go_wp2_with fail
        refine hC.mono ?_
        rintro _ w9 ⟨rfl, hb9⟩
        have hT := text_any false r _ w9 (hr.call hb9) (by omega) (hE.below (bCall hb hb9))
        rw [hf.out.1, hf.out.2] at hT
        clear hC hend hfit hm
        go_wp2_with fail
        refine hT.mono ?_
        rintro _ w10 ⟨rfl, hb10⟩
        clear hT
        go_wp2
        go_ret2
        exact ⟨r, rfl, hfin, hst.out, bCall (bCall hb hb9) hb10⟩
end Go.Proofs.YtllnepdighhkdaaGreatDoor
