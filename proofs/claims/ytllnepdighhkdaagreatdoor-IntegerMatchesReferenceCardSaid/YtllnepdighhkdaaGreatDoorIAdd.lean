/- Add, Sub, Mul, Compare of package integer. -/
import Derived.Test.YtllnepdighhkdaaGreatDoorISplus
namespace Ig
theorem fits_len {z : Int} (h : fits z) : (grp z.natAbs).length ≤ 50 := by
  refine grp_len ?_
  have : (10000 : Nat) ^ 50 = 10 ^ 200 := by rw [show (10000 : Nat) = 10 ^ 4 from rfl, ← Nat.pow_mul]
  rw [this]
  exact h
theorem grp_len_of {a b k : Nat} (h : (grp b).length ≤ k) (hab : a ≤ b) : (grp a).length ≤ k :=
  grp_len (Nat.lt_of_le_of_lt hab (Nat.lt_of_lt_of_le (grp_lt b) (Nat.pow_le_pow_right (by decide) h)))
theorem grp_add_len {a b k : Nat} (ha : (grp a).length ≤ k) (hb : (grp b).length ≤ k) : (grp (a + b)).length ≤ k + 1 := by
  refine grp_len ?_
  have h1 := Nat.lt_of_lt_of_le (grp_lt a) (Nat.pow_le_pow_right (show 0 < 10000 by decide) ha)
  have h2 := Nat.lt_of_lt_of_le (grp_lt b) (Nat.pow_le_pow_right (show 0 < 10000 by decide) hb)
  rw [Nat.pow_succ]
  generalize 10000 ^ k = p at *
  omega
end Ig
namespace Go.Proofs.YtllnepdighhkdaaGreatDoor
set_option linter.unusedVariables false
set_option linter.unusedSimpArgs false
open Go.RowKit Go.Shelf
theorem sgn_of (x : Int) : sgn (decide (x < 0)) x.natAbs = x := by
  unfold sgn
  by_cases h : x < 0
  · rw [decide_eq_true h]; simp; omega
  · rw [decide_eq_false h]; simp; omega
set_option maxRecDepth 100000 in
set_option maxHeartbeats 4000000 in
theorem Add_any (x y : Int) (w : World) (hx : Ig.fits x) (hy : Ig.fits y) (hE : Env w) :
    Calls Tryz.prog 16 #[.string ⟨(Lib.itoa x).toArray⟩, .string ⟨(Lib.itoa y).toArray⟩] w fun e w' => e = .returned (.tuple #[.string ⟨(Ig.resS (x + y)).toArray⟩, .int .i64 (Ig.resE (x + y))]) ∧ Below w.heap.size w w' := by
  have hB := both_any x y w hx hy
  have lx := Ig.fits_len hx
  have ly := Ig.fits_len hy
  have ex := sgn_of x
  have ey := sgn_of y
  have exy : Kp (sgn (decide (x < 0)) x.natAbs + sgn (decide (y < 0)) y.natAbs = x + y) := ⟨by rw [ex, ey]⟩
  generalize x + y = z at *
  generalize decide (x < 0) = nx at *
  generalize decide (y < 0) = ny at *
  generalize x.natAbs = ax at *
  generalize y.natAbs = ay at *
  generalize Lib.itoa x = sx at *
  generalize Lib.itoa y = sy at *
  clear hx hy ex ey
  go_enter Tryz.func16, Tryz.ntmps16
  go_wp2_with fail
  refine hB.mono ?_
  rintro _ w1 ⟨u, v, rfl, hu, hv, hb1⟩
  obtain ⟨A1, c1, rfl, -⟩ := id hu.out
  obtain ⟨A2, c2, rfl, -⟩ := id hv.out
  clear hB
  go_wp2_with fail
  have hb2 := bNew (bNewW w1 (.cells #[.bool nx, .slice A1 (Ig.grp ax).length c1] 100)) (.cells #[.bool ny, .slice A2 (Ig.grp ay).length c2] 100)
  have hP := splus_any nx ny ax ay _ _ _ (hu.call hb2) (hv.call hb2) (by omega) (by omega)
  refine hP.mono ?_
  rintro _ w3 ⟨n, c, r, rfl, hr, hsg, hle, hb3⟩
  rw [exy.out] at hsg
  have hb4 := bCall (bCall hb1 hb2) hb3
  have hlc : (Ig.grp c).length ≤ 50 + 1 := Ig.grp_len_of (Ig.grp_add_len lx ly) hle
  have hT := text_any n c r w3 hr (by omega) (hE.below hb4)
  rw [hsg] at hT
  clear hP hb2 hu hv hb3 exy
  obtain ⟨A3, c3, rfl, -⟩ := id hr.out
  go_wp2_with fail
  refine hT.mono ?_
  rintro _ w5 ⟨rfl, hb5⟩
  clear hT
  go_wp2
  go_ret2
  exact ⟨rfl, bCall hb4 hb5⟩
set_option maxRecDepth 100000 in
set_option maxHeartbeats 4000000 in
theorem Add_not (a b : List UInt8) (w : World) (ha : a.length ≤ 1000000) (hb : b.length ≤ 1000000) (h : Ig.validS a = false ∨ Ig.validS b = false) :
    Calls Tryz.prog 16 #[.string ⟨a.toArray⟩, .string ⟨b.toArray⟩] w fun e w' => e = .returned (.tuple #[.string ⟨#[]⟩, .int .i64 30]) ∧ Below w.heap.size w w' := by
  have hB := both_not a b w ha hb h
  go_enter Tryz.func16, Tryz.ntmps16
  go_wp2_with fail
  refine hB.mono ?_
  rintro _ w1 ⟨rfl, hb1⟩
  have hb2 := bNew (bNewW w1 (.cells #[.bool false, .slice none 0 0] 100)) (.cells #[.bool false, .slice none 0 0] 100)
  have hb3 := bCall hb1 hb2
  clear hB
  go_wp2
  go_ret2
  exact ⟨rfl, hb3⟩
theorem sgn_not (n : Bool) (a : Nat) : sgn (!n) a = - sgn n a := by cases n <;> simp [sgn]
set_option maxRecDepth 100000 in
set_option maxHeartbeats 4000000 in
theorem Sub_any (x y : Int) (w : World) (hx : Ig.fits x) (hy : Ig.fits y) (hE : Env w) :
    Calls Tryz.prog 18 #[.string ⟨(Lib.itoa x).toArray⟩, .string ⟨(Lib.itoa y).toArray⟩] w fun e w' => e = .returned (.tuple #[.string ⟨(Ig.resS (x - y)).toArray⟩, .int .i64 (Ig.resE (x - y))]) ∧ Below w.heap.size w w' := by
  have hB := both_any x y w hx hy
  have lx := Ig.fits_len hx
  have ly := Ig.fits_len hy
  have ex := sgn_of x
  have ey := sgn_of y
  have exy : Kp (sgn (decide (x < 0)) x.natAbs + sgn (!decide (y < 0)) y.natAbs = x - y) := ⟨by rw [sgn_not, ex, ey]; omega⟩
  generalize x - y = z at *
  generalize decide (x < 0) = nx at *
  generalize decide (y < 0) = ny at *
  generalize x.natAbs = ax at *
  generalize y.natAbs = ay at *
  generalize Lib.itoa x = sx at *
  generalize Lib.itoa y = sy at *
  clear hx hy ex ey
  go_enter Tryz.func18, Tryz.ntmps18
  go_wp2_with fail
  refine hB.mono ?_
  rintro _ w1 ⟨u, v, rfl, hu, hv, hb1⟩
  obtain ⟨A1, c1, rfl, -⟩ := id hu.out
  obtain ⟨A2, c2, rfl, -⟩ := id hv.out
  clear hB
  have hb2 := bNew (bNewW w1 (.cells #[.bool nx, .slice A1 (Ig.grp ax).length c1] 100)) (.cells #[.bool (!ny), .slice A2 (Ig.grp ay).length c2] 100)
  go_wp2_with fail
  have hP := splus_any nx (!ny) ax ay _ _ _ (hu.call hb2) (hv.call hb2) (by omega) (by omega)
  refine hP.mono ?_
  rintro _ w3 ⟨n, c, r, rfl, hr, hsg, hle, hb3⟩
  rw [exy.out] at hsg
  have hb4 := bCall (bCall hb1 hb2) hb3
  have hlc : (Ig.grp c).length ≤ 50 + 1 := Ig.grp_len_of (Ig.grp_add_len lx ly) hle
  have hT := text_any n c r w3 hr (by omega) (hE.below hb4)
  rw [hsg] at hT
  clear hP hb2 hu hv hb3 exy
  obtain ⟨A3, c3, rfl, -⟩ := id hr.out
  go_wp2_with fail
  refine hT.mono ?_
  rintro _ w5 ⟨rfl, hb5⟩
  clear hT
  go_wp2
  go_ret2
  exact ⟨rfl, bCall hb4 hb5⟩
set_option maxRecDepth 100000 in
set_option maxHeartbeats 4000000 in
theorem Sub_not (a b : List UInt8) (w : World) (ha : a.length ≤ 1000000) (hb : b.length ≤ 1000000) (h : Ig.validS a = false ∨ Ig.validS b = false) :
    Calls Tryz.prog 18 #[.string ⟨a.toArray⟩, .string ⟨b.toArray⟩] w fun e w' => e = .returned (.tuple #[.string ⟨#[]⟩, .int .i64 30]) ∧ Below w.heap.size w w' := by
  have hB := both_not a b w ha hb h
  go_enter Tryz.func18, Tryz.ntmps18
  go_wp2_with fail
  refine hB.mono ?_
  rintro _ w1 ⟨rfl, hb1⟩
  have hb2 := bNew (bNewW w1 (.cells #[.bool false, .slice none 0 0] 100)) (.cells #[.bool false, .slice none 0 0] 100)
  have hb3 := bCall hb1 hb2
  clear hB
  go_wp2
  go_ret2
  exact ⟨rfl, hb3⟩
set_option maxRecDepth 100000 in
set_option maxHeartbeats 4000000 in
theorem Mul_not (a b : List UInt8) (w : World) (ha : a.length ≤ 1000000) (hb : b.length ≤ 1000000) (h : Ig.validS a = false ∨ Ig.validS b = false) :
    Calls Tryz.prog 20 #[.string ⟨a.toArray⟩, .string ⟨b.toArray⟩] w fun e w' => e = .returned (.tuple #[.string ⟨#[]⟩, .int .i64 30]) ∧ Below w.heap.size w w' := by
  have hB := both_not a b w ha hb h
  go_enter Tryz.func20, Tryz.ntmps20
  go_wp2_with fail
  refine hB.mono ?_
  rintro _ w1 ⟨rfl, hb1⟩
  have hb2 := bNew (bNewW w1 (.cells #[.bool false, .slice none 0 0] 100)) (.cells #[.bool false, .slice none 0 0] 100)
  have hb3 := bCall hb1 hb2
  clear hB
  go_wp2
  go_ret2
  exact ⟨rfl, hb3⟩
theorem sgn_mul (n m : Bool) (a b : Nat) : sgn (n != m) (a * b) = sgn n a * sgn m b := by cases n <;> cases m <;> simp [sgn, Int.mul_neg, Int.neg_mul]
set_option maxRecDepth 100000 in
set_option maxHeartbeats 4000000 in
theorem Mul_any (x y : Int) (w : World) (hx : Ig.fits x) (hy : Ig.fits y) (hE : Env w) :
    Calls Tryz.prog 20 #[.string ⟨(Lib.itoa x).toArray⟩, .string ⟨(Lib.itoa y).toArray⟩] w fun e w' => e = .returned (.tuple #[.string ⟨(Ig.resS (x * y)).toArray⟩, .int .i64 (Ig.resE (x * y))]) ∧ Below w.heap.size w w' := by
  have hB := both_any x y w hx hy
  have lx := Ig.fits_len hx
  have ly := Ig.fits_len hy
  have ex := sgn_of x
  have ey := sgn_of y
  have exy : Kp (sgn (decide (x < 0) != decide (y < 0)) (x.natAbs * y.natAbs) = x * y) := ⟨by rw [sgn_mul, ex, ey]⟩
  generalize x * y = z at *
  generalize decide (x < 0) = nx at *
  generalize decide (y < 0) = ny at *
  generalize x.natAbs = ax at *
  generalize y.natAbs = ay at *
  generalize Lib.itoa x = sx at *
  generalize Lib.itoa y = sy at *
  clear hx hy ex ey
  have hlm : (Ig.grp (ax * ay)).length ≤ 50 + 50 := grp_mul_len lx (Nat.lt_of_lt_of_le (Ig.grp_lt ay) (Nat.pow_le_pow_right (by decide) ly))
  go_enter Tryz.func20, Tryz.ntmps20
  go_wp2_with fail
  refine hB.mono ?_
  rintro _ w1 ⟨u, v, rfl, hu, hv, hb1⟩
  obtain ⟨A1, c1, rfl, -⟩ := id hu.out
  obtain ⟨A2, c2, rfl, -⟩ := id hv.out
  clear hB
  have hb2 := bNew (bNewW w1 (.cells #[.bool nx, .slice A1 (Ig.grp ax).length c1] 100)) (.cells #[.bool ny, .slice A2 (Ig.grp ay).length c2] 100)
  have B1 := (Bx.mk w1 100 #[.bool nx, .slice A1 (Ig.grp ax).length c1]).new (.cells #[.bool ny, .slice A2 (Ig.grp ay).length c2] 100)
  have B2 := Bx.mk (w1.alloc (.cells #[.bool nx, .slice A1 (Ig.grp ax).length c1] 100)) 100 #[.bool ny, .slice A2 (Ig.grp ay).length c2]
  rw [alloc_size] at B2
  go_wp2_with fail
  replace hu := hu.call hb2
  replace hv := hv.call hb2
  generalize hg : ((w1.alloc (.cells #[.bool nx, .slice A1 (Ig.grp ax).length c1] 100)).alloc (.cells #[.bool ny, .slice A2 (Ig.grp ay).length c2] 100)) = W0 at *
  clear hg
  replace hE := hE.below (bCall hb1 hb2)
  have q10 := fun w1' (hb1 : Below W0.heap.size W0 w1') => (hb1.cell (p := ⟨w1.heap.size, 0, none⟩) B1.lt).trans (B1.cell 0 rfl)
  have q11 := fun w1' (hb1 : Below W0.heap.size W0 w1') => (hb1.cell (p := ⟨w1.heap.size, 1, none⟩) B1.lt).trans (B1.cell 1 rfl)
  have q20 := fun w1' (hb1 : Below W0.heap.size W0 w1') => (hb1.cell (p := ⟨w1.heap.size + 1, 0, none⟩) B2.lt).trans (B2.cell 0 rfl)
  have q21 := fun w1' (hb1 : Below W0.heap.size W0 w1') => (hb1.cell (p := ⟨w1.heap.size + 1, 1, none⟩) B2.lt).trans (B2.cell 1 rfl)
  generalize hlx : (Ig.grp ax).length = kx at *
  generalize hly : (Ig.grp ay).length = ky at *
  replace hlx := Kp.mk hlx
  replace hly := Kp.mk hly
  refine wp_region_rgl [Eqv (.pointer (some ⟨w1.heap.size, 0, none⟩)), Eqv (.bool nx), Eqv (.pointer (some ⟨w1.heap.size + 1, 0, none⟩)), Eqv (.bool ny), Eqv (.bool (nx != ny)), Eqv (.pointer (some ⟨w1.heap.size, 1, none⟩)), Eqv (.slice A1 kx c1), Eqv (.pointer (some ⟨w1.heap.size + 1, 1, none⟩)), Eqv (.slice A2 ky c2), (fun v W => NumAt W (ax * ay) v), (fun v W => ∃ r, v = .agg #[.bool (nx != ny), r] ∧ NumAt W (ax * ay) r),
    Eqv (.tuple #[.string ⟨(Ig.resS z).toArray⟩, .int .i64 (Ig.resE z)]), Eqv (.string ⟨(Ig.resS z).toArray⟩), Eqv (.int .i64 (Ig.resE z)), Eqv (.string ⟨(Ig.resS z).toArray⟩), Eqv (.int .i64 (Ig.resE z))] 16 32 (by kernel_rfl) rfl rfl (by kernel_rfl) ?_ ?_ ?_
  · simp only [AllS]
    exact ⟨stab_eqv _, stab_eqv _, stab_eqv _, stab_eqv _, stab_eqv _, stab_eqv _, stab_eqv _, stab_eqv _, stab_eqv _, fun v w w' h hb => h.call hb, fun v w w' ⟨r, e, h⟩ hb => ⟨r, e, h.call hb⟩, stab_eqv _, stab_eqv _, stab_eqv _, stab_eqv _, stab_eqv _, trivial⟩
  · simp only [Users, List.take, List.length]
    refine ⟨?_, ?_, ?_, ?_, ?_, ?_, ?_, ?_, ?_, ?_, ?_, ?_, ?_, ?_, ?_, ?_, trivial⟩
    all_goals (intro vs w2 hb2' hd; have p10 := q10 w2 hb2'; have p11 := q11 w2 hb2'; have p20 := q20 w2 hb2'; have p21 := q21 w2 hb2'; have hN1 := hu.call hb2'; have hN2 := hv.call hb2'; clear q10 q11 q20 q21; simp only [putD, Act.put, List.nil_append, List.cons_append, List.setIfInBounds_toArray, List.set_cons_succ, List.set_cons_zero, Nat.reduceAdd])
    · clear hd; go_wp2; exact ⟨Below.refl _ _, rfl⟩
    · have e := hd 0 rfl; change vs 0 = _ at e; clear hd; rw [e]; go_wp2; exact ⟨Below.refl _ _, rfl⟩
    · clear hd; go_wp2; exact ⟨Below.refl _ _, rfl⟩
    · have e := hd 2 rfl; change vs 2 = _ at e; clear hd; rw [e]; go_wp2; exact ⟨Below.refl _ _, rfl⟩
    · have e := hd 1 rfl; have e' := hd 3 rfl; change vs 1 = _ at e; change vs 3 = _ at e'; clear hd; rw [e, e']; go_wp2; exact ⟨Below.refl _ _, by cases nx <;> cases ny <;> rfl⟩
    · clear hd; go_wp2; exact ⟨Below.refl _ _, rfl⟩
    · have e := hd 5 rfl; change vs 5 = _ at e; clear hd; rw [e]; go_wp2; exact ⟨Below.refl _ _, rfl⟩
    · clear hd; go_wp2; exact ⟨Below.refl _ _, rfl⟩
    · have e := hd 7 rfl; change vs 7 = _ at e; clear hd; rw [e]; go_wp2; exact ⟨Below.refl _ _, rfl⟩
    · have e := hd 6 rfl; have e' := hd 8 rfl; change vs 6 = _ at e; change vs 8 = _ at e'; clear hd; rw [e, e']
      have hC := times_any ax ay _ _ w2 hN1 hN2 (by rw [hlx.out]; omega) (by rw [hly.out]; omega)
      go_wp2_with fail
      refine hC.mono ?_
      clear hC
      rintro _ w9 ⟨v9, rfl, hn9, hb9⟩
      go_wp2
      exact hn9
    · have e := hd 4 rfl; change vs 4 = _ at e
      have e' : NumAt w2 (ax * ay) (vs 9) := hd 9 rfl
      clear hd; rw [e]
      obtain ⟨A6, c6, h6, -⟩ := id e'.out
      rw [h6] at e' ⊢
      go_wp2
      exact ⟨Below.refl _ _, _, rfl, e'⟩
    · have e : ∃ r, vs 10 = .agg #[.bool (nx != ny), r] ∧ NumAt w2 (ax * ay) r := hd 10 rfl
      clear hd
      obtain ⟨r, e, hr⟩ := e
      rw [e]
      have hT := text_any (nx != ny) (ax * ay) r w2 hr (by omega) (hE.below hb2')
      rw [exy.out] at hT
      go_wp2_with fail
      refine hT.mono ?_
      clear hT
      rintro _ w9 ⟨rfl, hb9⟩
      go_wp2
      rfl
    · have e := hd 11 rfl; change vs 11 = _ at e; clear hd; rw [e]; go_wp2; exact ⟨Below.refl _ _, rfl⟩
    · have e := hd 11 rfl; change vs 11 = _ at e; clear hd; rw [e]; go_wp2; exact ⟨Below.refl _ _, rfl⟩
    · have e := hd 12 rfl; change vs 12 = _ at e; clear hd; rw [e]; go_wp2; exact ⟨Below.refl _ _, rfl⟩
    · have e := hd 13 rfl; change vs 13 = _ at e; clear hd; rw [e]; go_wp2; exact ⟨Below.refl _ _, rfl⟩
  · clear q10 q11 q20 q21
    intro vs wa hba hR
    simp only [AllR, Eqv] at hR
    obtain ⟨-, -, -, -, -, -, -, -, -, -, -, -, -, -, e14, e15, -⟩ := hR
    simp only [List.drop, List.take, List.map, putD, Act.put, List.setIfInBounds_toArray, List.set_cons_succ, List.set_cons_zero, Nat.reduceAdd]
    rw [e14, e15]
    go_wp2
    go_ret2
    exact ⟨rfl, bCall (bCall hb1 hb2) hba⟩
end Go.Proofs.YtllnepdighhkdaaGreatDoor
