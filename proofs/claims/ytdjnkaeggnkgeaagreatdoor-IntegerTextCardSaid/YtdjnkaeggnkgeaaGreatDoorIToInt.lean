/- ToInt of package integer. -/
import Derived.Test.YtdjnkaeggnkgeaaGreatDoorILaw
import Derived.Shelf.Strconv.AtoiAll
namespace Go.Proofs.YtdjnkaeggnkgeaaGreatDoor
set_option linter.unusedVariables false
set_option linter.unusedSimpArgs false
open Go.RowKit Go.Shelf
theorem parse_total : ∀ (s : List UInt8) (n : Nat), (∀ c ∈ s, 48 ≤ c.toNat ∧ c.toNat ≤ 57) → n < 18446744073709551616 → Lib.parseUint10 n s = if numFrom n s < 18446744073709551616 then .ok (numFrom n s) else .range
  | [], n, _, hn => by
    have e : numFrom n [] = n := rfl
    rw [e, if_pos hn]; rfl
  | c :: s, n, h, hn => by
    have hc := h c (by simp)
    have hge := numFrom_ge s (10 * n + (c.toNat - 48))
    have e : n * 10 + (c.toNat - 48) = 10 * n + (c.toNat - 48) := by omega
    have e2 : numFrom n (c :: s) = numFrom (10 * n + (c.toNat - 48)) s := rfl
    rw [Lib.parseUint10, if_pos hc, e, e2]
    by_cases h1 : 1844674407370955162 ≤ n
    · rw [if_pos h1, if_neg (by omega)]
    · rw [if_neg h1]
      by_cases h2 : 18446744073709551616 ≤ 10 * n + (c.toNat - 48)
      · rw [if_pos h2, if_neg (by omega)]
      · rw [if_neg h2]
        exact parse_total s _ (fun d hd => h d (by simp [hd])) (by omega)
theorem numFrom_zero (s : List UInt8) : numFrom 0 s = Ig.nv s := rfl
theorem parseMag_dec (a : Nat) : Lib.parseMag (Lib.decDigits a) = if a < 18446744073709551616 then .ok a else .range := by
  unfold Lib.parseMag
  rw [if_neg (Ig.dec_ne a), parse_total _ 0 (all_isD (Ig.dec_digits a)) (by decide), numFrom_zero, Ig.nv_dec]
theorem atoi_itoa (z : Int) : Lib.atoiAll (Lib.itoa z) = if -9223372036854775808 ≤ z ∧ z ≤ 9223372036854775807 then .ok z else .range := by
  have hp := parseMag_dec z.natAbs
  by_cases h : 0 ≤ z
  · rw [Ig.itoa_nonneg h]
    have hd := all_isD (Ig.dec_digits z.natAbs)
    have hne := Ig.dec_ne z.natAbs
    generalize Lib.decDigits z.natAbs = s at *
    match s, hne with
    | c :: r, _ =>
      have hc := hd c (by simp)
      have e1 : (if c.toNat = 43 ∨ c.toNat = 45 then r else c :: r) = c :: r := if_neg (by omega)
      have e2 : ¬ c.toNat = 45 := by omega
      rw [Lib.atoiAll]
      simp only [e1]
      rw [hp]
      simp only [e2, not_false_eq_true, true_and, false_and, if_false]
      by_cases h1 : z.natAbs < 18446744073709551616
      · rw [if_pos h1]
        by_cases h2 : 9223372036854775808 ≤ z.natAbs
        · rw [if_neg (show ¬ (-9223372036854775808 ≤ z ∧ z ≤ 9223372036854775807) by omega)]
          simp only [if_pos h2]
        · rw [if_pos (show (-9223372036854775808 ≤ z ∧ z ≤ 9223372036854775807) by omega)]
          simp only [if_neg h2]
          rw [show ((z.natAbs : Nat) : Int) = z by omega]
      · rw [if_neg h1, if_neg (show ¬ (-9223372036854775808 ≤ z ∧ z ≤ 9223372036854775807) by omega)]
  · rw [Ig.itoa_neg (by omega)]
    rw [Lib.atoiAll]
    have e1 : (if (45 : UInt8).toNat = 43 ∨ (45 : UInt8).toNat = 45 then Lib.decDigits z.natAbs else 45 :: Lib.decDigits z.natAbs) = Lib.decDigits z.natAbs := if_pos (.inr rfl)
    have e2 : (45 : UInt8).toNat = 45 := rfl
    simp only [e1]
    rw [hp]
    simp only [e2, not_true_eq_false, true_and, false_and, if_false]
    by_cases h1 : z.natAbs < 18446744073709551616
    · rw [if_pos h1]
      by_cases h2 : 9223372036854775808 < z.natAbs
      · rw [if_neg (show ¬ (-9223372036854775808 ≤ z ∧ z ≤ 9223372036854775807) by omega)]
        simp only [if_pos h2]
      · rw [if_pos (show (-9223372036854775808 ≤ z ∧ z ≤ 9223372036854775807) by omega)]
        simp only [if_neg h2, if_true]
        rw [show -((z.natAbs : Nat) : Int) = z by omega]
    · rw [if_neg h1, if_neg (show ¬ (-9223372036854775808 ≤ z ∧ z ≤ 9223372036854775807) by omega)]
theorem i64_fits {z : Int} (h : I64 z) : Ig.fits z := by
  have h1 : z.natAbs < 10 ^ 20 := by have := h.1; have := h.2; omega
  exact Nat.lt_of_lt_of_le h1 (Nat.pow_le_pow_right (by decide) (by decide))
set_option maxRecDepth 100000 in
set_option maxHeartbeats 1000000 in
theorem ToInt_ok (z : Int) (w : World) (h : I64 z) :
    Calls Tryz.prog 31 #[.string ⟨(Lib.itoa z).toArray⟩] w fun e w' => e = .returned (.tuple #[.int .i64 z, .int .i64 0]) ∧ Below w.heap.size w w' := by
  have hf := i64_fits h
  have hA := fun w0 => Atoi_any (Lib.itoa z) z w0 (fits_small hf) (by rw [atoi_itoa]; exact if_pos h)
  have hV := fun w0 => isValid_any (Lib.itoa z) (fits_small hf) w0
  rw [Ig.valid_itoa hf] at hV
  generalize Lib.itoa z = s at *
  go_enter Tryz.func31, Tryz.ntmps31
  go_wp2_with fail
  refine (hA _).mono ?_
  rintro _ w1 ⟨rfl, hb⟩
  go_wp2_with fail
  refine (hV _).mono ?_
  rintro _ w2 ⟨rfl, hb2⟩
  clear hA hV
  have hb3 := bCall hb hb2
  go_wp2
  go_ret2
  exact ⟨rfl, hb3⟩
end Go.Proofs.YtdjnkaeggnkgeaaGreatDoor
