/- Sixtieths: what the law of exact amounts asks of fractions. -/
import Derived.Test.YtfebcokmnhdbmaaGreatDoorQ04
import Derived.Test.YtfebcokmnhdbmaaGreatDoorE01
import Derived.Test.YtfebcokmnhdbmaaGreatDoorE02
import Derived.Test.YtfebcokmnhdbmaaGreatDoorE04
import Derived.Test.YtfebcokmnhdbmaaGreatDoorQ13
namespace Go.Proofs.YtfebcokmnhdbmaaGreatDoor
set_option linter.unusedVariables false
theorem q60 (y : Int) : (Rat.divInt y 60).num.natAbs ≤ y.natAbs ∧ (Rat.divInt y 60).den ≤ 60 ∧ Rq.flo (Rat.divInt y 60) 0 = y / 60 := by
  obtain ⟨h1, h2⟩ := Rq.make_pos (n := y) (d := 60) (by omega)
  replace h1 : (Rat.divInt y 60).num = y / ((Int.gcd y 60 : Nat) : Int) := h1
  replace h2 : ((Rat.divInt y 60).den : Int) = 60 / ((Int.gcd y 60 : Nat) : Int) := h2
  have hg : (0 : Int) < ((Int.gcd y 60 : Nat) : Int) := by
    have : 0 < Int.gcd y 60 := Int.gcd_pos_of_ne_zero_right _ (by decide)
    omega
  obtain ⟨a, ha⟩ := Int.gcd_dvd_left y 60
  obtain ⟨b, hb⟩ := Int.gcd_dvd_right y 60
  have e1 : y / ((Int.gcd y 60 : Nat) : Int) = a := by
    conv => lhs; arg 1; rw [ha]
    exact Int.mul_ediv_cancel_left _ (by omega)
  have e2 : (60 : Int) / ((Int.gcd y 60 : Nat) : Int) = b := by
    conv => lhs; arg 1; rw [hb]
    exact Int.mul_ediv_cancel_left _ (by omega)
  refine ⟨?_, ?_, ?_⟩
  · rw [h1]; exact Int.natAbs_ediv_le_natAbs _ _
  · have : ((Rat.divInt y 60).den : Int) ≤ 60 := by
      rw [h2]; exact Int.ediv_le_self _ (by omega)
    omega
  · unfold Rq.flo
    rw [h1, h2, e1, e2]
    have : y / 60 = a / b := by
      have h3 := Int.mul_ediv_mul_of_pos a b hg
      rw [← ha, ← hb] at h3
      exact h3
    rw [this]
    simp
theorem q60_fq {y : Int} (h : 0 ≤ y ∧ y ≤ 10000000000000) : Rq.Fq (Rat.divInt y 60) := by
  obtain ⟨h1, h2, -⟩ := q60 y
  exact ⟨i64_fits' ⟨by omega, by omega⟩, i64_fits' ⟨by omega, by omega⟩⟩
theorem q60_mul {x y : Int} (hx : -10000000000000 ≤ x ∧ x ≤ 10000000000000) (hy : 0 ≤ y ∧ y ≤ 60) : -600000000000000 ≤ x * y ∧ x * y ≤ 600000000000000 := by
  have h1 : x * y ≤ 10000000000000 * y := Int.mul_le_mul_of_nonneg_right hx.2 hy.1
  have h2 : -10000000000000 * y ≤ x * y := Int.mul_le_mul_of_nonneg_right hx.1 hy.1
  omega
theorem q60_fit {x y : Int} (hx : 0 ≤ x ∧ x ≤ 10000000000000) (hy : 0 ≤ y ∧ y ≤ 10000000000000) : fitAdd (Rat.divInt x 60) (Rat.divInt y 60) := by
  obtain ⟨h1, h2, -⟩ := q60 x
  obtain ⟨k1, k2, -⟩ := q60 y
  have m1 := q60_mul (x := (Rat.divInt x 60).num) (y := ((Rat.divInt y 60).den : Int)) (by omega) (by omega)
  have m2 := q60_mul (x := (Rat.divInt y 60).num) (y := ((Rat.divInt x 60).den : Int)) (by omega) (by omega)
  have m3 := q60_mul (x := ((Rat.divInt x 60).den : Int)) (y := ((Rat.divInt y 60).den : Int)) (by omega) (by omega)
  exact ⟨i64_fits' ⟨by omega, by omega⟩, i64_fits' ⟨by omega, by omega⟩, i64_fits' ⟨by omega, by omega⟩, i64_fits' ⟨by omega, by omega⟩⟩
theorem q60_add (x y : Int) : Rat.divInt x 60 + Rat.divInt y 60 = Rat.divInt (x + y) 60 := by
  rw [Rat.divInt_add_divInt _ _ (by decide) (by decide), ← Int.add_mul]
  exact Rat.divInt_mul_right (by decide)
/-- rounded down, a number of sixtieths is whole -/
theorem q60_down (y : Int) : Rq.rnd (Rat.divInt y 60) 0 false = Rat.divInt (y / 60) 1 := by
  unfold Rq.rnd
  rw [(q60 y).2.2]
  rfl
theorem whole_num (f : Int) : (Rat.divInt f 1).num = f ∧ (Rat.divInt f 1).den = 1 := by
  obtain ⟨h1, h2⟩ := Rq.make_pos (n := f) (d := 1) (by omega)
  have hg : Nat.gcd f.natAbs (1 : Int).natAbs = 1 := Nat.gcd_one_right _
  rw [hg] at h1 h2
  simp at h1 h2
  exact ⟨h1, by omega⟩
theorem q60_cmp (y : Int) : cmpZ ((Rat.divInt (y / 60) 1).num * (Rat.divInt y 60).den) ((Rat.divInt y 60).num * (Rat.divInt (y / 60) 1).den) ≤ 0 := by
  have h := (q60 y).2.2
  obtain ⟨e1, e2⟩ := whole_num (y / 60)
  have hd := (Rat.divInt y 60).den_pos
  unfold Rq.flo at h
  rw [e1, e2, ← h]
  have hm := Int.ediv_mul_le ((Rat.divInt y 60).num * ((10 ^ 0 : Nat) : Int)) (b := ((Rat.divInt y 60).den : Int)) (by omega)
  unfold cmpZ
  split
  · decide
  · split
    · next h1 h2 => simp at hm h2; omega
    · decide
end Go.Proofs.YtfebcokmnhdbmaaGreatDoor
