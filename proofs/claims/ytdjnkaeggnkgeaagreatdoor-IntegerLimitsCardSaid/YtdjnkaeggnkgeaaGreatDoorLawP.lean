/- Plain facts of the laws of dialtonelaw03: common divisors, roots. -/
import Derived.Test.YtdjnkaeggnkgeaaGreatDoorILaw
namespace Ig
theorem gcd_sz {k : Nat} {x y : Int} (hx : Sz k x) (hy : Sz k y) : Sz k ((Nat.gcd x.natAbs y.natAbs : Nat) : Int) := by
  unfold Sz at *
  rw [Int.natAbs_natCast]
  by_cases h : x.natAbs = 0
  · rw [h, Nat.gcd_zero_left]; exact hy
  · exact Nat.lt_of_le_of_lt (Nat.le_of_dvd (by omega) (Nat.gcd_dvd_left _ _)) hx
theorem gcd_left (x y : Int) : ((Nat.gcd x.natAbs y.natAbs : Nat) : Int) ∣ x := Int.ofNat_dvd_left.2 (Nat.gcd_dvd_left _ _)
theorem gcd_right (x y : Int) : ((Nat.gcd x.natAbs y.natAbs : Nat) : Int) ∣ y := Int.ofNat_dvd_left.2 (Nat.gcd_dvd_right _ _)
theorem gcd_pos {x y : Int} (h : ¬ (x = 0 ∧ y = 0)) : 0 < Nat.gcd x.natAbs y.natAbs := by
  rcases Nat.eq_zero_or_pos (Nat.gcd x.natAbs y.natAbs) with h0 | h0
  · have := Nat.gcd_eq_zero_iff.1 h0
    omega
  · exact h0
theorem gcd_rest {x y : Int} (h : ¬ (x = 0 ∧ y = 0)) : Nat.gcd (x / ((Nat.gcd x.natAbs y.natAbs : Nat) : Int)).natAbs (y / ((Nat.gcd x.natAbs y.natAbs : Nat) : Int)).natAbs = 1 := by
  rw [Int.natAbs_ediv_of_dvd (gcd_left x y), Int.natAbs_ediv_of_dvd (gcd_right x y), Int.natAbs_natCast]
  rw [Nat.gcd_div (Nat.gcd_dvd_left _ _) (Nat.gcd_dvd_right _ _), Nat.div_self (gcd_pos h)]
theorem gcd_mul (x y z : Int) : Nat.gcd (x * z).natAbs (y * z).natAbs = Nat.gcd x.natAbs y.natAbs * z.natAbs := by
  rw [Int.natAbs_mul, Int.natAbs_mul, Nat.gcd_mul_right]
theorem root_of {s n : Nat} (h1 : s * s ≤ n * n) (h2 : n * n < (s + 1) * (s + 1)) : s = n := by
  have a1 : s ≤ n := Nat.mul_self_le_mul_self_iff.1 h1
  have a2 : n < s + 1 := Nat.mul_self_lt_mul_self_iff.1 h2
  omega
theorem sq_pos (x : Int) : 0 ≤ x * x := by
  rcases (show 0 ≤ x ∨ x ≤ 0 by omega) with h | h
  · exact Int.mul_nonneg h h
  · exact Int.mul_nonneg_of_nonpos_of_nonpos h h
theorem div_sz {k : Nat} {x : Int} (y : Int) (h : Sz k x) : Sz k (x / y) := Nat.lt_of_le_of_lt (Int.natAbs_ediv_le_natAbs x y) h
end Ig
