/- RationalMachine of dialtonelaw04 returns true. -/
import Derived.Test.YtpmpnoandfjcbaaGreatDoorRSz
namespace Rq
theorem cmp_divInt {n d m c : Int} (hd : 0 < d) (hc : 0 < c) : cmpQ (Rat.divInt n d) (Rat.divInt m c) = Go.Proofs.YtpmpnoandfjcbaaGreatDoor.cmpZ (n * c) (m * d) := by
  have h1 := cross (z := n) (d := d) (by omega)
  have h2 := cross (z := m) (d := c) (by omega)
  have hx := den_pos' (Rat.divInt n d)
  have hy := den_pos' (Rat.divInt m c)
  unfold cmpQ
  generalize Rat.divInt n d = x at *
  generalize Rat.divInt m c = y at *
  have hT : 0 < d * c := Int.mul_pos hd hc
  have hX : 0 < (x.den : Int) * y.den := Int.mul_pos hx hy
  have e1 : x.num * y.den * (d * c) = n * c * ((x.den : Int) * y.den) := by
    have : x.num * y.den * (d * c) = x.num * d * (y.den * c) := by ac_rfl
    rw [this, h1]; ac_rfl
  have e2 : y.num * x.den * (d * c) = m * d * ((x.den : Int) * y.den) := by
    have : y.num * x.den * (d * c) = y.num * c * (x.den * d) := by ac_rfl
    rw [this, h2]; ac_rfl
  have hlt : ∀ a b u v : Int, a * (d * c) = u * ((x.den : Int) * y.den) → b * (d * c) = v * ((x.den : Int) * y.den) → (a < b ↔ u < v) := by
    intro a b u v ha hb
    constructor
    · intro h
      have := Int.mul_lt_mul_of_pos_right h hT
      rw [ha, hb] at this
      exact Int.lt_of_mul_lt_mul_right this (by omega)
    · intro h
      have := Int.mul_lt_mul_of_pos_right h hX
      rw [← ha, ← hb] at this
      exact Int.lt_of_mul_lt_mul_right this (by omega)
  have a1 := hlt _ _ _ _ e1 e2
  have a2 := hlt _ _ _ _ e2 e1
  unfold Go.Proofs.YtpmpnoandfjcbaaGreatDoor.cmpZ
  by_cases h : n * c < m * d
  · rw [if_pos h, if_pos (a1.2 h)]
  · rw [if_neg h, if_neg (fun k => h (a1.1 k))]
    by_cases h' : m * d < n * c
    · rw [if_pos h', if_pos (a2.2 h')]
    · rw [if_neg h', if_neg (fun k => h' (a2.1 k))]
theorem add_frac {n d m c : Int} (hd : d ≠ 0) (hc : c ≠ 0) : Rat.divInt n d + Rat.divInt m c = Rat.divInt (n * c + m * d) (d * c) := Rat.divInt_add_divInt _ _ hd hc
theorem sub_frac {n d m c : Int} (hd : d ≠ 0) (hc : c ≠ 0) : Rat.divInt n d - Rat.divInt m c = Rat.divInt (n * c - m * d) (d * c) := Rat.divInt_sub_divInt _ _ hd hc
theorem mul_frac {n d m c : Int} : Rat.divInt n d * Rat.divInt m c = Rat.divInt (n * m) (d * c) := Rat.divInt_mul_divInt _ _
theorem div_frac {n d m c : Int} (hd : d ≠ 0) (hc : c ≠ 0) (hm : m ≠ 0) : Rat.divInt n d / Rat.divInt m c = Rat.divInt (n * c) (d * m) := by
  have h : Rat.divInt m c * Rat.divInt c m = 1 := by
    rw [Rat.divInt_mul_divInt, Int.mul_comm c m]
    exact Rat.divInt_self' (Int.mul_ne_zero hm hc)
  have h2 : Rat.divInt m c ≠ 0 := fun h0 => by rw [h0, Rat.zero_mul] at h; exact absurd h (by decide)
  have h3 : Rat.divInt n d = Rat.divInt (n * c) (d * m) * Rat.divInt m c := by
    rw [Rat.divInt_mul_divInt, show n * c * m = n * (c * m) by ac_rfl, show d * m * c = d * (c * m) by ac_rfl, Rat.divInt_mul_right (Int.mul_ne_zero hc hm)]
  rw [h3, Rat.mul_div_cancel h2]
end Rq
namespace Go.Proofs.YtpmpnoandfjcbaaGreatDoor
set_option linter.unusedVariables false
set_option linter.unusedSimpArgs false
open Go.RowKit Go.Shelf
theorem mul_bd {x y : Int} {a b : Int} (hx : -a ≤ x ∧ x ≤ a) (hy : -b ≤ y ∧ y ≤ b) (ha : 0 ≤ a) : -(a * b) ≤ x * y ∧ x * y ≤ a * b := by
  have h : (x * y).natAbs ≤ a.natAbs * b.natAbs := by
    rw [Int.natAbs_mul]
    exact Nat.mul_le_mul (by omega) (by omega)
  have e : ((a.natAbs * b.natAbs : Nat) : Int) = a * b := by
    rw [Int.natCast_mul, Int.natAbs_of_nonneg ha, Int.natAbs_of_nonneg (by omega)]
  omega
/-- a fraction of two numbers of a machine: its parts, and the cross product -/
theorem frac_out (z d : Int) (hd : 0 < d) (hz : -2000000000 ≤ z ∧ z ≤ 2000000000) (hd2 : d ≤ 1000000000) : ∃ (u v y : Int) (sn sd : List UInt8), Kp (Lib.itoa u = sn ∧ Lib.itoa v = sd) ∧ QV (Rat.divInt z d) = .agg #[.string ⟨sn.toArray⟩, .string ⟨sd.toArray⟩] ∧ u * d = y ∧ z * v = y ∧ (-2000000000 ≤ u ∧ u ≤ 2000000000) ∧ (1 ≤ v ∧ v ≤ 1000000000) ∧ (-2000000000000000000 ≤ y ∧ y ≤ 2000000000000000000) ∧ Rq.Fq (Rat.divInt z d) ∧ u = (Rat.divInt z d).num ∧ v = ((Rat.divInt z d).den : Int) := by
  obtain ⟨h1, h2⟩ := divInt_small z d.toNat (by omega)
  rw [Int.toNat_of_nonneg (by omega)] at h1 h2
  have hp := Rq.den_pos' (Rat.divInt z d)
  have hu : -2000000000 ≤ (Rat.divInt z d).num ∧ (Rat.divInt z d).num ≤ 2000000000 := by omega
  have hv : 1 ≤ ((Rat.divInt z d).den : Int) ∧ ((Rat.divInt z d).den : Int) ≤ 1000000000 := by omega
  have hy := mul_bd (x := (Rat.divInt z d).num) (y := d) (a := 2000000000) (b := 1000000000) (by omega) (by omega) (by decide)
  refine ⟨_, _, _, _, _, ⟨rfl, rfl⟩, rfl, rfl, (Rq.cross (by omega)).symm, hu, hv, by omega, ⟨?_, ?_⟩, rfl, rfl⟩
  · exact Nat.lt_of_lt_of_le (show (Rat.divInt z d).num.natAbs < 10 ^ 10 by omega) (Nat.pow_le_pow_right (by decide) (by decide))
  · exact Nat.lt_of_lt_of_le (show ((Rat.divInt z d).den : Int).natAbs < 10 ^ 10 by omega) (Nat.pow_le_pow_right (by decide) (by decide))
theorem fits_ten {z : Int} (h : -1000000000000000000 ≤ z ∧ z ≤ 1000000000000000000) : Ig.fits z := Nat.lt_of_lt_of_le (show z.natAbs < 10 ^ 19 by omega) (Nat.pow_le_pow_right (by decide) (by decide))
end Go.Proofs.YtpmpnoandfjcbaaGreatDoor
