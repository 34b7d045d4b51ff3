/- Sizes of numbers and fractions; the order of fractions, plain. -/
import Derived.Test.YthnikbladjaifaaGreatDoorQ20
namespace Rq
/-- a number of at most k digits -/
def Sz (k : Nat) (z : Int) : Prop := z.natAbs < 10 ^ k
theorem Sz.mono {j k : Nat} {z : Int} (h : Sz j z) (hk : j ≤ k) : Sz k z := Nat.lt_of_lt_of_le h (Nat.pow_le_pow_right (by decide) hk)
theorem Sz.fits {k : Nat} {z : Int} (h : Sz k z) (hk : k ≤ 200) : Ig.fits z := h.mono hk
theorem Sz.add {k : Nat} {x y : Int} (hx : Sz k x) (hy : Sz k y) : Sz (k + 1) (x + y) := by
  unfold Sz at *
  rw [Nat.pow_succ]
  omega
theorem Sz.neg {k : Nat} {x : Int} (hx : Sz k x) : Sz k (-x) := by unfold Sz at *; omega
theorem Sz.sub {k : Nat} {x y : Int} (hx : Sz k x) (hy : Sz k y) : Sz (k + 1) (x - y) := by
  rw [Int.sub_eq_add_neg]; exact hx.add hy.neg
theorem Sz.mul {j k : Nat} {x y : Int} (hx : Sz j x) (hy : Sz k y) : Sz (j + k) (x * y) := by
  unfold Sz at *
  rw [Int.natAbs_mul, Nat.pow_add]
  exact Nat.mul_lt_mul'' hx hy
theorem sz_one : Sz 1 1 := by unfold Sz; decide
theorem sz_zero : Sz 1 0 := by unfold Sz; decide
theorem sz_pow (k : Nat) : Sz (k + 1) ((10 ^ k : Nat) : Int) := by
  unfold Sz
  rw [Int.natAbs_natCast]
  exact Nat.pow_lt_pow_right (by decide) (by omega)
/-- a fraction of at most j digits above and k below -/
structure Qz (j k : Nat) (q : Rat) : Prop where
  num : Sz j q.num
  den : Sz k (q.den : Int)
theorem Qz.fq {j k : Nat} {q : Rat} (h : Qz j k q) (hj : j ≤ 200) (hk : k ≤ 200) : Fq q := ⟨h.num.fits hj, h.den.fits hk⟩
theorem Qz.mono {j k j' k' : Nat} {q : Rat} (h : Qz j k q) (hj : j ≤ j') (hk : k ≤ k') : Qz j' k' q := ⟨h.num.mono hj, h.den.mono hk⟩
theorem qz_divInt {j k : Nat} {z d : Int} (hd : 0 < d) (hz : Sz j z) (hk : Sz k d) : Qz j k (Rat.divInt z d) := by
  obtain ⟨h1, h2⟩ := Go.Proofs.YthnikbladjaifaaGreatDoor.divInt_small z d.toNat (by omega)
  rw [Int.toNat_of_nonneg (by omega)] at h1 h2
  refine ⟨Nat.lt_of_le_of_lt h1 hz, ?_⟩
  unfold Sz at *
  rw [Int.natAbs_natCast]
  omega
theorem cross {z d : Int} (hd : d ≠ 0) : (Rat.divInt z d).num * d = z * ((Rat.divInt z d).den : Int) := by
  have h := Rat.num_divInt_den (Rat.divInt z d)
  exact (Rat.divInt_eq_divInt_iff (den_ne' _) hd).1 h
/-- the order of fractions as numbers -/
def cmpQ (x y : Rat) : Int := Go.Proofs.YthnikbladjaifaaGreatDoor.cmpZ (x.num * y.den) (y.num * x.den)
theorem cmp_lt {x y : Rat} : cmpQ x y = -1 ↔ x < y := by
  rw [Rat.lt_iff]
  unfold cmpQ Go.Proofs.YthnikbladjaifaaGreatDoor.cmpZ
  split
  · simp [*]
  · split <;> simp [*]
theorem cmp_gt {x y : Rat} : cmpQ x y = 1 ↔ y < x := by
  rw [Rat.lt_iff]
  unfold cmpQ Go.Proofs.YthnikbladjaifaaGreatDoor.cmpZ
  split
  · simp; omega
  · split <;> simp [*]
theorem cmp_eq {x y : Rat} : cmpQ x y = 0 ↔ x = y := by
  have h := Rat.divInt_eq_divInt_iff (n₁ := x.num) (n₂ := y.num) (den_ne' x) (den_ne' y)
  rw [Rat.num_divInt_den, Rat.num_divInt_den] at h
  rw [h]
  unfold cmpQ Go.Proofs.YthnikbladjaifaaGreatDoor.cmpZ
  split
  · simp; omega
  · split <;> simp <;> omega
theorem cmp_cases (x y : Rat) : (cmpQ x y = -1 ∧ x < y) ∨ (cmpQ x y = 0 ∧ x = y) ∨ (cmpQ x y = 1 ∧ y < x) := by
  have h : cmpQ x y = -1 ∨ cmpQ x y = 0 ∨ cmpQ x y = 1 := by
    unfold cmpQ Go.Proofs.YthnikbladjaifaaGreatDoor.cmpZ
    split
    · simp
    · split <;> simp
  rcases h with h | h | h
  · exact .inl ⟨h, cmp_lt.1 h⟩
  · exact .inr (.inl ⟨h, cmp_eq.1 h⟩)
  · exact .inr (.inr ⟨h, cmp_gt.1 h⟩)
end Rq
