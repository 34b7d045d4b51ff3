/- Multiples of a grid: plain. -/
import Derived.Test.YthnikbladjaifaaGreatDoorRSz
namespace Rq
section
variable (q : Rat) (k : Nat)
theorem pow_pos' (k : Nat) : 0 < ((10 ^ k : Nat) : Int) := by
  have : 0 < 10 ^ k := Nat.pow_pos (by decide)
  omega
theorem flo_mod : q.num * ((10 ^ k : Nat) : Int) = q.den * flo q k + q.num * ((10 ^ k : Nat) : Int) % q.den := (Int.mul_ediv_add_emod _ _).symm
theorem mod_bounds : 0 ≤ q.num * ((10 ^ k : Nat) : Int) % q.den ∧ q.num * ((10 ^ k : Nat) : Int) % q.den < q.den := ⟨Int.emod_nonneg _ (den_ne' q), Int.emod_lt_of_pos _ (den_pos' q)⟩
/-- a whole number of steps stands on the grid -/
theorem flo_on (z : Int) : flo (Rat.divInt z ((10 ^ k : Nat) : Int)) k = z ∧ (Rat.divInt z ((10 ^ k : Nat) : Int)).num * ((10 ^ k : Nat) : Int) % ((Rat.divInt z ((10 ^ k : Nat) : Int)).den : Int) = 0 := by
  have h := cross (z := z) (pow_ne k)
  constructor
  · unfold flo
    rw [h]
    exact Int.mul_ediv_cancel _ (den_ne' _)
  · rw [h]
    exact Int.mul_emod_left _ _
theorem cei_on (z : Int) : cei (Rat.divInt z ((10 ^ k : Nat) : Int)) k = z := by
  unfold cei
  rw [if_pos (flo_on k z).2, (flo_on k z).1]
theorem rnd_on (z : Int) (up : Bool) : rnd (Rat.divInt z ((10 ^ k : Nat) : Int)) k up = Rat.divInt z ((10 ^ k : Nat) : Int) := by
  unfold rnd
  cases up
  · show Rat.divInt (flo _ k) _ = _
    rw [(flo_on k z).1]
  · show Rat.divInt (cei _ k) _ = _
    rw [cei_on k z]
theorem down_is : rnd q k false = Rat.divInt (flo q k) ((10 ^ k : Nat) : Int) := rfl
theorem up_is : rnd q k true = Rat.divInt (cei q k) ((10 ^ k : Nat) : Int) := rfl
theorem le_grid (z : Int) : (Rat.divInt z ((10 ^ k : Nat) : Int) ≤ q ↔ z * q.den ≤ q.num * ((10 ^ k : Nat) : Int)) ∧ (q ≤ Rat.divInt z ((10 ^ k : Nat) : Int) ↔ q.num * ((10 ^ k : Nat) : Int) ≤ z * q.den) := by
  have h := cross (z := z) (pow_ne k)
  have hp := pow_pos' k
  have hd := den_pos' (Rat.divInt z ((10 ^ k : Nat) : Int))
  generalize Rat.divInt z ((10 ^ k : Nat) : Int) = x at *
  generalize ((10 ^ k : Nat) : Int) = T at *
  rw [Rat.le_iff, Rat.le_iff]
  have hT : ∀ a b : Int, a ≤ b ↔ a * T ≤ b * T := fun a b => ⟨fun h => Int.mul_le_mul_of_nonneg_right h (by omega), fun h => Int.le_of_mul_le_mul_right h hp⟩
  have hX : ∀ a b : Int, a ≤ b ↔ a * (x.den : Int) ≤ b * x.den := fun a b => ⟨fun h => Int.mul_le_mul_of_nonneg_right h (by omega), fun h => Int.le_of_mul_le_mul_right h hd⟩
  constructor
  · rw [hT (x.num * q.den), hX (z * q.den)]
    have e1 : x.num * q.den * T = z * q.den * x.den := by rw [Int.mul_right_comm, h, Int.mul_right_comm]
    have e2 : q.num * x.den * T = q.num * T * x.den := Int.mul_right_comm _ _ _
    rw [e1, e2]
  · rw [hT (q.num * x.den), hX (q.num * T)]
    have e1 : x.num * q.den * T = z * q.den * x.den := by rw [Int.mul_right_comm, h, Int.mul_right_comm]
    have e2 : q.num * x.den * T = q.num * T * x.den := Int.mul_right_comm _ _ _
    rw [e1, e2]
theorem down_le : rnd q k false ≤ q := by
  rw [down_is, (le_grid q k _).1]
  have h1 := flo_mod q k
  have h2 := mod_bounds q k
  rw [Int.mul_comm (flo q k)]
  omega
theorem le_up : q ≤ rnd q k true := by
  rw [up_is, (le_grid q k _).2]
  have h1 := flo_mod q k
  have h2 := mod_bounds q k
  unfold cei
  split
  · rw [Int.mul_comm (flo q k)]; omega
  · rw [Int.add_mul, Int.mul_comm (flo q k)]; omega
/-- on the grid -/
def onG : Prop := q.num * ((10 ^ k : Nat) : Int) % (q.den : Int) = 0
theorem down_eq (h : onG q k) : rnd q k false = q := by
  refine Rat.le_antisymm (down_le q k) ?_
  rw [down_is, (le_grid q k _).2]
  have h1 := flo_mod q k
  unfold onG at h
  rw [Int.mul_comm (flo q k)]; omega
theorem up_eq (h : onG q k) : rnd q k true = q := by
  have : cei q k = flo q k := by unfold cei; exact if_pos h
  rw [up_is, this, ← down_is, down_eq q k h]
theorem down_ne (h : ¬ onG q k) : rnd q k false ≠ q := by
  intro he
  have h2 : q ≤ rnd q k false := by rw [he]; exact Rat.le_refl
  rw [down_is, (le_grid q k _).2] at h2
  have h1 := flo_mod q k
  have h3 := mod_bounds q k
  unfold onG at h
  rw [Int.mul_comm (flo q k)] at h2
  omega
theorem up_ne (h : ¬ onG q k) : rnd q k true ≠ q := by
  intro he
  have h2 : rnd q k true ≤ q := by rw [he]; exact Rat.le_refl
  have hc : cei q k = flo q k + 1 := by unfold cei; exact if_neg h
  rw [up_is, hc, (le_grid q k _).1] at h2
  have h1 := flo_mod q k
  have h3 := mod_bounds q k
  rw [Int.add_mul, Int.mul_comm (flo q k)] at h2
  omega
theorem width (h : ¬ onG q k) : rnd q k true - rnd q k false = Rat.divInt 1 ((10 ^ k : Nat) : Int) := by
  have hc : cei q k = flo q k + 1 := by unfold cei; exact if_neg h
  rw [up_is, down_is, hc, Rat.divInt_sub_divInt _ _ (pow_ne k) (pow_ne k), ← Int.sub_mul, show flo q k + 1 - flo q k = 1 by omega, Int.one_mul]
  have := Rat.divInt_mul_right (n := 1) (d := ((10 ^ k : Nat) : Int)) (pow_ne k)
  rw [Int.one_mul] at this
  exact this
theorem width0 (h : onG q k) : rnd q k true - rnd q k false = 0 := by
  rw [up_eq q k h, down_eq q k h, Rat.sub_self]
/-- below a fraction's negative -/
theorem neg_down : 0 - rnd (0 - q) k false = rnd q k true := by
  have hn : (0 - q).num = -q.num := by rw [Rat.sub_eq_add_neg, Rat.zero_add]; rfl
  have hd : (0 - q).den = q.den := by rw [Rat.sub_eq_add_neg, Rat.zero_add]; rfl
  have hf : flo (0 - q) k = -cei q k := by
    have h1 := flo_mod q k
    have h2 := mod_bounds q k
    have h4 := flo_mod (0 - q) k
    have h5 := mod_bounds (0 - q) k
    rw [hn, hd] at h4 h5
    rw [Int.neg_mul] at h4 h5
    have hp := den_pos' q
    unfold cei
    generalize q.num * ((10 ^ k : Nat) : Int) = N at *
    generalize (q.den : Int) = D at *
    generalize flo (0 - q) k = G at *
    generalize flo q k = F at *
    split
    · rename_i h0
      have : D * (G + F) = -(-N % D) := by rw [Int.mul_add]; omega
      have h7 : G + F = 0 := by
        rcases Int.lt_trichotomy (G + F) 0 with h | h | h
        · have := Int.mul_le_mul_of_nonneg_left (show G + F ≤ -1 by omega) (show 0 ≤ D by omega)
          omega
        · exact h
        · have := Int.mul_le_mul_of_nonneg_left (show 1 ≤ G + F by omega) (show 0 ≤ D by omega)
          omega
      omega
    · rename_i h0
      have h6 : D * (G + F + 1) = D - (-N % D) - N % D := by rw [Int.mul_add, Int.mul_add]; omega
      have h7 : G + F + 1 = 0 := by
        rcases Int.lt_trichotomy (G + F + 1) 0 with h | h | h
        · have := Int.mul_le_mul_of_nonneg_left (show G + F + 1 ≤ -1 by omega) (show 0 ≤ D by omega)
          omega
        · exact h
        · have := Int.mul_le_mul_of_nonneg_left (show 1 ≤ G + F + 1 by omega) (show 0 ≤ D by omega)
          omega
      omega
  rw [down_is, hf, up_is, ← Rat.neg_divInt, Rat.sub_eq_add_neg, Rat.zero_add, Rat.neg_neg]
/-- times the grid: a whole number -/
theorem times_den (z : Int) : (Rat.divInt z ((10 ^ k : Nat) : Int) * Rat.divInt ((10 ^ k : Nat) : Int) 1).den = 1 := by
  have e : Rat.divInt z ((10 ^ k : Nat) : Int) * Rat.divInt ((10 ^ k : Nat) : Int) 1 = Rat.divInt z 1 := by
    rw [Rat.divInt_mul_divInt, Int.mul_one]
    have := Rat.divInt_mul_right (n := z) (d := 1) (pow_ne k)
    rw [Int.one_mul] at this
    exact this
  rw [e]
  have h := (Go.Proofs.YthnikbladjaifaaGreatDoor.divInt_small z 1 (by decide)).2
  have h2 := (Rat.divInt z 1).den_pos
  have h3 : (Rat.divInt z ((1 : Nat) : Int)).den = (Rat.divInt z 1).den := rfl
  omega
end
/-! sizes -/
theorem flo_sz {j : Nat} {q : Rat} {k : Nat} (h : Sz j (q.num * ((10 ^ k : Nat) : Int))) : Sz j (flo q k) := Nat.lt_of_le_of_lt (Int.natAbs_ediv_le_natAbs _ _) h
theorem cei_sz {j : Nat} {q : Rat} {k : Nat} (hj : 1 ≤ j) (h : Sz j (q.num * ((10 ^ k : Nat) : Int))) : Sz (j + 1) (cei q k) := by
  unfold cei
  split
  · exact (flo_sz h).mono (by omega)
  · exact (flo_sz h).add (sz_one.mono hj)
end Rq
