/- Signed division, plain. -/
import Derived.Test.YtdjnkaeggnkgeaaGreatDoorIAdd
namespace Go.Proofs.YtdjnkaeggnkgeaaGreatDoor
theorem neg_div0 {a b : Nat} (hb : 0 < b) (h : a % b = 0) : (-(a : Int)) / (b : Int) = -((a / b : Nat) : Int) ∧ (-(a : Int)) % (b : Int) = 0 := by
  refine (Int.ediv_emod_unique (by omega)).2 ⟨?_, Int.le_refl _, by omega⟩
  have h1 := Nat.div_add_mod a b
  rw [h] at h1
  rw [Int.mul_neg, Int.zero_add, ← Int.natCast_mul]
  omega
theorem neg_div1 {a b : Nat} (hb : 0 < b) (h : a % b ≠ 0) : (-(a : Int)) / (b : Int) = -((a / b + 1 : Nat) : Int) ∧ (-(a : Int)) % (b : Int) = ((b - a % b : Nat) : Int) := by
  have h2 := Nat.mod_lt a hb
  refine (Int.ediv_emod_unique (by omega)).2 ⟨?_, by omega, by omega⟩
  have h1 := Nat.div_add_mod a b
  rw [Int.mul_neg, ← Int.natCast_mul, Nat.mul_add, Nat.mul_one]
  omega
theorem abs_cases (x : Int) : (x = (x.natAbs : Int) ∧ decide (x < 0) = false) ∨ (x = -(x.natAbs : Int) ∧ decide (x < 0) = true) := by
  by_cases h : x < 0
  · exact .inr ⟨by omega, by simpa using h⟩
  · exact .inl ⟨by omega, by simpa using h⟩
theorem div_keep {x y : Int} (hy : y ≠ 0) (h : decide (x < 0) = false ∨ x.natAbs % y.natAbs = 0) : sgn (decide (x < 0) != decide (y < 0)) (x.natAbs / y.natAbs) = x / y ∧ ((x.natAbs % y.natAbs : Nat) : Int) = x % y := by
  have hb : 0 < y.natAbs := by omega
  have hx := abs_cases x
  have hy := abs_cases y
  generalize x.natAbs = a at *
  generalize y.natAbs = b at *
  generalize decide (x < 0) = n at *
  generalize decide (y < 0) = m at *
  rcases hx with ⟨rfl, rfl⟩ | ⟨rfl, rfl⟩ <;> rcases hy with ⟨rfl, rfl⟩ | ⟨rfl, rfl⟩
  · simp [sgn]
  · simp [sgn, Int.ediv_neg]
  · have hr : a % b = 0 := by simpa using h
    have := neg_div0 hb hr
    simp [sgn, this.1, this.2, hr]
  · have hr : a % b = 0 := by simpa using h
    have := neg_div0 hb hr
    simp [sgn, Int.ediv_neg, this.1, this.2, hr]
theorem div_turn {x y : Int} (hy : y ≠ 0) (h : decide (x < 0) = true) (h' : x.natAbs % y.natAbs ≠ 0) : sgn (decide (x < 0) != decide (y < 0)) (x.natAbs / y.natAbs + 1) = x / y ∧ ((y.natAbs - x.natAbs % y.natAbs : Nat) : Int) = x % y := by
  have hb : 0 < y.natAbs := by omega
  have hx := abs_cases x
  have hy := abs_cases y
  generalize x.natAbs = a at *
  generalize y.natAbs = b at *
  generalize decide (x < 0) = n at *
  generalize decide (y < 0) = m at *
  subst h
  have hx : x = -(a : Int) := by simpa using hx
  subst hx
  have h3 := neg_div1 hb h'
  rcases hy with ⟨rfl, rfl⟩ | ⟨rfl, rfl⟩
  · rw [h3.1, h3.2]; simp [sgn]
  · rw [Int.ediv_neg, Int.emod_neg, h3.1, h3.2]; simp [sgn]
theorem fits_div {x : Int} (y : Int) (h : Ig.fits x) : Ig.fits (x / y) := Nat.lt_of_le_of_lt (Int.natAbs_ediv_le_natAbs x y) h
theorem fits_mod (x : Int) {y : Int} (hy : y ≠ 0) (h : Ig.fits y) : Ig.fits (x % y) := by
  have h1 := Int.emod_nonneg x hy
  have h2 := Int.emod_lt x hy
  unfold Ig.fits at *
  omega
end Go.Proofs.YtdjnkaeggnkgeaaGreatDoor
