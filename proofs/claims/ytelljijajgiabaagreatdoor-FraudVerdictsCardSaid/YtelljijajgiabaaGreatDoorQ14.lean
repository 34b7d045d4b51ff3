/- Valid of dialtoneref03. checked of dialtoneref03. sum of dialtoneref03. Compare, Add, Sub of dialtoneref03. FromInt (not negative) of dialtoneref03. FromInt (negative) of dialtoneref03. The product of two lists of digits, as dialtoneref03.times makes it: plain. times of dialtoneref03 . Mul of dialtoneref03. The quotient and the remainder of two lists of digits, as dialtoneref03.divided makes them: plain. divided of dialtoneref03: the quotient and the remainder, digit by digit. -/
import Derived.Test.YtelljijajgiabaaGreatDoorQ13
import Derived.Test.YtelljijajgiabaaGreatDoorQ04
import Derived.Test.YtelljijajgiabaaGreatDoorQ03
set_option linter.unusedVariables false
set_option linter.unusedSimpArgs false
set_option maxRecDepth 100000
set_option maxHeartbeats 8000000
namespace Go.Proofs.YtelljijajgiabaaGreatDoor
open Go.RowKit Go.Shelf
end Go.Proofs.YtelljijajgiabaaGreatDoor
namespace Go.Proofs.YtelljijajgiabaaGreatDoor
open Go.RowKit Go.Shelf
end Go.Proofs.YtelljijajgiabaaGreatDoor
namespace Go.Proofs.YtelljijajgiabaaGreatDoor
open Go.RowKit Go.Shelf
end Go.Proofs.YtelljijajgiabaaGreatDoor
namespace Go.Proofs.YtelljijajgiabaaGreatDoor
open Go.RowKit Go.Shelf
end Go.Proofs.YtelljijajgiabaaGreatDoor
namespace Go.Proofs.YtelljijajgiabaaGreatDoor
open Go.RowKit Go.Shelf
end Go.Proofs.YtelljijajgiabaaGreatDoor
namespace Go.Proofs.YtelljijajgiabaaGreatDoor
open Go.RowKit Go.Shelf
end Go.Proofs.YtelljijajgiabaaGreatDoor
namespace Dx
theorem atG_set {l : List Int} {j : Nat} {v : Int} (h : j < l.length) (t : Nat) : atG (l.set j v) t = if t = j then v else atG l t := by
  unfold atG
  rw [List.getElem?_set]
  by_cases ht : j = t
  · subst ht; rw [if_pos rfl, if_pos h, if_pos rfl]; rfl
  · rw [if_neg ht, if_neg (fun e => ht e.symm)]
theorem gval_set : ∀ {l : List Int} {j : Nat} {v : Int}, j < l.length → gval (l.set j v) = gval l + 10 ^ j * (v - atG l j)
  | [], j, v, h => absurd h (Nat.not_lt_zero _)
  | a :: l, 0, v, _ => by
    show v + 10 * gval l = a + 10 * gval l + 10 ^ 0 * (v - a)
    simp; omega
  | a :: l, j + 1, v, h => by
    have ih := gval_set (l := l) (j := j) (v := v) (by simpa using h)
    show a + 10 * gval (l.set j v) = a + 10 * gval l + 10 ^ (j + 1) * (v - atG l j)
    rw [ih, Int.pow_succ, Int.mul_add, Int.mul_comm (10 ^ j) 10, Int.mul_assoc]
    omega
structure TIn (C0 C : List Int) (i : Nat) (x : Int) (m : List Int) (k : Nat) (c : Int) : Prop where
  len : C.length = C0.length
  gr : Gr C
  eq : gval C + 10 ^ (i + k) * c = gval C0 + 10 ^ i * (x * gval (m.take k))
  same : ∀ t, i + k ≤ t → atG C t = atG C0 t
  c0 : 0 ≤ c
  c9 : c ≤ 9
theorem mul_digits {x y : Int} (hx : 0 ≤ x ∧ x < 10) (hy : 0 ≤ y ∧ y < 10) : 0 ≤ x * y ∧ x * y ≤ 81 := by
  refine ⟨Int.mul_nonneg hx.1 hy.1, ?_⟩
  have h1 : x * y ≤ 9 * y := Int.mul_le_mul_of_nonneg_right (by omega) hy.1
  omega
theorem TIn.start {C0 : List Int} (h : Gr C0) (i : Nat) (x : Int) (m : List Int) : TIn C0 C0 i x m 0 0 := ⟨rfl, h, by simp [gval], fun _ _ => rfl, by omega, by omega⟩
theorem TIn.step {C0 C m : List Int} {i k : Nat} {x c : Int} (h : TIn C0 C i x m k c) (hx : 0 ≤ x ∧ x < 10) (hm : Gr m) (hk : i + k < C.length) : TIn C0 (C.set (i + k) ((atG C (i + k) + c + x * atG m k) % 10)) i x m (k + 1) ((atG C (i + k) + c + x * atG m k) / 10) := by
  have hC := atG_in h.gr (i + k)
  have hy := atG_in hm k
  have hxy := mul_digits hx hy
  have h0 := h.c0
  have h9 := h.c9
  refine ⟨by rw [List.length_set, h.len], fun g hg => ?_, ?_, fun t ht => ?_, by omega, by omega⟩
  · rcases List.mem_or_eq_of_mem_set hg with h1 | h1
    · exact h.gr g h1
    · subst h1; omega
  · rw [gval_set hk, gval_at]
    have he := h.eq
    have e1 : (10 : Int) ^ (i + (k + 1)) = 10 ^ (i + k) * 10 := by rw [← Nat.add_assoc, Int.pow_succ]
    have e2 : (10 : Int) ^ (i + k) = 10 ^ i * 10 ^ k := Int.pow_add _ _ _
    generalize atG C (i + k) = u at *
    generalize atG m k = y at *
    have e3 : (u + c + x * y) % 10 - u + 10 * ((u + c + x * y) / 10) = c + x * y := by omega
    have e4 : gval C + 10 ^ (i + k) * ((u + c + x * y) % 10 - u) + 10 ^ (i + (k + 1)) * ((u + c + x * y) / 10) = gval C + 10 ^ (i + k) * (c + x * y) := by
      rw [e1, Int.mul_assoc, Int.add_assoc, ← Int.mul_add, e3]
    rw [e4, Int.mul_add, ← Int.add_assoc, he, e2, Int.mul_add, Int.mul_add, Int.add_assoc]
    congr 2
    rw [Int.mul_assoc, Int.mul_left_comm x (10 ^ k) y]
  · rw [atG_set hk, if_neg (by omega)]
    exact h.same t (by omega)
theorem TIn.stop {C0 C m : List Int} {i k : Nat} {x : Int} (h : TIn C0 C i x m k 0) (hk : m.length ≤ k) : gval C = gval C0 + 10 ^ i * (x * gval m) := by
  have := h.eq
  rw [List.take_of_length_le hk] at this
  omega
end Dx
namespace Go.Proofs.YtelljijajgiabaaGreatDoor
open Go.RowKit Go.Shelf
end Go.Proofs.YtelljijajgiabaaGreatDoor
namespace Go.Proofs.YtelljijajgiabaaGreatDoor
open Go.RowKit Go.Shelf
end Go.Proofs.YtelljijajgiabaaGreatDoor
namespace Dx
def hi (l : List Int) (k : Nat) : Nat := (from_ l k).toNat
theorem hi_step {l : List Int} (h : Gr l) {k : Nat} (hk : k < l.length) : hi l k = (atG l k).toNat + 10 * hi l (k + 1) := by
  have h1 := from_step hk
  have h2 := from_nonneg h (k + 1)
  have h3 := atG_in h k
  rw [← atG_lt hk] at h1
  unfold hi
  omega
theorem hi_end {l : List Int} {k : Nat} (hk : l.length ≤ k) : hi l k = 0 := by unfold hi; rw [from_end hk]; rfl
theorem hi_zero (n : Nat) : hi (grp n) 0 = n := by
  unfold hi; rw [from_zero, gval_grp]; exact Int.toNat_natCast n
structure DOut (l C : List Int) (k b : Nat) : Prop where
  len : C.length = l.length
  gr : Gr C
  low : ∀ t, t < k → atG C t = 0
  val : hi C k = hi l k / b
structure DIn (l C : List Int) (k b t : Nat) : Prop where
  len : C.length = l.length
  gr : Gr C
  low : ∀ u, u < k → atG C u = 0
  here : atG C k = t
  val : hi C (k + 1) = hi l (k + 1) / b
theorem atG_rep (n t : Nat) : atG (List.replicate n 0) t = 0 := by
  unfold atG
  rw [List.getElem?_replicate]
  split <;> rfl
theorem DOut.start (l : List Int) (b : Nat) : DOut l (List.replicate l.length 0) l.length b := by
  refine ⟨by simp, fun g hg => ?_, fun t _ => atG_rep _ _, ?_⟩
  · obtain rfl := List.eq_of_mem_replicate hg; omega
  · rw [hi_end (by simp), hi_end (Nat.le_refl _), Nat.zero_div]
theorem DIn.step {l C : List Int} {k b t : Nat} (h : DIn l C k b t) (hk : k < C.length) (ht : t + 1 < 10) : DIn l (C.set k ((t : Int) + 1)) k b (t + 1) := by
  refine ⟨by rw [List.length_set, h.len], fun g hg => ?_, fun u hu => ?_, ?_, ?_⟩
  · rcases List.mem_or_eq_of_mem_set hg with h1 | h1
    · exact h.gr g h1
    · subst h1; omega
  · rw [atG_set hk, if_neg (by omega)]; exact h.low u hu
  · rw [atG_set hk, if_pos rfl]; omega
  · rw [← h.val]
    unfold hi from_
    rw [List.drop_set_of_lt (by omega)]
theorem DIn.stop {l C : List Int} {k b t : Nat} (h : DIn l C k b t) (hl : Gr l) (hk : k < l.length) (hb : 0 < b) (ht : t = ((atG l k).toNat + 10 * (hi l (k + 1) % b)) / b) : DOut l C k b := by
  refine ⟨h.len, h.gr, h.low, ?_⟩
  have hx := atG_in hl k
  have h1 := div_step (g := (atG l k).toNat) (R := hi l (k + 1)) hb (by omega)
  rw [hi_step h.gr (by rw [h.len]; exact hk), hi_step hl hk, h.here, h.val, h1.2.1, ht]
  rw [Int.toNat_natCast]
theorem DOut.fin {a : Nat} {C : List Int} {b : Nat} (h : DOut (grp a) C 0 b) : Ig.trimG C = grp (a / b) := by
  have h1 := h.val
  rw [hi_zero] at h1
  rw [← trim_same, trimG_of h.gr, ← h1]
  rfl
end Dx
namespace Go.Proofs.YtelljijajgiabaaGreatDoor
open Go.RowKit Go.Shelf
end Go.Proofs.YtelljijajgiabaaGreatDoor
