/- Plain mathematics of the operations on groups, of no program: products by rows, long division, order. -/
import Derived.Test.YtdjnkaeggnkgeaaGreatDoorITxt
namespace Ig
theorem grp_shift {v : Nat} (h : v ≠ 0) : (0 : Int) :: grp v = grp (10000 * v) := by
  rw [grp_pos (n := 10000 * v) (by omega), show 10000 * v % 10000 = 0 by omega, show 10000 * v / 10000 = v by omega]
  rfl
theorem grp_eq_nil {v : Nat} : (grp v).length = 0 ↔ v = 0 := by rw [List.length_eq_zero_iff, grp_nil]
/-- the value from group i on -/
def from_ (l : List Int) (i : Nat) : Int := gval (l.drop i)
theorem from_step {l : List Int} {i : Nat} (h : i < l.length) : from_ l i = l[i] + 10000 * from_ l (i + 1) := by
  unfold from_
  rw [List.drop_eq_getElem_cons h]
  rfl
theorem from_zero (l : List Int) : from_ l 0 = gval l := rfl
theorem from_end {l : List Int} {i : Nat} (h : l.length ≤ i) : from_ l i = 0 := by unfold from_; rw [List.drop_eq_nil_of_le h]; rfl
theorem from_nonneg {l : List Int} (h : Gr l) (i : Nat) : 0 ≤ from_ l i := gval_nonneg fun g hg => h g (List.mem_of_mem_drop hg)
/-! ### one step of the division -/
theorem div_step {g R M : Nat} (hM : 0 < M) (hg : g < 10000) : (g + 10000 * (R % M)) / M < 10000 ∧ (g + 10000 * R) / M = (g + 10000 * (R % M)) / M + 10000 * (R / M) ∧ (g + 10000 * R) % M = (g + 10000 * (R % M)) % M := by
  have h1 := Nat.mod_lt R hM
  have h2 := Nat.mod_add_div R M
  refine ⟨?_, ?_, ?_⟩
  · rw [Nat.div_lt_iff_lt_mul hM]
    have : 10000 * (R % M) + 10000 ≤ 10000 * M := by omega
    omega
  · have e : g + 10000 * R = (g + 10000 * (R % M)) + M * (10000 * (R / M)) := by
      conv => lhs; rw [← h2]
      rw [Nat.mul_add, ← Nat.mul_assoc, ← Nat.mul_assoc, Nat.mul_comm M 10000]; omega
    rw [e, Nat.add_mul_div_left _ _ hM]
  · have e : g + 10000 * R = (g + 10000 * (R % M)) + M * (10000 * (R / M)) := by
      conv => lhs; rw [← h2]
      rw [Nat.mul_add, ← Nat.mul_assoc, ← Nat.mul_assoc, Nat.mul_comm M 10000]; omega
    rw [e, Nat.add_mul_mod_self_left]
theorem div_found {R M d : Nat} (hM : 0 < M) : M * (d + 1) ≤ R ↔ d < R / M := by
  rw [Nat.lt_iff_add_one_le, Nat.le_div_iff_mul_le hM, Nat.mul_comm]
/-- comparing by groups -/
def cmpI (a b : Nat) : Int := if a < b then -1 else if a = b then 0 else 1
theorem cmpI_lt {a b : Nat} (h : a < b) : cmpI a b = -1 := by unfold cmpI; rw [if_pos h]
theorem cmpI_eq (a : Nat) : cmpI a a = 0 := by unfold cmpI; rw [if_neg (by omega), if_pos rfl]
theorem cmpI_gt {a b : Nat} (h : b < a) : cmpI a b = 1 := by unfold cmpI; rw [if_neg (by omega), if_neg (by omega)]
theorem cmp_len {a b : Nat} (h : (grp a).length ≠ (grp b).length) : cmpI a b = if (grp a).length < (grp b).length then -1 else 1 := by
  by_cases h1 : (grp a).length < (grp b).length
  · rw [if_pos h1, cmpI_lt (len_order h1)]
  · rw [if_neg h1, cmpI_gt (len_order (by omega))]
theorem cmp_at {a b : Nat} (hlen : (grp a).length = (grp b).length) (k : Nat) (hk : k < (grp a).length) (hd : (grp a).drop (k + 1) = (grp b).drop (k + 1)) (hne : atG (grp a) k ≠ atG (grp b) k) : cmpI a b = if atG (grp a) k < atG (grp b) k then -1 else 1 := by
  have va := gval_grp a; have vb := gval_grp b
  by_cases h : atG (grp a) k < atG (grp b) k
  · have := gval_order (gr_grp a) (gr_grp b) hlen k hk hd h
    rw [if_pos h, cmpI_lt (by omega)]
  · have := gval_order (gr_grp b) (gr_grp a) hlen.symm k (by omega) hd.symm (by omega)
    rw [if_neg h, cmpI_gt (by omega)]
theorem cmp_same {a b : Nat} (h : grp a = grp b) : cmpI a b = 0 := by
  have va := gval_grp a; have vb := gval_grp b
  rw [h, vb] at va
  have : a = b := by omega
  subst this
  exact cmpI_eq a
theorem dsum_gap {d : Nat → Int} {n m : Nat} (h : ∀ i, n ≤ i → d i = 0) (hm : n ≤ m) : dsum d m = dsum d n := by
  induction m with
  | zero => have : n = 0 := by omega
            subst this; rfl
  | succ m ih =>
    by_cases hn : n = m + 1
    · subst hn; rfl
    · rw [dsum, h m (by omega), ih (by omega)]; simp
/-! ### Newton's root -/
theorem newton {x r : Nat} (hr : 0 < r) (hx : x < (r + 1) * (r + 1)) (h : r ≤ (r + x / r) / 2) : r * r ≤ x := by
  have h1 : r ≤ x / r := by omega
  exact (Nat.le_div_iff_mul_le hr).1 h1
theorem sq_le_sum (a b : Nat) : 4 * (a * b) ≤ (a + b) * (a + b) := by
  rcases Nat.le_total a b with h | h
  · obtain ⟨k, rfl⟩ := Nat.exists_eq_add_of_le h
    have : (a + (a + k)) * (a + (a + k)) = 4 * (a * (a + k)) + k * k := by
      simp only [Nat.add_mul, Nat.mul_add]; rw [Nat.mul_comm k a]; omega
    omega
  · obtain ⟨k, rfl⟩ := Nat.exists_eq_add_of_le h
    have : ((b + k) + b) * ((b + k) + b) = 4 * ((b + k) * b) + k * k := by
      simp only [Nat.add_mul, Nat.mul_add]; rw [Nat.mul_comm k b]; omega
    omega
/-- Newton's step stays above the root -/
theorem newton_above {x r s : Nat} (hr : 0 < r) (hs : s * s ≤ x) : s ≤ (r + x / r) / 2 := by
  rcases Nat.lt_or_ge ((r + x / r) / 2) s with h | h
  · exfalso
    have h1 : r + x / r + 1 ≤ 2 * s - 1 + 0 + 0 ∨ r + x / r < 2 * s := by omega
    have h2 : r + x / r < 2 * s := by omega
    have h3 : x < r * (x / r + 1) := by
      have := Nat.lt_mul_div_succ x hr; exact this
    have h4 : r + (x / r + 1) ≤ 2 * s := by omega
    have h5 := sq_le_sum r (x / r + 1)
    have h6 : (r + (x / r + 1)) * (r + (x / r + 1)) ≤ (2 * s) * (2 * s) := Nat.mul_le_mul h4 h4
    have h7 : (2 * s) * (2 * s) = 4 * (s * s) := by rw [Nat.mul_mul_mul_comm]
    omega
  · exact h
end Ig
