/- Plain mathematics of great integers, of no program: groups of four digits, sums with carry, products, quotients. -/
import Derived.Lib.ItoaNum
import Derived.Lib.AtoiAll
namespace Ig
/-- what groups say, the lowest one first -/
def gval : List Int → Int
  | [] => 0
  | g :: l => g + 10000 * gval l
def Gr (l : List Int) : Prop := ∀ g ∈ l, 0 ≤ g ∧ g < 10000
/-- the groups of a number -/
def grp (n : Nat) : List Int := if h : n = 0 then [] else ((n % 10000 : Nat) : Int) :: grp (n / 10000)
  termination_by n
  decreasing_by omega
theorem grp_zero : grp 0 = [] := by rw [grp, dif_pos rfl]
theorem grp_pos {n : Nat} (h : n ≠ 0) : grp n = ((n % 10000 : Nat) : Int) :: grp (n / 10000) := by rw [grp, dif_neg h]
theorem gval_grp (n : Nat) : gval (grp n) = n := by
  induction n using Nat.strongRecOn with
  | _ n ih =>
    by_cases h : n = 0
    · subst h; rw [grp_zero]; rfl
    · rw [grp_pos h, gval, ih (n / 10000) (by omega)]; omega
theorem gr_grp (n : Nat) : Gr (grp n) := by
  induction n using Nat.strongRecOn with
  | _ n ih =>
    by_cases h : n = 0
    · subst h; rw [grp_zero]; intro g hg; cases hg
    · rw [grp_pos h]
      intro g hg
      rcases List.mem_cons.1 hg with rfl | hg
      · omega
      · exact ih (n / 10000) (by omega) g hg
theorem grp_nil {n : Nat} : grp n = [] ↔ n = 0 := by
  constructor
  · intro h
    by_cases h0 : n = 0
    · exact h0
    · rw [grp_pos h0] at h; cases h
  · rintro rfl; exact grp_zero
theorem gval_nonneg {l : List Int} (h : Gr l) : 0 ≤ gval l := by
  induction l with
  | nil => exact Int.le_refl _
  | cons g l ih =>
    have h1 := h g (by simp)
    have h2 := ih (fun x hx => h x (by simp [hx]))
    unfold gval; omega
theorem gval_append (a b : List Int) : gval (a ++ b) = gval a + 10000 ^ a.length * gval b := by
  induction a with
  | nil => simp [gval]
  | cons g a ih =>
    rw [List.cons_append, gval, ih, gval, List.length_cons, Int.pow_succ]
    rw [Int.mul_add, ← Int.mul_assoc, Int.mul_comm 10000 (10000 ^ a.length)]
    omega
theorem gval_lt {l : List Int} (h : Gr l) : gval l < 10000 ^ l.length := by
  induction l with
  | nil => decide
  | cons g l ih =>
    have h1 := h g (by simp)
    have h2 := ih (fun x hx => h x (by simp [hx]))
    rw [gval, List.length_cons, Int.pow_succ]; omega
/-- without zeros at the end, they are the groups of what they say -/
theorem grp_of : ∀ {l : List Int}, Gr l → l.getLast? ≠ some 0 → l = grp (gval l).toNat
  | [], _, _ => by rw [gval]; exact grp_zero.symm
  | g :: l, h, ht => by
    have h1 := h g (by simp)
    have h2 : Gr l := fun x hx => h x (by simp [hx])
    have h3 := gval_nonneg h2
    have ht2 : l.getLast? ≠ some 0 := by
      cases l with
      | nil => simp
      | cons a l => simpa [List.getLast?_cons_cons] using ht
    have ih := grp_of h2 ht2
    have hne : (gval (g :: l)).toNat ≠ 0 := by
      rw [gval]
      intro h0
      have hl0 : gval l = 0 := by omega
      rw [hl0] at ih
      rw [show (0 : Int).toNat = 0 from rfl, grp_zero] at ih
      subst ih
      have hg : g = 0 := by omega
      subst hg
      simp at ht
    rw [grp_pos hne]
    have e1 : ((gval (g :: l)).toNat / 10000) = (gval l).toNat := by rw [gval]; omega
    have e2 : (((gval (g :: l)).toNat % 10000 : Nat) : Int) = g := by rw [gval]; omega
    rw [e1, e2, ← ih]
/-- without zeros at the end -/
def trimG (l : List Int) : List Int := (l.reverse.dropWhile (· == 0)).reverse
theorem trimG_snoc_zero (l : List Int) : trimG (l ++ [0]) = trimG l := by simp [trimG]
theorem trimG_snoc {l : List Int} {g : Int} (h : g ≠ 0) : trimG (l ++ [g]) = l ++ [g] := by simp [trimG, h]
theorem trimG_nil : trimG [] = [] := rfl
theorem snoc_cases (l : List Int) : l = [] ∨ ∃ m g, l = m ++ [g] := by
  rcases List.eq_nil_or_concat l with h | ⟨m, g, h⟩
  · exact .inl h
  · exact .inr ⟨m, g, by simpa using h⟩
theorem trimG_grp : ∀ (n : Nat) {l : List Int}, l.length = n → Gr l → trimG l = grp (gval l).toNat
  | 0, l, hn, _ => by
    obtain rfl : l = [] := List.length_eq_zero_iff.1 hn
    exact grp_zero.symm
  | n + 1, l, hn, h => by
    rcases snoc_cases l with rfl | ⟨m, g, rfl⟩
    · simp at hn
    · have hm : Gr m := fun x hx => h x (by simp [hx])
      by_cases hg : g = 0
      · subst hg
        rw [trimG_snoc_zero, trimG_grp n (by simpa using hn) hm, gval_append]
        simp [gval]
      · rw [trimG_snoc hg]
        exact grp_of h (by simp [hg])
theorem trimG_of {l : List Int} (h : Gr l) : trimG l = grp (gval l).toNat := trimG_grp _ rfl h
theorem grp_getLast (n : Nat) : (grp n).getLast? ≠ some 0 := by
  induction n using Nat.strongRecOn with
  | _ n ih =>
    by_cases h : n = 0
    · subst h; rw [grp_zero]; simp
    · rw [grp_pos h]
      cases hl : grp (n / 10000) with
      | nil =>
        have h0 := grp_nil.1 hl
        simp; omega
      | cons a l =>
        rw [List.getLast?_cons_cons, ← hl]
        exact ih (n / 10000) (by omega)
theorem grp_len {n k : Nat} (h : n < 10000 ^ k) : (grp n).length ≤ k := by
  induction k generalizing n with
  | zero =>
    have : n = 0 := by simpa using h
    subst this; rw [grp_zero]; simp
  | succ k ih =>
    by_cases h0 : n = 0
    · subst h0; rw [grp_zero]; simp
    · rw [grp_pos h0, List.length_cons]
      have : n / 10000 < 10000 ^ k := by
        rw [Nat.pow_succ] at h
        exact Nat.div_lt_of_lt_mul (by rw [Nat.mul_comm]; exact h)
      have := ih this
      omega
theorem grp_lt (n : Nat) : n < 10000 ^ (grp n).length := by
  have h1 := gval_lt (gr_grp n)
  rw [gval_grp] at h1
  have h2 : ((10000 ^ (grp n).length : Nat) : Int) = (10000 : Int) ^ (grp n).length := by simp
  omega
/-- a group, 0 behind the last one -/
def atG (l : List Int) (i : Nat) : Int := l[i]?.getD 0
theorem atG_lt {l : List Int} {i : Nat} (h : i < l.length) : atG l i = l[i] := by simp [atG, h]
theorem atG_ge {l : List Int} {i : Nat} (h : l.length ≤ i) : atG l i = 0 := by simp [atG, h]
theorem gval_at (l : List Int) (k : Nat) : gval (l.take (k + 1)) = gval (l.take k) + 10000 ^ k * atG l k := by
  by_cases h : k < l.length
  · rw [List.take_succ_eq_append_getElem h, gval_append, atG_lt h]
    simp [gval, Nat.min_eq_left (Nat.le_of_lt h)]
  · rw [List.take_of_length_le (by omega), List.take_of_length_le (by omega), atG_ge (by omega)]
    simp
/-! ### sums with carry -/
/-- the sum of the first n digits of a function -/
def dsum (d : Nat → Int) : Nat → Int
  | 0 => 0
  | n + 1 => dsum d n + 10000 ^ n * d n
/-- between two rounds: what was put out, and the carry -/
structure FoldAt (d : Nat → Int) (i : Nat) (out : List Int) (carry : Int) : Prop where
  len : out.length = i
  gr : Gr out
  eq : gval out + 10000 ^ i * carry = dsum d i
theorem fold_start (d : Nat → Int) : FoldAt d 0 [] 0 := ⟨rfl, (fun g h => by cases h), by simp [gval, dsum]⟩
theorem fold_step {d : Nat → Int} {i : Nat} {out : List Int} {carry : Int} (h : FoldAt d i out carry) : FoldAt d (i + 1) (out ++ [(d i + carry) % 10000]) ((d i + carry) / 10000) := by
  refine ⟨by simp [h.len], fun g hg => ?_, ?_⟩
  · rcases List.mem_append.1 hg with hg | hg
    · exact h.gr g hg
    · obtain rfl : g = (d i + carry) % 10000 := by simpa using hg
      omega
  · rw [gval_append, h.len, dsum, ← h.eq, Int.pow_succ]
    have e : (d i + carry) % 10000 + 10000 * ((d i + carry) / 10000) = d i + carry := by omega
    simp only [gval]
    rw [Int.mul_zero, Int.add_zero, Int.mul_assoc, Int.add_assoc, ← Int.mul_add, e, Int.mul_add]
    omega
theorem fold_carry {d : Nat → Int} {i : Nat} {out : List Int} {carry : Int} (h : FoldAt d i out carry) (h0 : 0 ≤ dsum d i) : 0 ≤ carry := by
  have h1 := gval_lt h.gr
  rw [h.len] at h1
  have h2 := h.eq
  rcases Int.lt_or_le carry 0 with hc | hc
  · have h3 : (10000 : Int) ^ i * carry ≤ 10000 ^ i * (-1) := Int.mul_le_mul_of_nonneg_left (by omega) (Int.le_of_lt (Int.pow_pos (by decide)))
    omega
  · exact hc
theorem fold_end {d : Nat → Int} {i : Nat} {out : List Int} (h : FoldAt d i out 0) : trimG out = grp (dsum d i).toNat := by
  rw [trimG_of h.gr]
  have := h.eq
  rw [Int.mul_zero, Int.add_zero] at this
  rw [this]
theorem dsum_add (a b : Nat → Int) (n : Nat) : dsum (fun i => a i + b i) n = dsum a n + dsum b n := by
  induction n with
  | zero => rfl
  | succ n ih => simp only [dsum, ih, Int.mul_add]; omega
theorem dsum_sub (a b : Nat → Int) (n : Nat) : dsum (fun i => a i - b i) n = dsum a n - dsum b n := by
  induction n with
  | zero => rfl
  | succ n ih => simp only [dsum, ih, Int.mul_sub]; omega
theorem dsum_mul (a : Nat → Int) (c : Int) (n : Nat) : dsum (fun i => a i * c) n = dsum a n * c := by
  induction n with
  | zero => simp [dsum]
  | succ n ih => simp only [dsum, ih, Int.add_mul, Int.mul_assoc]
theorem dsum_at (l : List Int) (n : Nat) : dsum (atG l) n = gval (l.take n) := by
  induction n with
  | zero => rfl
  | succ n ih => rw [dsum, ih, gval_at]
theorem dsum_all {l : List Int} {n : Nat} (h : l.length ≤ n) : dsum (atG l) n = gval l := by rw [dsum_at, List.take_of_length_le h]
theorem atG_in {l : List Int} (h : Gr l) (i : Nat) : 0 ≤ atG l i ∧ atG l i < 10000 := by
  by_cases hi : i < l.length
  · rw [atG_lt hi]; exact h _ (List.getElem_mem hi)
  · rw [atG_ge (by omega)]; omega
/-! ### order -/
theorem len_order {a b : Nat} (h : (grp a).length < (grp b).length) : a < b := by
  rcases Nat.lt_or_ge a b with h1 | h1
  · exact h1
  · have h2 := grp_lt a
    have : b < 10000 ^ (grp a).length := by omega
    have := grp_len this
    omega
/-- groups of the same number, equal from k on, and different below: the group k-1 decides -/
theorem gval_order {l m : List Int} (hl : Gr l) (hm : Gr m) (hlen : l.length = m.length) (k : Nat) (hk : k < l.length) (hd : l.drop (k + 1) = m.drop (k + 1)) (hlt : atG l k < atG m k) : gval l < gval m := by
  have e : ∀ {x : List Int} (hx : k < x.length), x = x.take k ++ (atG x k :: x.drop (k + 1)) := fun {x} hx => by
    rw [atG_lt hx, ← List.drop_eq_getElem_cons hx, List.take_append_drop]
  rw [e hk, e (show k < m.length by omega), gval_append, gval_append, gval, gval, hd]
  have h1 := gval_lt (l := l.take k) (fun g hg => hl g (List.mem_of_mem_take hg))
  have h2 := gval_nonneg (l := m.take k) (fun g hg => hm g (List.mem_of_mem_take hg))
  have e1 : (l.take k).length = k := by simp; omega
  have e2 : (m.take k).length = k := by simp; omega
  rw [e1] at h1
  rw [e1, e2]
  have h3 : (10000 : Int) ^ k * (atG l k + 10000 * gval (m.drop (k + 1))) + 10000 ^ k ≤ 10000 ^ k * (atG m k + 10000 * gval (m.drop (k + 1))) := by
    have : (10000 : Int) ^ k * (atG l k + 10000 * gval (m.drop (k + 1))) + 10000 ^ k = 10000 ^ k * (atG l k + 10000 * gval (m.drop (k + 1)) + 1) := by rw [Int.mul_add (10000 ^ k) (_ + _) 1, Int.mul_one]
    rw [this]
    exact Int.mul_le_mul_of_nonneg_left (by omega) (Int.le_of_lt (Int.pow_pos (by decide)))
  omega
end Ig
