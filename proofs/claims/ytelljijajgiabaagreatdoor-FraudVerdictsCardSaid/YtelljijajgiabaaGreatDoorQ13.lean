/- Plain mathematics of decimal digits, the lowest one first (after IMath, the base turned). Decimal digits, further: sums with carry, order (after IMath and IOps, the base turned). text, trim and Made of dialtoneref03. text of dialtoneref03. order of dialtoneref03: decimal digits in memory, compared. plus of dialtoneref03. minus of dialtoneref03. digits of dialtoneref03. -/
import Derived.Test.YtelljijajgiabaaGreatDoorQ02
import Derived.Test.YtelljijajgiabaaGreatDoorQ00
import Derived.Test.YtelljijajgiabaaGreatDoorQ04
import Derived.Test.YtelljijajgiabaaGreatDoorQ08
set_option linter.unusedVariables false
set_option linter.unusedSimpArgs false
set_option maxRecDepth 100000
set_option maxHeartbeats 8000000
namespace Dx
def gval : List Int → Int
  | [] => 0
  | g :: l => g + 10 * gval l
def Gr (l : List Int) : Prop := ∀ g ∈ l, 0 ≤ g ∧ g < 10
def grp (n : Nat) : List Int := if h : n = 0 then [] else ((n % 10 : Nat) : Int) :: grp (n / 10)
  termination_by n
  decreasing_by omega
theorem grp_zero : grp 0 = [] := by rw [grp, dif_pos rfl]
theorem grp_pos {n : Nat} (h : n ≠ 0) : grp n = ((n % 10 : Nat) : Int) :: grp (n / 10) := by rw [grp, dif_neg h]
theorem gval_grp (n : Nat) : gval (grp n) = n := by
  induction n using Nat.strongRecOn with
  | _ n ih =>
    by_cases h : n = 0
    · subst h; rw [grp_zero]; rfl
    · rw [grp_pos h, gval, ih (n / 10) (by omega)]; omega
theorem gr_grp (n : Nat) : Gr (grp n) := by
  induction n using Nat.strongRecOn with
  | _ n ih =>
    by_cases h : n = 0
    · subst h; rw [grp_zero]; intro g hg; cases hg
    · rw [grp_pos h]
      intro g hg
      rcases List.mem_cons.1 hg with rfl | hg
      · omega
      · exact ih (n / 10) (by omega) g hg
theorem grp_nil {n : Nat} : grp n = [] ↔ n = 0 := by
  constructor
  · intro h
    by_cases h0 : n = 0
    · exact h0
    · rw [grp_pos h0] at h; cases h
  · rintro rfl; exact grp_zero
theorem gval_nonneg {l : List Int} (h : Gr l) : 0 ≤ gval l := by
  induction l with
  | nil => exact Int.le_refl _
  | cons g l ih =>
    have h1 := h g (by simp)
    have h2 := ih (fun x hx => h x (by simp [hx]))
    unfold gval; omega
theorem gval_append (a b : List Int) : gval (a ++ b) = gval a + 10 ^ a.length * gval b := by
  induction a with
  | nil => simp [gval]
  | cons g a ih =>
    rw [List.cons_append, gval, ih, gval, List.length_cons, Int.pow_succ]
    rw [Int.mul_add, ← Int.mul_assoc, Int.mul_comm 10 (10 ^ a.length)]
    omega
theorem gval_lt {l : List Int} (h : Gr l) : gval l < 10 ^ l.length := by
  induction l with
  | nil => decide
  | cons g l ih =>
    have h1 := h g (by simp)
    have h2 := ih (fun x hx => h x (by simp [hx]))
    rw [gval, List.length_cons, Int.pow_succ]; omega
theorem grp_of : ∀ {l : List Int}, Gr l → l.getLast? ≠ some 0 → l = grp (gval l).toNat
  | [], _, _ => by rw [gval]; exact grp_zero.symm
  | g :: l, h, ht => by
    have h1 := h g (by simp)
    have h2 : Gr l := fun x hx => h x (by simp [hx])
    have h3 := gval_nonneg h2
    have ht2 : l.getLast? ≠ some 0 := by
      cases l with
      | nil => simp
      | cons a l => simpa [List.getLast?_cons_cons] using ht
    have ih := grp_of h2 ht2
    have hne : (gval (g :: l)).toNat ≠ 0 := by
      rw [gval]
      intro h0
      have hl0 : gval l = 0 := by omega
      rw [hl0] at ih
      rw [show (0 : Int).toNat = 0 from rfl, grp_zero] at ih
      subst ih
      have hg : g = 0 := by omega
      subst hg
      simp at ht
    rw [grp_pos hne]
    have e1 : ((gval (g :: l)).toNat / 10) = (gval l).toNat := by rw [gval]; omega
    have e2 : (((gval (g :: l)).toNat % 10 : Nat) : Int) = g := by rw [gval]; omega
    rw [e1, e2, ← ih]
def trimG (l : List Int) : List Int := (l.reverse.dropWhile (· == 0)).reverse
theorem trimG_snoc_zero (l : List Int) : trimG (l ++ [0]) = trimG l := by simp [trimG]
theorem trimG_snoc {l : List Int} {g : Int} (h : g ≠ 0) : trimG (l ++ [g]) = l ++ [g] := by simp [trimG, h]
theorem snoc_cases (l : List Int) : l = [] ∨ ∃ m g, l = m ++ [g] := by
  rcases List.eq_nil_or_concat l with h | ⟨m, g, h⟩
  · exact .inl h
  · exact .inr ⟨m, g, by simpa using h⟩
theorem trimG_grp : ∀ (n : Nat) {l : List Int}, l.length = n → Gr l → trimG l = grp (gval l).toNat
  | 0, l, hn, _ => by
    obtain rfl : l = [] := List.length_eq_zero_iff.1 hn
    exact grp_zero.symm
  | n + 1, l, hn, h => by
    rcases snoc_cases l with rfl | ⟨m, g, rfl⟩
    · simp at hn
    · have hm : Gr m := fun x hx => h x (by simp [hx])
      by_cases hg : g = 0
      · subst hg
        rw [trimG_snoc_zero, trimG_grp n (by simpa using hn) hm, gval_append]
        simp [gval]
      · rw [trimG_snoc hg]
        exact grp_of h (by simp [hg])
theorem trimG_of {l : List Int} (h : Gr l) : trimG l = grp (gval l).toNat := trimG_grp _ rfl h
theorem grp_getLast (n : Nat) : (grp n).getLast? ≠ some 0 := by
  induction n using Nat.strongRecOn with
  | _ n ih =>
    by_cases h : n = 0
    · subst h; rw [grp_zero]; simp
    · rw [grp_pos h]
      cases hl : grp (n / 10) with
      | nil =>
        have h0 := grp_nil.1 hl
        simp; omega
      | cons a l =>
        rw [List.getLast?_cons_cons, ← hl]
        exact ih (n / 10) (by omega)
theorem grp_len {n k : Nat} (h : n < 10 ^ k) : (grp n).length ≤ k := by
  induction k generalizing n with
  | zero =>
    have : n = 0 := by simpa using h
    subst this; rw [grp_zero]; simp
  | succ k ih =>
    by_cases h0 : n = 0
    · subst h0; rw [grp_zero]; simp
    · rw [grp_pos h0, List.length_cons]
      have : n / 10 < 10 ^ k := by
        rw [Nat.pow_succ] at h
        exact Nat.div_lt_of_lt_mul (by rw [Nat.mul_comm]; exact h)
      have := ih this
      omega
theorem grp_lt (n : Nat) : n < 10 ^ (grp n).length := by
  have h1 := gval_lt (gr_grp n)
  rw [gval_grp] at h1
  have h2 : ((10 ^ (grp n).length : Nat) : Int) = (10 : Int) ^ (grp n).length := by simp
  omega
theorem trim_same (l : List Int) : trimG l = Ig.trimG l := rfl
end Dx
namespace Dx
open Ig (cmpI cmpI_lt cmpI_eq cmpI_gt)
def atG (l : List Int) (i : Nat) : Int := l[i]?.getD 0
theorem atG_lt {l : List Int} {i : Nat} (h : i < l.length) : atG l i = l[i] := by simp [atG, h]
theorem atG_ge {l : List Int} {i : Nat} (h : l.length ≤ i) : atG l i = 0 := by simp [atG, h]
theorem gval_at (l : List Int) (k : Nat) : gval (l.take (k + 1)) = gval (l.take k) + 10 ^ k * atG l k := by
  by_cases h : k < l.length
  · rw [List.take_succ_eq_append_getElem h, gval_append, atG_lt h]
    simp [gval, Nat.min_eq_left (Nat.le_of_lt h)]
  · rw [List.take_of_length_le (by omega), List.take_of_length_le (by omega), atG_ge (by omega)]
    simp
/-! ### sums with carry -/
def dsum (d : Nat → Int) : Nat → Int
  | 0 => 0
  | n + 1 => dsum d n + 10 ^ n * d n
structure FoldAt (d : Nat → Int) (i : Nat) (out : List Int) (carry : Int) : Prop where
  len : out.length = i
  gr : Gr out
  eq : gval out + 10 ^ i * carry = dsum d i
theorem fold_start (d : Nat → Int) : FoldAt d 0 [] 0 := ⟨rfl, (fun g h => by cases h), by simp [gval, dsum]⟩
theorem fold_step {d : Nat → Int} {i : Nat} {out : List Int} {carry : Int} (h : FoldAt d i out carry) : FoldAt d (i + 1) (out ++ [(d i + carry) % 10]) ((d i + carry) / 10) := by
  refine ⟨by simp [h.len], fun g hg => ?_, ?_⟩
  · rcases List.mem_append.1 hg with hg | hg
    · exact h.gr g hg
    · obtain rfl : g = (d i + carry) % 10 := by simpa using hg
      omega
  · rw [gval_append, h.len, dsum, ← h.eq, Int.pow_succ]
    have e : (d i + carry) % 10 + 10 * ((d i + carry) / 10) = d i + carry := by omega
    simp only [gval]
    rw [Int.mul_zero, Int.add_zero, Int.mul_assoc, Int.add_assoc, ← Int.mul_add, e, Int.mul_add]
    omega
theorem fold_carry {d : Nat → Int} {i : Nat} {out : List Int} {carry : Int} (h : FoldAt d i out carry) (h0 : 0 ≤ dsum d i) : 0 ≤ carry := by
  have h1 := gval_lt h.gr
  rw [h.len] at h1
  have h2 := h.eq
  rcases Int.lt_or_le carry 0 with hc | hc
  · have h3 : (10 : Int) ^ i * carry ≤ 10 ^ i * (-1) := Int.mul_le_mul_of_nonneg_left (by omega) (Int.le_of_lt (Int.pow_pos (by decide)))
    omega
  · exact hc
theorem fold_end {d : Nat → Int} {i : Nat} {out : List Int} (h : FoldAt d i out 0) : trimG out = grp (dsum d i).toNat := by
  rw [trimG_of h.gr]
  have := h.eq
  rw [Int.mul_zero, Int.add_zero] at this
  rw [this]
theorem dsum_add (a b : Nat → Int) (n : Nat) : dsum (fun i => a i + b i) n = dsum a n + dsum b n := by
  induction n with
  | zero => rfl
  | succ n ih => simp only [dsum, ih, Int.mul_add]; omega
theorem dsum_sub (a b : Nat → Int) (n : Nat) : dsum (fun i => a i - b i) n = dsum a n - dsum b n := by
  induction n with
  | zero => rfl
  | succ n ih => simp only [dsum, ih, Int.mul_sub]; omega
theorem dsum_mul (a : Nat → Int) (c : Int) (n : Nat) : dsum (fun i => a i * c) n = dsum a n * c := by
  induction n with
  | zero => simp [dsum]
  | succ n ih => simp only [dsum, ih, Int.add_mul, Int.mul_assoc]
theorem dsum_at (l : List Int) (n : Nat) : dsum (atG l) n = gval (l.take n) := by
  induction n with
  | zero => rfl
  | succ n ih => rw [dsum, ih, gval_at]
theorem dsum_all {l : List Int} {n : Nat} (h : l.length ≤ n) : dsum (atG l) n = gval l := by rw [dsum_at, List.take_of_length_le h]
theorem atG_in {l : List Int} (h : Gr l) (i : Nat) : 0 ≤ atG l i ∧ atG l i < 10 := by
  by_cases hi : i < l.length
  · rw [atG_lt hi]; exact h _ (List.getElem_mem hi)
  · rw [atG_ge (by omega)]; omega
/-! ### order -/
theorem len_order {a b : Nat} (h : (grp a).length < (grp b).length) : a < b := by
  rcases Nat.lt_or_ge a b with h1 | h1
  · exact h1
  · have h2 := grp_lt a
    have : b < 10 ^ (grp a).length := by omega
    have := grp_len this
    omega
theorem gval_order {l m : List Int} (hl : Gr l) (hm : Gr m) (hlen : l.length = m.length) (k : Nat) (hk : k < l.length) (hd : l.drop (k + 1) = m.drop (k + 1)) (hlt : atG l k < atG m k) : gval l < gval m := by
  have e : ∀ {x : List Int} (hx : k < x.length), x = x.take k ++ (atG x k :: x.drop (k + 1)) := fun {x} hx => by
    rw [atG_lt hx, ← List.drop_eq_getElem_cons hx, List.take_append_drop]
  rw [e hk, e (show k < m.length by omega), gval_append, gval_append, gval, gval, hd]
  have h1 := gval_lt (l := l.take k) (fun g hg => hl g (List.mem_of_mem_take hg))
  have h2 := gval_nonneg (l := m.take k) (fun g hg => hm g (List.mem_of_mem_take hg))
  have e1 : (l.take k).length = k := by simp; omega
  have e2 : (m.take k).length = k := by simp; omega
  rw [e1] at h1
  rw [e1, e2]
  have h3 : (10 : Int) ^ k * (atG l k + 10 * gval (m.drop (k + 1))) + 10 ^ k ≤ 10 ^ k * (atG m k + 10 * gval (m.drop (k + 1))) := by
    have : (10 : Int) ^ k * (atG l k + 10 * gval (m.drop (k + 1))) + 10 ^ k = 10 ^ k * (atG l k + 10 * gval (m.drop (k + 1)) + 1) := by rw [Int.mul_add (10 ^ k) (_ + _) 1, Int.mul_one]
    rw [this]
    exact Int.mul_le_mul_of_nonneg_left (by omega) (Int.le_of_lt (Int.pow_pos (by decide)))
  omega
theorem grp_shift {v : Nat} (h : v ≠ 0) : (0 : Int) :: grp v = grp (10 * v) := by
  rw [grp_pos (n := 10 * v) (by omega), show 10 * v % 10 = 0 by omega, show 10 * v / 10 = v by omega]
  rfl
theorem grp_eq_nil {v : Nat} : (grp v).length = 0 ↔ v = 0 := by rw [List.length_eq_zero_iff, grp_nil]
def from_ (l : List Int) (i : Nat) : Int := gval (l.drop i)
theorem from_step {l : List Int} {i : Nat} (h : i < l.length) : from_ l i = l[i] + 10 * from_ l (i + 1) := by
  unfold from_
  rw [List.drop_eq_getElem_cons h]
  rfl
theorem from_zero (l : List Int) : from_ l 0 = gval l := rfl
theorem from_end {l : List Int} {i : Nat} (h : l.length ≤ i) : from_ l i = 0 := by unfold from_; rw [List.drop_eq_nil_of_le h]; rfl
theorem from_nonneg {l : List Int} (h : Gr l) (i : Nat) : 0 ≤ from_ l i := gval_nonneg fun g hg => h g (List.mem_of_mem_drop hg)
/-! ### one step of the division -/
theorem div_step {g R M : Nat} (hM : 0 < M) (hg : g < 10) : (g + 10 * (R % M)) / M < 10 ∧ (g + 10 * R) / M = (g + 10 * (R % M)) / M + 10 * (R / M) ∧ (g + 10 * R) % M = (g + 10 * (R % M)) % M := by
  have h1 := Nat.mod_lt R hM
  have h2 := Nat.mod_add_div R M
  refine ⟨?_, ?_, ?_⟩
  · rw [Nat.div_lt_iff_lt_mul hM]
    have : 10 * (R % M) + 10 ≤ 10 * M := by omega
    omega
  · have e : g + 10 * R = (g + 10 * (R % M)) + M * (10 * (R / M)) := by
      conv => lhs; rw [← h2]
      rw [Nat.mul_add, ← Nat.mul_assoc, ← Nat.mul_assoc, Nat.mul_comm M 10]; omega
    rw [e, Nat.add_mul_div_left _ _ hM]
  · have e : g + 10 * R = (g + 10 * (R % M)) + M * (10 * (R / M)) := by
      conv => lhs; rw [← h2]
      rw [Nat.mul_add, ← Nat.mul_assoc, ← Nat.mul_assoc, Nat.mul_comm M 10]; omega
    rw [e, Nat.add_mul_mod_self_left]
theorem div_found {R M d : Nat} (hM : 0 < M) : M * (d + 1) ≤ R ↔ d < R / M := by
  rw [Nat.lt_iff_add_one_le, Nat.le_div_iff_mul_le hM, Nat.mul_comm]
theorem cmp_len {a b : Nat} (h : (grp a).length ≠ (grp b).length) : cmpI a b = if (grp a).length < (grp b).length then -1 else 1 := by
  by_cases h1 : (grp a).length < (grp b).length
  · rw [if_pos h1, cmpI_lt (len_order h1)]
  · rw [if_neg h1, cmpI_gt (len_order (by omega))]
theorem cmp_at {a b : Nat} (hlen : (grp a).length = (grp b).length) (k : Nat) (hk : k < (grp a).length) (hd : (grp a).drop (k + 1) = (grp b).drop (k + 1)) (hne : atG (grp a) k ≠ atG (grp b) k) : cmpI a b = if atG (grp a) k < atG (grp b) k then -1 else 1 := by
  have va := gval_grp a; have vb := gval_grp b
  by_cases h : atG (grp a) k < atG (grp b) k
  · have := gval_order (gr_grp a) (gr_grp b) hlen k hk hd h
    rw [if_pos h, cmpI_lt (by omega)]
  · have := gval_order (gr_grp b) (gr_grp a) hlen.symm k (by omega) hd.symm (by omega)
    rw [if_neg h, cmpI_gt (by omega)]
theorem cmp_same {a b : Nat} (h : grp a = grp b) : cmpI a b = 0 := by
  have va := gval_grp a; have vb := gval_grp b
  rw [h, vb] at va
  have : a = b := by omega
  subst this
  exact cmpI_eq a
theorem dsum_gap {d : Nat → Int} {n m : Nat} (h : ∀ i, n ≤ i → d i = 0) (hm : n ≤ m) : dsum d m = dsum d n := by
  induction m with
  | zero => have : n = 0 := by omega
            subst this; rfl
  | succ m ih =>
    by_cases hn : n = m + 1
    · subst hn; rfl
    · rw [dsum, h m (by omega), ih (by omega)]; simp
end Dx
namespace Go.Proofs.YtelljijajgiabaaGreatDoor
open Go.RowKit Go.Shelf
end Go.Proofs.YtelljijajgiabaaGreatDoor
namespace Go.Proofs.YtelljijajgiabaaGreatDoor
open Go.RowKit Go.Shelf
end Go.Proofs.YtelljijajgiabaaGreatDoor
namespace Go.Proofs.YtelljijajgiabaaGreatDoor
open Go.RowKit Go.Shelf
structure DgAt (W : World) (a : Nat) (v : Value) : Prop where
  out : ∃ (A : Option Addr) (cap : Nat), v = .slice A (Dx.grp a).length cap ∧ At 1 intC W W.heap.size A (Dx.grp a) ∧ (Dx.grp a).length ≤ cap ∧ cap ≤ maxLen
theorem DgAt.call {W W' : World} {a : Nat} {v : Value} (h : DgAt W a v) (hb : Below W.heap.size W W') : DgAt W' a v := by
  obtain ⟨A, cap, h1, h2, h3, h4⟩ := h.out
  exact ⟨A, cap, h1, (h2.below hb).more hb.size, h3, h4⟩
end Go.Proofs.YtelljijajgiabaaGreatDoor
namespace Dx
end Dx
namespace Go.Proofs.YtelljijajgiabaaGreatDoor
open Go.RowKit Go.Shelf
end Go.Proofs.YtelljijajgiabaaGreatDoor
namespace Go.Proofs.YtelljijajgiabaaGreatDoor
open Go.RowKit Go.Shelf
structure FrI (B : Nat) (v : Value) : Prop where
  out : ∀ b off n c, v = .slice (some ⟨b, off, none⟩) n c → B ≤ b
theorem DgAt.far {W : World} {a B : Nat} {v : Value} (h : DgAt W a v) (hF : FrI B v) {p : Addr} (hp : p.block < B) (u : Value) : DgAt (W.setCell p u) a v := by
  obtain ⟨A, cap, rfl, hA, h3, h4⟩ := h.out
  refine ⟨A, cap, rfl, fun h0 => ?_, h3, h4⟩
  obtain ⟨b, off, rfl, hb, hc⟩ := hA h0
  have hB := hF.out b off _ _ rfl
  exact ⟨b, off, rfl, Nat.lt_of_lt_of_le hb (KeepsOthers.setCell W _ u).size, fun i c hi j v hj => (cell_block (Below.heap_setCell W p u b (by omega))).trans (hc i c hi j v hj)⟩
end Go.Proofs.YtelljijajgiabaaGreatDoor
namespace Go.Proofs.YtelljijajgiabaaGreatDoor
open Go.RowKit Go.Shelf
end Go.Proofs.YtelljijajgiabaaGreatDoor
