/- Plain mathematics of decimal digits, the lowest one first (after IMath, the base turned). -/
import Derived.Test.YtdjnkaeggnkgeaaGreatDoorITx
namespace Dx
/-- what groups say, the lowest one first -/
def gval : List Int → Int
  | [] => 0
  | g :: l => g + 10 * gval l
def Gr (l : List Int) : Prop := ∀ g ∈ l, 0 ≤ g ∧ g < 10
/-- the groups of a number -/
def grp (n : Nat) : List Int := if h : n = 0 then [] else ((n % 10 : Nat) : Int) :: grp (n / 10)
  termination_by n
  decreasing_by omega
theorem grp_zero : grp 0 = [] := by rw [grp, dif_pos rfl]
theorem grp_pos {n : Nat} (h : n ≠ 0) : grp n = ((n % 10 : Nat) : Int) :: grp (n / 10) := by rw [grp, dif_neg h]
theorem gval_grp (n : Nat) : gval (grp n) = n := by
  induction n using Nat.strongRecOn with
  | _ n ih =>
    by_cases h : n = 0
    · subst h; rw [grp_zero]; rfl
    · rw [grp_pos h, gval, ih (n / 10) (by omega)]; omega
theorem gr_grp (n : Nat) : Gr (grp n) := by
  induction n using Nat.strongRecOn with
  | _ n ih =>
    by_cases h : n = 0
    · subst h; rw [grp_zero]; intro g hg; cases hg
    · rw [grp_pos h]
      intro g hg
      rcases List.mem_cons.1 hg with rfl | hg
      · omega
      · exact ih (n / 10) (by omega) g hg
theorem grp_nil {n : Nat} : grp n = [] ↔ n = 0 := by
  constructor
  · intro h
    by_cases h0 : n = 0
    · exact h0
    · rw [grp_pos h0] at h; cases h
  · rintro rfl; exact grp_zero
theorem gval_nonneg {l : List Int} (h : Gr l) : 0 ≤ gval l := by
  induction l with
  | nil => exact Int.le_refl _
  | cons g l ih =>
    have h1 := h g (by simp)
    have h2 := ih (fun x hx => h x (by simp [hx]))
    unfold gval; omega
theorem gval_append (a b : List Int) : gval (a ++ b) = gval a + 10 ^ a.length * gval b := by
  induction a with
  | nil => simp [gval]
  | cons g a ih =>
    rw [List.cons_append, gval, ih, gval, List.length_cons, Int.pow_succ]
    rw [Int.mul_add, ← Int.mul_assoc, Int.mul_comm 10 (10 ^ a.length)]
    omega
theorem gval_lt {l : List Int} (h : Gr l) : gval l < 10 ^ l.length := by
  induction l with
  | nil => decide
  | cons g l ih =>
    have h1 := h g (by simp)
    have h2 := ih (fun x hx => h x (by simp [hx]))
    rw [gval, List.length_cons, Int.pow_succ]; omega
/-- without zeros at the end, they are the groups of what they say -/
theorem grp_of : ∀ {l : List Int}, Gr l → l.getLast? ≠ some 0 → l = grp (gval l).toNat
  | [], _, _ => by rw [gval]; exact grp_zero.symm
  | g :: l, h, ht => by
    have h1 := h g (by simp)
    have h2 : Gr l := fun x hx => h x (by simp [hx])
    have h3 := gval_nonneg h2
    have ht2 : l.getLast? ≠ some 0 := by
      cases l with
      | nil => simp
      | cons a l => simpa [List.getLast?_cons_cons] using ht
    have ih := grp_of h2 ht2
    have hne : (gval (g :: l)).toNat ≠ 0 := by
      rw [gval]
      intro h0
      have hl0 : gval l = 0 := by omega
      rw [hl0] at ih
      rw [show (0 : Int).toNat = 0 from rfl, grp_zero] at ih
      subst ih
      have hg : g = 0 := by omega
      subst hg
      simp at ht
    rw [grp_pos hne]
    have e1 : ((gval (g :: l)).toNat / 10) = (gval l).toNat := by rw [gval]; omega
    have e2 : (((gval (g :: l)).toNat % 10 : Nat) : Int) = g := by rw [gval]; omega
    rw [e1, e2, ← ih]
/-- without zeros at the end -/
def trimG (l : List Int) : List Int := (l.reverse.dropWhile (· == 0)).reverse
theorem trimG_snoc_zero (l : List Int) : trimG (l ++ [0]) = trimG l := by simp [trimG]
theorem trimG_snoc {l : List Int} {g : Int} (h : g ≠ 0) : trimG (l ++ [g]) = l ++ [g] := by simp [trimG, h]
theorem trimG_nil : trimG [] = [] := rfl
theorem snoc_cases (l : List Int) : l = [] ∨ ∃ m g, l = m ++ [g] := by
  rcases List.eq_nil_or_concat l with h | ⟨m, g, h⟩
  · exact .inl h
  · exact .inr ⟨m, g, by simpa using h⟩
theorem trimG_grp : ∀ (n : Nat) {l : List Int}, l.length = n → Gr l → trimG l = grp (gval l).toNat
  | 0, l, hn, _ => by
    obtain rfl : l = [] := List.length_eq_zero_iff.1 hn
    exact grp_zero.symm
  | n + 1, l, hn, h => by
    rcases snoc_cases l with rfl | ⟨m, g, rfl⟩
    · simp at hn
    · have hm : Gr m := fun x hx => h x (by simp [hx])
      by_cases hg : g = 0
      · subst hg
        rw [trimG_snoc_zero, trimG_grp n (by simpa using hn) hm, gval_append]
        simp [gval]
      · rw [trimG_snoc hg]
        exact grp_of h (by simp [hg])
theorem trimG_of {l : List Int} (h : Gr l) : trimG l = grp (gval l).toNat := trimG_grp _ rfl h
theorem grp_getLast (n : Nat) : (grp n).getLast? ≠ some 0 := by
  induction n using Nat.strongRecOn with
  | _ n ih =>
    by_cases h : n = 0
    · subst h; rw [grp_zero]; simp
    · rw [grp_pos h]
      cases hl : grp (n / 10) with
      | nil =>
        have h0 := grp_nil.1 hl
        simp; omega
      | cons a l =>
        rw [List.getLast?_cons_cons, ← hl]
        exact ih (n / 10) (by omega)
theorem grp_len {n k : Nat} (h : n < 10 ^ k) : (grp n).length ≤ k := by
  induction k generalizing n with
  | zero =>
    have : n = 0 := by simpa using h
    subst this; rw [grp_zero]; simp
  | succ k ih =>
    by_cases h0 : n = 0
    · subst h0; rw [grp_zero]; simp
    · rw [grp_pos h0, List.length_cons]
      have : n / 10 < 10 ^ k := by
        rw [Nat.pow_succ] at h
        exact Nat.div_lt_of_lt_mul (by rw [Nat.mul_comm]; exact h)
      have := ih this
      omega
theorem grp_lt (n : Nat) : n < 10 ^ (grp n).length := by
  have h1 := gval_lt (gr_grp n)
  rw [gval_grp] at h1
  have h2 : ((10 ^ (grp n).length : Nat) : Int) = (10 : Int) ^ (grp n).length := by simp
  omega
theorem trim_same (l : List Int) : trimG l = Ig.trimG l := rfl
theorem grp_small {n : Nat} (h0 : n ≠ 0) (h : n < 10) : grp n = [(n : Int)] := by rw [grp_pos h0, show n / 10 = 0 by omega, grp_zero, Nat.mod_eq_of_lt h]
/-- the text of a number out of its digits -/
theorem dec_grp {n : Nat} (h : n ≠ 0) : Go.Lib.decDigits n = (grp n).reverse.map fun d => Ig.dg d.toNat := by
  induction n using Nat.strongRecOn with
  | _ n ih =>
    by_cases h1 : n < 10
    · rw [Ig.dec_small h1, grp_small h h1]; simp
    · rw [Ig.dec_big h1, ih (n / 10) (by omega) (by omega), grp_pos h, List.reverse_cons, List.map_append]
      rw [List.map_singleton, Int.toNat_natCast]
theorem grp_nd {n : Nat} (h : n ≠ 0) : (grp n).length = Go.Lib.nDigits n := by
  rw [← Ig.dec_len, dec_grp h]; simp
theorem grp_nil_len {n : Nat} : (grp n).length = 0 ↔ n = 0 := by rw [List.length_eq_zero_iff, grp_nil]
/-- the integer that a string determines -/
def madeN (s : List UInt8) (m : Nat) : Nat := (gval ((s.take m).map fun c => ((c.toNat % 10 : Nat) : Int))).toNat
def madeB (s : List UInt8) : Bool := match s with | [] => false | c :: _ => decide (128 ≤ c.toNat)
theorem made_gr (s : List UInt8) (m : Nat) : Gr ((s.take m).map fun c => ((c.toNat % 10 : Nat) : Int)) := fun g hg => by
  obtain ⟨c, _, rfl⟩ := List.mem_map.1 hg
  omega
theorem made_trim (s : List UInt8) (m : Nat) : Ig.trimG ((s.take m).map fun c => ((c.toNat % 10 : Nat) : Int)) = grp (madeN s m) := by
  rw [← trim_same, trimG_of (made_gr s m)]; rfl
theorem madeN_lt (s : List UInt8) (m : Nat) : madeN s m < 10 ^ m := by
  have h1 := gval_lt (made_gr s m)
  have h2 := gval_nonneg (made_gr s m)
  have h3 : ((s.take m).map fun c => ((c.toNat % 10 : Nat) : Int)).length ≤ m := by simp; omega
  have h4 : (10 : Int) ^ ((s.take m).map fun c => ((c.toNat % 10 : Nat) : Int)).length ≤ 10 ^ m := by
    have := Nat.pow_le_pow_right (show 0 < 10 by decide) h3
    have e : ∀ k : Nat, (10 : Int) ^ k = ((10 ^ k : Nat) : Int) := fun k => by simp
    rw [e, e]; omega
  have e : (10 : Int) ^ m = ((10 ^ m : Nat) : Int) := by simp
  unfold madeN
  omega
end Dx
