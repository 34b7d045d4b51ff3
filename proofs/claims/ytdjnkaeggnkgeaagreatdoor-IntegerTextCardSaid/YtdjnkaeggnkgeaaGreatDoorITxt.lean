/- Plain mathematics of decimal texts, of no program: canonical digits, groups of four of them, valid strings. -/
import Derived.Test.YtdjnkaeggnkgeaaGreatDoorIMath
import Derived.Lib.ItoaNum
import Derived.Lib.AtoiAll
namespace Ig
def dg (k : Nat) : UInt8 := UInt8.ofNat (48 + k)
theorem dec_small {n : Nat} (h : n < 10) : Go.Lib.decDigits n = [dg n] := by rw [Go.Lib.decDigits, dif_pos h]; rfl
theorem dec_big {n : Nat} (h : ¬ n < 10) : Go.Lib.decDigits n = Go.Lib.decDigits (n / 10) ++ [dg (n % 10)] := by rw [Go.Lib.decDigits, dif_neg h]; rfl
/-- four digits -/
def four (g : Nat) : List UInt8 := [dg (g / 1000), dg (g / 100 % 10), dg (g / 10 % 10), dg (g % 10)]
theorem pad_four {g : Nat} (h : g < 10000) : List.replicate (4 - Go.Lib.nDigits g) 48 ++ Go.Lib.decDigits g = four g := by
  have z : dg 0 = 48 := rfl
  by_cases h1 : g < 10
  · rw [Go.Lib.nDigits_small h1, dec_small h1, four, show g / 1000 = 0 by omega, show g / 100 % 10 = 0 by omega, show g / 10 % 10 = 0 by omega, show g % 10 = g by omega, z]
    rfl
  · by_cases h2 : g < 100
    · rw [Go.Lib.nDigits_big h1, Go.Lib.nDigits_small (by omega), dec_big h1, dec_small (by omega), four, show g / 1000 = 0 by omega, show g / 100 % 10 = 0 by omega, show g / 10 % 10 = g / 10 by omega, z]
      rfl
    · by_cases h3 : g < 1000
      · rw [Go.Lib.nDigits_big h1, Go.Lib.nDigits_big (by omega), Go.Lib.nDigits_small (by omega), dec_big h1, dec_big (by omega), dec_small (by omega), four, show g / 1000 = 0 by omega, show g / 100 % 10 = g / 10 / 10 by omega, z]
        rfl
      · rw [Go.Lib.nDigits_big h1, Go.Lib.nDigits_big (by omega), Go.Lib.nDigits_big (by omega), Go.Lib.nDigits_small (by omega), dec_big h1, dec_big (by omega), dec_big (by omega), dec_small (by omega), four, show g / 1000 = g / 10 / 10 / 10 by omega, show g / 100 % 10 = g / 10 / 10 % 10 by omega]
        rfl
theorem dec_groups {n : Nat} (h : 10000 ≤ n) : Go.Lib.decDigits n = Go.Lib.decDigits (n / 10000) ++ four (n % 10000) := by
  rw [dec_big (by omega), dec_big (show ¬ n / 10 < 10 by omega), dec_big (show ¬ n / 10 / 10 < 10 by omega), dec_big (show ¬ n / 10 / 10 / 10 < 10 by omega), four]
  rw [show n / 10 / 10 / 10 / 10 = n / 10000 by omega, show n / 10 / 10 / 10 % 10 = n % 10000 / 1000 by omega, show n / 10 / 10 % 10 = n % 10000 / 100 % 10 by omega, show n / 10 % 10 = n % 10000 / 10 % 10 by omega, show n % 10 = n % 10000 % 10 by omega]
  simp
theorem dec_len (n : Nat) : (Go.Lib.decDigits n).length = Go.Lib.nDigits n := by
  induction n using Nat.strongRecOn with
  | _ n ih =>
    by_cases h : n < 10
    · rw [dec_small h, Go.Lib.nDigits_small h]; rfl
    · rw [dec_big h, Go.Lib.nDigits_big h, List.length_append, ih (n / 10) (by omega)]; rfl
theorem nd_pos (n : Nat) : 1 ≤ Go.Lib.nDigits n := by
  by_cases h : n < 10
  · rw [Go.Lib.nDigits_small h]; omega
  · rw [Go.Lib.nDigits_big h]; omega
theorem nd_le {n k : Nat} (hk : 1 ≤ k) : Go.Lib.nDigits n ≤ k ↔ n < 10 ^ k := by
  induction k generalizing n with
  | zero => omega
  | succ k ih =>
    by_cases h : n < 10
    · rw [Go.Lib.nDigits_small h]
      have : 10 ^ 1 ≤ 10 ^ (k + 1) := Nat.pow_le_pow_right (by decide) (by omega)
      constructor
      · intro _; omega
      · intro _; omega
    · rw [Go.Lib.nDigits_big h]
      by_cases hk0 : k = 0
      · subst hk0
        have := nd_pos (n / 10)
        simp; omega
      · have := ih (n := n / 10) (by omega)
        rw [Nat.pow_succ]
        omega
def isD (c : UInt8) : Bool := decide (48 ≤ c.toNat) && decide (c.toNat ≤ 57)
theorem dg_nat {k : Nat} (h : k < 10) : (dg k).toNat = 48 + k := by
  have : ∀ k : Fin 10, (dg k.val).toNat = 48 + k.val := by decide
  exact this ⟨k, h⟩
theorem isD_dg {k : Nat} (h : k < 10) : isD (dg k) = true := by simp [isD, dg_nat h]; omega
theorem dec_digits (n : Nat) : (Go.Lib.decDigits n).all isD = true := by
  induction n using Nat.strongRecOn with
  | _ n ih =>
    by_cases h : n < 10
    · rw [dec_small h]; simp [isD_dg h]
    · rw [dec_big h, List.all_append, ih (n / 10) (by omega)]; simp [isD_dg (show n % 10 < 10 by omega)]
theorem dec_ne (n : Nat) : Go.Lib.decDigits n ≠ [] := by
  intro h
  have := dec_len n
  rw [h] at this
  have := nd_pos n
  simp at *; omega
theorem dec_head {n : Nat} (h : n ≠ 0) : (Go.Lib.decDigits n).head? ≠ some 48 := by
  induction n using Nat.strongRecOn with
  | _ n ih =>
    by_cases h1 : n < 10
    · rw [dec_small h1]
      intro he
      simp at he
      have := dg_nat h1
      rw [he] at this
      have : (48 : UInt8).toNat = 48 := rfl
      omega
    · rw [dec_big h1]
      cases hd : Go.Lib.decDigits (n / 10) with
      | nil => exact absurd hd (dec_ne _)
      | cons a l =>
        have := ih (n / 10) (by omega) (by omega)
        rw [hd] at this
        simpa using this
/-- the number that digits say -/
def nv (s : List UInt8) : Nat := s.foldl (fun n c => 10 * n + (c.toNat - 48)) 0
theorem nv_snoc (s : List UInt8) (c : UInt8) : nv (s ++ [c]) = 10 * nv s + (c.toNat - 48) := by simp [nv, List.foldl_append]
theorem nv_dec (n : Nat) : nv (Go.Lib.decDigits n) = n := by
  induction n using Nat.strongRecOn with
  | _ n ih =>
    by_cases h : n < 10
    · rw [dec_small h]; simp [nv, dg_nat h]
    · rw [dec_big h, nv_snoc, ih (n / 10) (by omega), dg_nat (show n % 10 < 10 by omega)]; omega
theorem dec_inj {a b : Nat} (h : Go.Lib.decDigits a = Go.Lib.decDigits b) : a = b := by rw [← nv_dec a, h, nv_dec]
/-- digits without a zero in front are the canonical ones -/
theorem dec_of : ∀ (k : Nat) {s : List UInt8}, s.length = k → s ≠ [] → s.all isD = true → (s = [48] ∨ s.head? ≠ some 48) → Go.Lib.decDigits (nv s) = s
  | 0, s, hk, hne, _, _ => absurd (List.length_eq_zero_iff.1 hk) hne
  | k + 1, s, hk, hne, hd, hz => by
    rcases List.eq_nil_or_concat s with h | ⟨m, c, h⟩
    · exact absurd h hne
    · obtain rfl : s = m ++ [c] := by simpa using h
      rw [List.all_append, Bool.and_eq_true] at hd
      have hc : 48 ≤ c.toNat ∧ c.toNat ≤ 57 := by simpa [isD] using hd.2
      have hcd : dg (c.toNat - 48) = c := by
        apply UInt8.toNat_inj.1
        rw [dg_nat (by omega)]; omega
      by_cases hm : m = []
      · subst hm
        rw [nv_snoc]
        simp only [nv, List.foldl_nil, Nat.mul_zero, Nat.zero_add, List.nil_append]
        rw [dec_small (by omega), hcd]
      · have hz2 : m.head? ≠ some 48 := by
          rcases hz with h | h
          · have : (m ++ [c]).length = 1 := by rw [h]; rfl
            simp at this
            exact absurd this hm
          · cases m with
            | nil => exact absurd rfl hm
            | cons a l => simpa using h
        have ih := dec_of k (s := m) (by simpa using hk) hm hd.1 (.inr hz2)
        have hpos : nv m ≠ 0 := by
          intro h0
          rw [h0, dec_small (by decide)] at ih
          rw [← ih] at hz2
          exact hz2 rfl
        rw [nv_snoc, dec_big (by omega), show (10 * nv m + (c.toNat - 48)) / 10 = nv m by omega, ih, show (10 * nv m + (c.toNat - 48)) % 10 = c.toNat - 48 by omega, hcd]
/-! ### strings that are integers -/
/-- without the sign -/
def unsg (s : List UInt8) : List UInt8 := if [45].isPrefixOf s then s.drop 1 else s
def validS (s : List UInt8) : Bool := !(unsg s).isEmpty && decide ((unsg s).length ≤ 200) && (unsg s).all isD && (s == [48] || !((unsg s).head? == some 48))
def fits (z : Int) : Prop := z.natAbs < 10 ^ 200
theorem itoa_nonneg {z : Int} (h : 0 ≤ z) : Go.Lib.itoa z = Go.Lib.decDigits z.natAbs := by
  unfold Go.Lib.itoa
  rw [if_neg (by omega), show z.toNat = z.natAbs by omega]
theorem itoa_neg {z : Int} (h : z < 0) : Go.Lib.itoa z = 45 :: Go.Lib.decDigits z.natAbs := by
  unfold Go.Lib.itoa
  rw [if_pos h]
theorem dec_nosign (n : Nat) : [45].isPrefixOf (Go.Lib.decDigits n) = false := by
  cases hd : Go.Lib.decDigits n with
  | nil => rfl
  | cons a l =>
    have h := dec_digits n
    rw [hd, List.all_cons, Bool.and_eq_true] at h
    have ha : 48 ≤ a.toNat := by
      have := h.1
      simp [isD] at this
      omega
    have hne : ¬ (45 : UInt8) = a := by
      rintro rfl
      have : (45 : UInt8).toNat = 45 := rfl
      omega
    simp [List.isPrefixOf, hne]
theorem unsg_itoa (z : Int) : unsg (Go.Lib.itoa z) = Go.Lib.decDigits z.natAbs := by
  unfold unsg
  by_cases h : 0 ≤ z
  · rw [itoa_nonneg h, dec_nosign]; rfl
  · rw [itoa_neg (by omega)]; rfl
theorem valid_itoa {z : Int} (h : fits z) : validS (Go.Lib.itoa z) = true := by
  unfold validS
  rw [unsg_itoa, dec_digits]
  have h1 : (Go.Lib.decDigits z.natAbs).length ≤ 200 := by rw [dec_len, nd_le (by decide)]; exact h
  have h2 := dec_ne z.natAbs
  have h3 : (Go.Lib.itoa z == [48] || !((Go.Lib.decDigits z.natAbs).head? == some 48)) = true := by
    by_cases hz : z = 0
    · subst hz
      rw [itoa_nonneg (by decide), show (0 : Int).natAbs = 0 from rfl, dec_small (by decide)]; rfl
    · have := dec_head (n := z.natAbs) (by omega)
      rw [Bool.or_eq_true]; right
      simpa using this
  rw [h3]
  simp [h2, h1]
theorem valid_is {s : List UInt8} (h : validS s = true) : ∃ z, s = Go.Lib.itoa z ∧ fits z := by
  simp only [validS, Bool.and_eq_true, Bool.or_eq_true, decide_eq_true_eq, Bool.not_eq_true', beq_iff_eq] at h
  obtain ⟨⟨⟨h1, h2⟩, h3⟩, h4⟩ := h
  have hne : unsg s ≠ [] := by
    intro he; rw [he] at h1; cases h1
  by_cases hs : [45].isPrefixOf s = true
  · have hu : unsg s = s.drop 1 := by unfold unsg; rw [if_pos hs]
    have hcons : s = 45 :: unsg s := by
      rw [hu]
      cases s with
      | nil => cases hs
      | cons a l =>
        simp [List.isPrefixOf] at hs
        rw [← hs]; rfl
    have hhd : (unsg s).head? ≠ some 48 := by
      rcases h4 with h4 | h4
      · rw [h4] at hcons; cases hcons
      · simpa using h4
    have hd := dec_of _ rfl hne h3 (.inr hhd)
    have hpos : nv (unsg s) ≠ 0 := by
      intro h0
      rw [h0, dec_small (by decide)] at hd
      rw [← hd] at hhd
      exact hhd rfl
    refine ⟨-(nv (unsg s) : Int), ?_, ?_⟩
    · rw [itoa_neg (by omega), Int.natAbs_neg, Int.natAbs_natCast, hd]; exact hcons
    · unfold fits
      rw [Int.natAbs_neg, Int.natAbs_natCast, ← nd_le (by decide), ← dec_len, hd]; exact h2
  · have hu : unsg s = s := by unfold unsg; rw [if_neg hs]
    rw [hu] at h2 h3 hne h4
    have hd := dec_of _ rfl hne h3 (by
      rcases h4 with h4 | h4
      · exact .inl h4
      · exact .inr (by simpa using h4))
    refine ⟨(nv s : Int), ?_, ?_⟩
    · rw [itoa_nonneg (by omega), Int.natAbs_natCast, hd]
    · unfold fits
      rw [Int.natAbs_natCast, ← nd_le (by decide), ← dec_len, hd]; exact h2
theorem itoa_inj {a b : Int} (h : Go.Lib.itoa a = Go.Lib.itoa b) : a = b := by
  have h1 : a.natAbs = b.natAbs := dec_inj (by rw [← unsg_itoa, h, unsg_itoa])
  by_cases ha : 0 ≤ a <;> by_cases hb : 0 ≤ b
  · omega
  · rw [itoa_nonneg ha, itoa_neg (by omega)] at h
    have := dec_nosign a.natAbs
    rw [h] at this; simp [List.isPrefixOf] at this
  · rw [itoa_neg (by omega), itoa_nonneg hb] at h
    have := dec_nosign b.natAbs
    rw [← h] at this; simp [List.isPrefixOf] at this
  · omega
end Ig
