/- The digits of a long division, written in any order of the indices. -/
import Derived.Test.YtdjnkaeggnkgeaaGreatDoorIOne
namespace Go.Proofs.YtdjnkaeggnkgeaaGreatDoor
set_option linter.unusedVariables false
/-- the digits after the indices pre, each written when its turn came -/
def dq (l : List Int) (b : Nat) (pre : List (Fin l.length)) : Nat → Nat :=
  (pre.foldl (fun (st : Nat × (Nat → Nat)) t => (st.1 * 10000 + l[t.1].toNat, fun k => if k = t.1 then (st.1 * 10000 + l[t.1].toNat) / b % 10000 else st.2 k)) (0, fun _ => 0)).2
theorem dq_fst (l : List Int) (b : Nat) (pre : List (Fin l.length)) : (pre.foldl (fun (st : Nat × (Nat → Nat)) t => (st.1 * 10000 + l[t.1].toNat, fun k => if k = t.1 then (st.1 * 10000 + l[t.1].toNat) / b % 10000 else st.2 k)) (0, fun _ => 0)).1 = hor l pre := by
  have : ∀ (n : Nat) (pre : List (Fin l.length)), pre.length = n → (pre.foldl (fun (st : Nat × (Nat → Nat)) t => (st.1 * 10000 + l[t.1].toNat, fun k => if k = t.1 then (st.1 * 10000 + l[t.1].toNat) / b % 10000 else st.2 k)) (0, fun _ => 0)).1 = hor l pre := by
    intro n
    induction n with
    | zero => intro pre h; rw [List.length_eq_zero_iff.1 h]; rfl
    | succ n ih =>
      intro pre h
      rcases List.eq_nil_or_concat pre with h0 | ⟨m, t, h0⟩
      · rw [h0]; rfl
      · obtain rfl : pre = m ++ [t] := by simpa using h0
        rw [hor_snoc, ← ih m (by simpa using h), List.foldl_append]
        rfl
  exact this _ _ rfl
theorem dq_nil (l : List Int) (b k : Nat) : dq l b [] k = 0 := rfl
theorem dq_snoc (l : List Int) (b : Nat) (pre : List (Fin l.length)) (t : Fin l.length) (k : Nat) : dq l b (pre ++ [t]) k = if k = t.1 then hor l (pre ++ [t]) / b % 10000 else dq l b pre k := by
  rw [hor_snoc, ← dq_fst l b pre]
  unfold dq
  rw [List.foldl_append]
  rfl
theorem dq_take {l : List Int} (hl : Ig.Gr l) (b : Nat) : ∀ k, k ≤ l.length → ∀ t, l.length - k ≤ t → t < l.length → dq l b ((allDown l.length).take k) t = (Ig.from_ l t).toNat / b % 10000
  | 0, _, t, h1, h2 => by omega
  | k + 1, hk, t, h1, h2 => by
    have hs := down_succ (n := l.length) (t := l.length - (k + 1)) (by omega)
    rw [show l.length - (l.length - (k + 1)) = k + 1 by omega, show l.length - (l.length - (k + 1) + 1) = k by omega] at hs
    rw [hs, dq_snoc, ← hs]
    by_cases h : t = l.length - (k + 1)
    · rw [if_pos (by simpa using h), h, ← hor_take l hl (k + 1) hk, Int.toNat_natCast]
    · rw [if_neg (by simpa using h)]
      exact dq_take hl b k (by omega) t (by omega) h2
/-- the digits of the quotient -/
theorem dq_gval {l : List Int} (hl : Ig.Gr l) {b : Nat} (hb : 0 < b) : ∀ k, k ≤ l.length → Ig.gval (((List.range l.length).map fun t => ((dq l b (allDown l.length) t : Nat) : Int)).drop (l.length - k)) = (((Ig.from_ l (l.length - k)).toNat / b : Nat) : Int)
  | 0, _ => by
    rw [Nat.sub_zero, Ig.from_end (Nat.le_refl _), List.drop_eq_nil_of_le (by simp)]
    simp [Ig.gval]
  | k + 1, hk => by
    have ih := dq_gval hl hb k (by omega)
    have ht : l.length - (k + 1) < l.length := by omega
    have hd := dq_take hl b l.length (Nat.le_refl _) (l.length - (k + 1)) (by omega) ht
    rw [List.take_of_length_le (by rw [allDown_len]; omega)] at hd
    rw [List.drop_eq_getElem_cons (by simp; omega), show l.length - (k + 1) + 1 = l.length - k by omega]
    simp only [List.getElem_map, List.getElem_range]
    rw [hd]
    show _ + 10000 * Ig.gval _ = _
    rw [ih]
    have h1 := Ig.from_step ht
    rw [show l.length - (k + 1) + 1 = l.length - k by omega] at h1
    have h2 := Ig.from_nonneg hl (l.length - k)
    have h3 := hl l[l.length - (k + 1)] (List.getElem_mem ht)
    generalize Ig.from_ l (l.length - k) = F at *
    generalize Ig.from_ l (l.length - (k + 1)) = G at *
    generalize l[l.length - (k + 1)] = g at *
    obtain ⟨F, rfl⟩ := Int.eq_ofNat_of_zero_le h2
    obtain ⟨g, rfl⟩ := Int.eq_ofNat_of_zero_le h3.1
    obtain rfl : G = ((g + 10000 * F : Nat) : Int) := by omega
    rw [Int.toNat_natCast]
    have h4 : (g + 10000 * F) / b / 10000 = F / b := by
      rw [Nat.div_div_eq_div_mul, Nat.mul_comm b 10000, ← Nat.div_div_eq_div_mul]
      congr 1
      omega
    have h5 : (Int.toNat (Int.ofNat F)) = F := rfl
    have h6 := Nat.mod_add_div ((g + 10000 * F) / b) 10000
    rw [h4] at h6
    first | (rw [h5]; omega) | (simp only [Int.toNat_natCast]; omega)
end Go.Proofs.YtdjnkaeggnkgeaaGreatDoor
