/- Plain mathematics of tariffs: the borders of a day. -/
import Derived.Test.YtfebcokmnhdbmaaGreatDoorQ02
namespace Tp
set_option linter.unusedVariables false
def idxB (out : List Int) (b : Int) : Nat := out.findIdx fun x => decide (b ≤ x)
def insB (out : List Int) (b : Int) : List Int := if out[idxB out b]? = some b then out else out.take (idxB out b) ++ [b] ++ out.drop (idxB out b)
theorem insB_mem (out : List Int) (b x : Int) : x ∈ insB out b ↔ x ∈ out ∨ x = b := by
  unfold insB
  split
  · next h =>
    constructor
    · exact .inl
    · rintro (h1 | rfl)
      · exact h1
      · exact List.mem_of_getElem? h
  · have h := List.take_append_drop (idxB out b) out
    constructor
    · intro hx
      rw [List.mem_append, List.mem_append, List.mem_singleton] at hx
      rcases hx with (hx | hx) | hx
      · exact .inl (List.mem_of_mem_take hx)
      · exact .inr hx
      · exact .inl (List.mem_of_mem_drop hx)
    · rintro (hx | rfl)
      · rw [← h, List.mem_append] at hx
        rw [List.mem_append, List.mem_append]
        rcases hx with hx | hx
        · exact .inl (.inl hx)
        · exact .inr hx
      · simp
theorem insB_len (out : List Int) (b : Int) : (insB out b).length ≤ out.length + 1 := by
  unfold insB
  split
  · omega
  · simp only [List.length_append, List.length_take, List.length_drop, List.length_singleton]
    omega
theorem idxB_lt {out : List Int} {b m : Int} (hm : m ∈ out) (hb : b ≤ m) : idxB out b < out.length := by
  unfold idxB
  exact List.findIdx_lt_length_of_exists ⟨m, hm, by simpa using hb⟩
theorem idxB_before {out : List Int} {b : Int} {k : Nat} (h : k < idxB out b) (hk : k < out.length) : out[k] < b := by
  unfold idxB at h
  have := List.not_of_lt_findIdx h
  simpa using this
theorem idxB_at {out : List Int} {b : Int} (h : idxB out b < out.length) : b ≤ out[idxB out b] := by
  exact of_decide_eq_true (List.findIdx_getElem (p := fun x => decide (b ≤ x)) (w := h))
/-- the borders, after some rates -/
def bdsTo (L : List Rate) (k : Nat) : List Int := (L.take k).foldl (fun o r => insB (insB o r.lo) r.hi) [0, 86400]
theorem bdsTo_succ {L : List Rate} {k : Nat} (h : k < L.length) : bdsTo L (k + 1) = insB (insB (bdsTo L k) L[k].lo) L[k].hi := by
  unfold bdsTo
  rw [List.take_add_one, List.getElem?_eq_getElem h, List.foldl_append]
  rfl
def bds (L : List Rate) : List Int := bdsTo L L.length
theorem bdsTo_top (L : List Rate) : ∀ k, k ≤ L.length → (86400 : Int) ∈ bdsTo L k ∧ (bdsTo L k).length ≤ 2 + 2 * k
  | 0, _ => by simp [bdsTo]
  | k + 1, h => by
    obtain ⟨h1, h2⟩ := bdsTo_top L k (by omega)
    rw [bdsTo_succ (by omega)]
    have h3 := insB_len (bdsTo L k) L[k].lo
    have h4 := insB_len (insB (bdsTo L k) L[k].lo) L[k].hi
    exact ⟨(insB_mem _ _ _).2 (.inl ((insB_mem _ _ _).2 (.inl h1))), by omega⟩
theorem bdsTo_mem (L : List Rate) (x : Int) : ∀ k, k ≤ L.length → (x ∈ bdsTo L k ↔ x = 0 ∨ x = 86400 ∨ ∃ r ∈ L.take k, x = r.lo ∨ x = r.hi)
  | 0, _ => by simp [bdsTo]
  | k + 1, h => by
    have ih := bdsTo_mem L x k (by omega)
    rw [bdsTo_succ (by omega), insB_mem, insB_mem, ih, List.take_add_one, List.getElem?_eq_getElem (show k < L.length by omega)]
    simp only [Option.toList_some, List.mem_append, List.mem_singleton]
    constructor
    · rintro (((h | h | ⟨r, h1, h2⟩) | h) | h)
      · exact .inl h
      · exact .inr (.inl h)
      · exact .inr (.inr ⟨r, .inl h1, h2⟩)
      · exact .inr (.inr ⟨_, .inr rfl, .inl h⟩)
      · exact .inr (.inr ⟨_, .inr rfl, .inr h⟩)
    · rintro (h | h | ⟨r, h1 | rfl, h2 | h2⟩)
      · exact .inl (.inl (.inl h))
      · exact .inl (.inl (.inr (.inl h)))
      · exact .inl (.inl (.inr (.inr ⟨r, h1, .inl h2⟩)))
      · exact .inl (.inl (.inr (.inr ⟨r, h1, .inr h2⟩)))
      · exact .inl (.inr h2)
      · exact .inr h2
theorem bds_mem (L : List Rate) (x : Int) : x ∈ bds L ↔ x = 0 ∨ x = 86400 ∨ ∃ r ∈ L, x = r.lo ∨ x = r.hi := by
  have := bdsTo_mem L x L.length (Nat.le_refl _)
  rwa [List.take_length] at this
end Tp
