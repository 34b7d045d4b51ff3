/- Plain mathematics of tariffs: what the law of splits asks. -/
import Derived.Test.YtfebcokmnhdbmaaGreatDoorTBordP
import Derived.Test.YtfebcokmnhdbmaaGreatDoorQ04
namespace Tp
set_option linter.unusedVariables false
/-- the first k parts have been looked at -/
structure SpR (f : Int → Int) (a b : Int) (l : List Pc) (k : Nat) (last total : Int) : Prop where
  kb : k ≤ l.length
  c1 : Chain f a (l.take k) last
  c2 : Chain f last (l.drop k) b
  s : sumF f a last = total
theorem SpR.start {f : Int → Int} {a b : Int} {l : List Pc} (h : Chain f a l b) : SpR f a b l 0 a 0 := ⟨Nat.zero_le _, rfl, h, sumF_self f a⟩
theorem SpR.done {f : Int → Int} {a b last total : Int} {l : List Pc} (h : SpR f a b l l.length last total) : last = b ∧ sumF f a b = total := by
  have h2 := h.c2
  rw [List.drop_length] at h2
  have e : last = b := h2
  exact ⟨e, e ▸ h.s⟩
theorem drop_at {l : List Pc} {k : Nat} (h : k < l.length) : l.drop k = l[k] :: l.drop (k + 1) := List.drop_eq_getElem_cons h
theorem SpR.at_ {f : Int → Int} {a b last total : Int} {l : List Pc} {k : Nat} (h : SpR f a b l k last total) (hk : k < l.length) :
    l[k].lo = last ∧ last < l[k].hi ∧ (∀ t, last ≤ t → t < l[k].hi → f t = l[k].price) ∧ a ≤ last ∧ l[k].hi ≤ b ∧ SpR f a b l (k + 1) l[k].hi (total + l[k].price * (l[k].hi - last)) := by
  have h2 := h.c2
  rw [drop_at hk] at h2
  obtain ⟨e1, e2, e3, e4⟩ := h2
  refine ⟨e1, e2, e3, h.c1.le, e4.le, by omega, ?_, e4, ?_⟩
  · rw [List.take_add_one, List.getElem?_eq_getElem hk]
    exact h.c1.snoc e1 e2 e3 rfl
  · rw [sumF_add f h.c1.le (Int.le_of_lt e2), h.s, sumF_const (Int.le_of_lt e2) e3]
/-- the part before ends where this one begins, at another price -/
theorem SpR.before {f : Int → Int} {a b last total : Int} {l : List Pc} {m : Nat} (h : SpR f a b l (m + 1) last total) (hk : m < l.length) : l[m].hi = last ∧ l[m].lo < last ∧ f (last - 1) = l[m].price := by
  have h1 := h.c1
  rw [List.take_add_one, List.getElem?_eq_getElem hk] at h1
  obtain ⟨c, -, d1, d2, d3, d4⟩ := h1.app
  have d4 : l[m].hi = last := d4
  exact ⟨d4, by omega, d3 _ (by omega) (by omega)⟩
theorem alt_at : ∀ {L : List Int} {m : Nat} (h : Alt L) (h1 : m + 1 < L.length), L[m] ≠ L[m + 1]
  | x :: y :: L, 0, h, _ => h.1
  | x :: y :: L, m + 1, h, h1 => by
    have := alt_at (L := y :: L) (m := m) h.2 (by simpa using h1)
    simpa using this
theorem alt_pc {l : List Pc} (h : Alt (l.map (·.price))) {m : Nat} (h1 : m + 1 < l.length) : l[m].price ≠ l[m + 1].price := by
  have := alt_at h (m := m) (by simpa using h1)
  simpa using this
/-- prices change at a border -/
theorem SpR.border {base : Int} {L : List Rate} (hok : ∀ r ∈ L, Ok r) {off a b last total : Int} {l : List Pc} {m : Nat} (h : SpR (price base L off) a b l (m + 1) last total) (hk : m + 1 < l.length) (ha : Alt (l.map (·.price))) : (last + off + 604800) % 86400 ∈ bds L := by
  obtain ⟨-, -, e3⟩ := h.before (show m < l.length by omega)
  obtain ⟨-, f2, f3, -⟩ := h.at_ hk
  have hne := alt_pc ha hk
  rw [← e3, ← f3 last (Int.le_refl _) f2] at hne
  rw [bds_mem]
  rcases change_at hok hne with h1 | ⟨r, hr, h1⟩
  · exact .inl h1
  · exact .inr (.inr ⟨r, hr, h1⟩)
/-- whether a number is among the first ones -/
def among (l : List Int) (s : Int) (m : Nat) : Bool := (l.take m).any fun x => x == s
theorem among_zero (l : List Int) (s : Int) : among l s 0 = false := by simp [among]
theorem among_succ {l : List Int} {s : Int} {m : Nat} (h : m < l.length) : among l s (m + 1) = (among l s m || l[m] == s) := by
  unfold among
  rw [List.take_add_one, List.getElem?_eq_getElem h, List.any_append]
  simp
theorem among_all {l : List Int} {s : Int} (h : s ∈ l) : among l s l.length = true := by
  unfold among
  rw [List.take_length, List.any_eq_true]
  exact ⟨s, h, by simp⟩
end Tp
