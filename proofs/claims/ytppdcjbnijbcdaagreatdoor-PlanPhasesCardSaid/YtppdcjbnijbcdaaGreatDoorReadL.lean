/- What Read leans on, of no program. -/
import Derived.Test.YtppdcjbnijbcdaaGreatDoorEnts
namespace Pl
structure EntOk (key : S) (x : Ent) : Prop where
  dig : digits x.stands = true
  s1 : 1 ≤ x.stands.length
  s8 : x.stands.length ≤ 8
  k : (key.length : Int) ≤ x.length
  k1 : 1 ≤ key.length
  l8 : x.length ≤ 8
  c0 : 0 ≤ x.code
  c20 : x.code ≤ 20
theorem lookup_mem {α : Type} : ∀ (es : List (S × α)) (s : S) (x : α), es.lookup s = some x → (s, x) ∈ es
  | [], _, _, h => by cases h
  | (k, y) :: es, s, x, h => by
    rw [List.lookup_cons] at h
    by_cases hk : (s == k) = true
    · rw [hk] at h
      have : s = k := by simpa using hk
      subst this
      simp at h; subst h; simp
    · rw [Bool.not_eq_true] at hk
      rw [hk] at h
      exact List.mem_cons_of_mem _ (lookup_mem es s x h)
theorem ents_ok {p : List Cd} (hv : valid p = true) {ph : Int} {s : S} {x : Ent} (h : (ents p ph).lookup s = some x) : EntOk s x := by
  have hm := lookup_mem _ _ _ h
  unfold ents at hm
  obtain ⟨⟨b, i⟩, h1, h2⟩ := List.mem_flatMap.1 hm
  have hb : b ∈ p := (List.mem_zipIdx' h1).2 ▸ List.getElem_mem _
  have hi : i < p.length := (List.mem_zipIdx' h1).1
  have hl := valid_len hv
  obtain ⟨d1, d2, o1, o4, n1, n5, l1, l7, fit, _⟩ := valid_fine hv hb
  have hz : ∀ n, digits (zeros n) = true := by
    intro n
    unfold digits zeros
    rw [List.all_eq_true]
    intro c hc
    rw [(List.mem_replicate.1 hc).2]
    decide
  simp only [List.mem_append] at h2
  rcases h2 with h2 | h2
  · split at h2
    · simp only [List.mem_singleton, Prod.mk.injEq] at h2
      obtain ⟨rfl, rfl⟩ := h2
      simp only [room] at fit
      refine ⟨?_, ?_, ?_, by simp only; omega, by omega, by simp only; omega, by simp only; omega, by simp only; omega⟩
      · simp only [digits, List.all_append, Bool.and_eq_true]
        exact ⟨d2, hz _⟩
      · simp only [List.length_append]; omega
      · simp only [List.length_append, zeros, List.length_replicate, room]; omega
    · simp at h2
  · split at h2
    · simp only [List.mem_singleton, Prod.mk.injEq] at h2
      obtain ⟨rfl, rfl⟩ := h2
      refine ⟨d2, by simp only; omega, by simp only; omega, by simp only; omega, by omega, by simp only; omega, by simp only; omega, by simp only; omega⟩
    · simp at h2
theorem begun_hit {es : List (S × Ent)} {s : S} {k : Nat} {x : Ent} (hk : k ≤ s.length) (hb : ∀ j, j < k → es.lookup (s.take j) = none) (hx : es.lookup (s.take k) = some x) : begun es s = some (k, x) := by
  unfold begun
  rw [List.findSome?_eq_some_iff]
  refine ⟨List.range k, k, List.range' (k + 1) (s.length - k), ?_, by rw [hx]; rfl, fun j hj => by rw [hb j (List.mem_range.1 hj)]; rfl⟩
  rw [List.range_eq_range', List.range_eq_range', show s.length + 1 = k + (s.length - k + 1) by omega, ← List.range'_append, List.range'_succ]
  simp
theorem begun_none {es : List (S × Ent)} {s : S} (hb : ∀ j, j ≤ s.length → es.lookup (s.take j) = none) : begun es s = none := by
  unfold begun
  rw [List.findSome?_eq_none_iff]
  intro j hj
  rw [hb j (by have := List.mem_range.1 hj; omega)]; rfl
end Pl
