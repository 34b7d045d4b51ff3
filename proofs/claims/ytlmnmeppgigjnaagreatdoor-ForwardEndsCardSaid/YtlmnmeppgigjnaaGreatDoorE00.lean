/- Slices of slices that are read. What Creates and Loops answer, as ForwardCreates asks it. -/
import Derived.Test.YtlmnmeppgigjnaaGreatDoorQ06
import Derived.Test.YtlmnmeppgigjnaaGreatDoorQ09
namespace Go.Proofs.YtlmnmeppgigjnaaGreatDoor
set_option linter.unusedVariables false
open Go.RowKit
theorem add_none (b o n : Nat) : (⟨b, o, none⟩ : Addr).add n = ⟨b, o + n, none⟩ := by
  unfold Addr.add
  split
  · next h => subst h; rfl
  · rfl
theorem At.sliceX {α : Type} {f : α → List Value} {w : World} {B cap : Nat} {A : Option Addr} {p : List α} (h : At 1 f w B A p) (i : Nat) (hc : p.length ≤ cap) : At 1 f w B (if cap = i then A else A.map (fun x => x.add i)) (p.drop i) := fun h0 => by
  have hlt : i < p.length := by rw [List.length_drop] at h0; omega
  obtain ⟨b, off, e, hb, hcell⟩ := h (by omega)
  subst e
  rw [if_neg (by omega)]
  have h2 := (show At 1 f w B (some ⟨b, off, none⟩) p from h).dropX i
  rw [Option.map_some, add_none]
  exact h2 h0
end Go.Proofs.YtlmnmeppgigjnaaGreatDoor
namespace Go.Proofs.YtlmnmeppgigjnaaGreatDoor
set_option linter.unusedVariables false
set_option linter.unusedSimpArgs false
theorem through_f {all : List Tw.St} {n k : Int} (hok : lsB all k) (h : ¬ ∃ r, Tw.Lp all k n r) : lsE all k = 0 ∧ (lsR all k).any (fun r => decide (n ∈ r)) = false := by
  obtain ⟨h1, h2⟩ := ls_t hok
  refine ⟨h2, ?_⟩
  rw [h1]
  cases hh : (Tw.loopsL all k).any (fun r => decide (n ∈ r)) with
  | false => rfl
  | true =>
    obtain ⟨r, hr, hn⟩ := List.any_eq_true.1 hh
    exact absurd ((Tw.loopsL_ok all k).through.1 ⟨r, hr, of_decide_eq_true hn⟩) h
theorem mem_tm (l : List Tw.St) (s : Tw.St) (T : Int) : T ∈ tmL l s ↔ T ∈ Tw.timesL l s := by
  unfold tmL; exact List.mem_mergeSort
theorem sort_tm (l : List Tw.St) (s : Tw.St) : (tmL l s).Pairwise (· ≤ ·) := by
  unfold tmL
  have h := List.pairwise_mergeSort (le := fun x y : Int => decide (x ≤ y)) (fun a b c h1 h2 => by simp only [decide_eq_true_eq] at *; omega) (fun a b => by simp only [Bool.or_eq_true, decide_eq_true_eq]; omega) (Tw.timesL l s)
  exact h.imp fun h => by simpa using h
theorem cr_law (l : List Tw.St) (s : Tw.St) (hs : Tw.Sm s) :
    (crR l s = none ∧ (valB (l ++ [s]) [] = false ∨ valB (l ++ [s]) [] = true ∧ s.k ≠ 1)) ∨
    (valB (l ++ [s]) [] = true ∧ s.k = 1 ∧ crR l s = none ∧ ∀ k, s.f ≤ k → k < s.e → lsE (l ++ [s]) k = 0 ∧ (lsR (l ++ [s]) k).any (fun r => decide (s.n ∈ r)) = false) ∨
    (valB (l ++ [s]) [] = true ∧ s.k = 1 ∧ ∃ T lp, crR l s = some (T, lp) ∧ s.f ≤ T ∧ T < s.e ∧ s.n ∈ lp ∧ lp ∈ lsR (l ++ [s]) T ∧ lsE (l ++ [s]) T = 0 ∧ ∀ k, s.f ≤ k → k < T → lsE (l ++ [s]) k = 0 ∧ (lsR (l ++ [s]) k).any (fun r => decide (s.n ∈ r)) = false) := by
  by_cases hv : valB (l ++ [s]) [] = true
  · have hva := (valB_iff.1 hv).1
    by_cases hk : s.k = 1
    · have hcr := cr_t (l := l) (s := s) ⟨hva, hk⟩
      have hmem : s ∈ l ++ [s] := by simp
      have hlb : ∀ k, s.f ≤ k → k < s.e → lsB (l ++ [s]) k := fun k h1 h2 => ⟨hva, by have := hs.f0; omega, by have := hs.e2; omega⟩
      cases hf : Tw.firstL (l ++ [s]) s.n (tmL (l ++ [s]) s) with
      | none =>
        rw [hf] at hcr
        refine .inr (.inl ⟨hv, hk, hcr, fun k h1 h2 => through_f (hlb k h1 h2) ?_⟩)
        exact Tw.first_none hva hmem hk (mem_tm _ _) hf (Tw.has_iff.2 ⟨h1, h2⟩)
      | some T =>
        rw [hf] at hcr
        obtain ⟨h1, ⟨r, hr⟩, h3⟩ := Tw.first_some hva hmem hk (mem_tm _ _) (sort_tm _ _) hf
        obtain ⟨h4, h5⟩ := Tw.has_iff.1 h1
        have hlo := Tw.loopOf_iff.2 hr
        have hro : rotL (l ++ [s]) T s.n = some (Tw.rot r) := by unfold rotL; rw [hlo]; rfl
        obtain ⟨r1, r2, r3⟩ := Tw.rot_ok hr
        obtain ⟨e1, e2⟩ := ls_t (hlb T h4 h5)
        refine .inr (.inr ⟨hv, hk, T, Tw.rot r, ?_, h4, h5, (r2 _).2 hr.ne, ?_, e2, fun k k1 k2 => through_f (hlb k k1 (by omega)) (h3 k k1 k2)⟩)
        · rw [hcr]; show some (T, (rotL (l ++ [s]) T s.n).getD []) = _; rw [hro]; rfl
        · rw [e1]; exact ((Tw.loopsL_ok _ _).is _).2 ⟨_, r1, r3⟩
    · exact .inl ⟨cr_f fun h => hk h.2, .inr ⟨hv, hk⟩⟩
  · have hv' : valB (l ++ [s]) [] = false := by simpa using hv
    refine .inl ⟨cr_f fun h => hv (valB_iff.2 ⟨h.1, by simp, Tw.vc_nil⟩), .inl hv'⟩
end Go.Proofs.YtlmnmeppgigjnaaGreatDoor
