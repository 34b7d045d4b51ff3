/- Ratios of dialtoneref35: fractions that integers determine. Comparisons and made fractions, as the laws of dialtonelaw35 use them. -/
import Derived.Test.YtklelhkcbdajpaaGreatDoorX16
import Derived.Test.YtklelhkcbdajpaaGreatDoorY03
set_option linter.unusedVariables false
set_option linter.unusedSimpArgs false
set_option maxRecDepth 100000
set_option maxHeartbeats 8000000
namespace Tb
def rq (p : Int × Int) : Rat := Rat.divInt (Tp.pick p.1 (1 + Tp.pick p.2 60 + 1)) (1 + Tp.pick p.2 60)
def rqs (x : List (Int × Int)) (k : Nat) : List Rat := (x.take k).map rq
theorem rq_in (p : Int × Int) : 0 ≤ rq p ∧ rq p ≤ 1 ∧ Rq.Qz 2 2 (rq p) := by
  have h1 := Tp.pick_lt p.2 (show (0 : Int) < 60 by decide)
  have h2 := Tp.pick_lt p.1 (show 0 < 1 + Tp.pick p.2 60 + 1 by omega)
  have hd : 0 < 1 + Tp.pick p.2 60 := by omega
  refine ⟨?_, ?_, Rq.qz_divInt hd (by unfold Rq.Sz; omega) (by unfold Rq.Sz; omega)⟩
  · unfold rq; rw [Rat.divInt_nonneg_iff_of_pos_right hd]; exact h2.1
  · unfold rq
    rw [← Rat.divInt_self' (n := 1 + Tp.pick p.2 60) (by omega), rat_le hd]
    omega
theorem rqs_succ {x : List (Int × Int)} {k : Nat} (h : k < x.length) : rqs x (k + 1) = rqs x k ++ [rq x[k]] := by
  unfold rqs
  rw [List.take_add_one, List.getElem?_eq_getElem h, List.map_append]; rfl
theorem rqs_len {x : List (Int × Int)} {k : Nat} (h : k ≤ x.length) : (rqs x k).length = k := by
  unfold rqs; rw [List.length_map, List.length_take]; omega
def ratios (x : List (Int × Int)) : List Rat := rqs x 8
theorem ratios_len (x : List (Int × Int)) : (ratios x).length ≤ 8 := by unfold ratios rqs; rw [List.length_map, List.length_take]; omega
theorem rqs_all {x : List (Int × Int)} {k : Nat} (h : k = x.length ∧ k ≤ 8 ∨ k = 8 ∧ k ≤ x.length) : ratios x = rqs x k := by
  unfold ratios rqs
  rcases h with ⟨rfl, h⟩ | ⟨rfl, h⟩
  · rw [List.take_of_length_le (Nat.le_refl _), List.take_of_length_le h]
  · rfl
end Tb
namespace Go.Proofs.YtklelhkcbdajpaaGreatDoor
open Go.RowKit Go.Shelf
theorem ratI : ∃ i z, Tryz.prog.info? 33 = some i ∧ i.zero = some z ∧ i.size = 2 ∧ z.cells.size = 2 ∧ i.bytes = 32 := by
  have h : (Tryz.prog.info? 33).map (fun i => (i.size, i.bytes, i.zero.map (·.cells.size))) = some (2, 32, some 2) := by kernel_rfl
  cases hi : Tryz.prog.info? 33 with
  | none => rw [hi] at h; cases h
  | some i =>
    rw [hi] at h
    simp only [Option.map_some, Option.some.injEq, Prod.mk.injEq] at h
    obtain ⟨h1, h2, h3⟩ := h
    cases hz : i.zero with
    | none => rw [hz] at h3; cases h3
    | some z => rw [hz] at h3; exact ⟨i, z, rfl, hz, h1, by simpa using h3, h2⟩
def ratV (q : Rat) : List Value := ratC (txQ q)
theorem ratV_len (q : Rat) : (ratV q).length = 2 := rfl
theorem ratV_is {q : Rat} {a b : List UInt8} (h : LQ q a b) : ratV q = [.string ⟨a.toArray⟩, .string ⟨b.toArray⟩] := by
  unfold ratV ratC txQ; rw [h.out.1, h.out.2]
end Go.Proofs.YtklelhkcbdajpaaGreatDoor
namespace Go.Proofs.YtklelhkcbdajpaaGreatDoor
open Go.RowKit Go.Shelf
theorem SE.set {w0 w : World} (h : SE w0 w) (hE : Env w0) {p : Addr} (hp : w0.heap.size ≤ p.block) (u : Value) : SE w0 (w.setCell p u) := ⟨bSet h.bl hp u, hE.below (bSet h.bl hp u)⟩
theorem cmp_le {x y : Rat} {c : Int} (hc : Kp (Rq.cmpQ x y = c)) (h : x ≤ y) : decide (c > 0) = false := by
  rcases Rq.cmp_cases x y with ⟨e, _⟩ | ⟨e, _⟩ | ⟨e, h1⟩
  · rw [← hc.out, e]; rfl
  · rw [← hc.out, e]; rfl
  · exact absurd h (Rat.not_le.2 h1)
theorem cmp_gt' {x y : Rat} {c : Int} (hc : Kp (Rq.cmpQ x y = c)) (h : y < x) : decide (c > 0) = true := by
  rw [← hc.out, Rq.cmp_gt.2 h]; rfl
end Go.Proofs.YtklelhkcbdajpaaGreatDoor
