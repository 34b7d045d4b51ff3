/- between two rounds of over. -/
import Derived.Test.YtdjnkaeggnkgeaaGreatDoorIDq
import Derived.Laws.MakeOwn
namespace Go.Proofs.YtdjnkaeggnkgeaaGreatDoor
set_option linter.unusedVariables false
open Go.RowKit Go.Shelf
/-- the digits' cells -/
def qCells (l : List Int) (b : Nat) (pre : List (Fin l.length)) : Array Value := ((List.range l.length).map fun t => Value.int .i64 ((dq l b pre t : Nat) : Int)).toArray
theorem qCells_set (l : List Int) (b : Nat) (pre : List (Fin l.length)) (x : Fin l.length) : (qCells l b pre).setIfInBounds x.1 (.int .i64 ((hor l (pre ++ [x]) / b % 10000 : Nat) : Int)) = qCells l b (pre ++ [x]) := by
  have h : ((List.range l.length).map fun t => Value.int .i64 ((dq l b pre t : Nat) : Int)).set x.1 (.int .i64 ((hor l (pre ++ [x]) / b % 10000 : Nat) : Int)) = (List.range l.length).map fun t => Value.int .i64 ((dq l b (pre ++ [x]) t : Nat) : Int) := by
    apply List.ext_getElem (by simp)
    intro i h1 h2
    rw [List.getElem_set, List.getElem_map, List.getElem_map, List.getElem_range, dq_snoc]
    by_cases h : x.1 = i
    · rw [if_pos h, if_pos h.symm]
    · rw [if_neg h, if_neg (fun e => h e.symm)]
  unfold qCells
  rw [List.setIfInBounds_toArray, h]
theorem qCells_nil (l : List Int) (b : Nat) : madeCells #[.int .i64 0] l.length = qCells l b [] := by
  apply Array.ext (by simp [madeCells, qCells])
  intro i h1 h2
  simp [madeCells, qCells, dq_nil, Nat.mod_one]
structure OverI (w : World) (a b : Nat) (v2 : Value) (pre : List (Fin (Ig.grp a).length)) (W : World) : Prop where
  hb : Below w.heap.size w W
  le : w.heap.size + 5 ≤ W.heap.size
  B3 : Bx W w.heap.size 48 #[v2]
  Bq : Bx W (w.heap.size + 1) 48 #[.slice (some ⟨w.heap.size + 1 + 1 + 1, 0, none⟩) (Ig.grp a).length (Ig.grp a).length]
  Br : ∃ v, Bx W (w.heap.size + 1 + 1) 48 #[v] ∧ NumAt W (hor (Ig.grp a) pre % b) v
  Bc : Bx W (w.heap.size + 1 + 1 + 1) 3 (qCells (Ig.grp a) b pre)
theorem OverI.kept {w W W' : World} {a b : Nat} {v2 : Value} {pre : List (Fin (Ig.grp a).length)} {row : Option Nat} (h : OverI w a b v2 pre W) (hg : W.grownBy W' row) (hr : ∀ r, row = some r → w.heap.size ≤ r ∧ ∃ o : Obj, W.heap[r]? = some o ∧ o.isCells = false) : OverI w a b v2 pre W' := by
  obtain ⟨v, h1, h2⟩ := h.Br
  exact ⟨h.hb.grown hg h.hb.size (fun k e => (hr k e).1), Nat.le_trans h.le hg.size, bx_kept h.B3 hg (fun r e => (hr r e).2), bx_kept h.Bq hg (fun r e => (hr r e).2), ⟨v, bx_kept h1 hg (fun r e => (hr r e).2), num_kept h2 hg (fun r e => (hr r e).2)⟩, bx_kept h.Bc hg (fun r e => (hr r e).2)⟩
end Go.Proofs.YtdjnkaeggnkgeaaGreatDoor
