/- A slice that a drawn region makes, known whole. -/
import Derived.Test.YtfebcokmnhdbmaaGreatDoorQ05
namespace Go.Proofs.YtfebcokmnhdbmaaGreatDoor
set_option linter.unusedVariables false
open Go.RowKit
/-- a slice of all of a block of one's own -/
def SlcR (B : Nat) (t : TypeId) (cs : Array Value) (n : Nat) : Value → World → Prop := fun v w => ∃ g, v = .slice (some ⟨g, 0, none⟩) n n ∧ B ≤ g ∧ Bx w g t cs
theorem stab_slc (B : Nat) (t : TypeId) (cs : Array Value) (n : Nat) : Stab (SlcR B t cs n) := fun v w w' ⟨g, e, hg, hb⟩ h => ⟨g, e, hg, hb.call h⟩
theorem slc_new {B : Nat} {w : World} (h : B ≤ w.heap.size) (t : TypeId) (cs : Array Value) (n : Nat) : Below w.heap.size w (w.alloc (.cells cs t)) ∧ SlcR B t cs n (.slice (some ⟨w.heap.size, 0, none⟩) n n) (w.alloc (.cells cs t)) :=
  ⟨bNew (Below.refl w.heap.size w) _, w.heap.size, rfl, h, Bx.mk w t cs⟩
end Go.Proofs.YtfebcokmnhdbmaaGreatDoor
