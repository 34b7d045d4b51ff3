/- Add, Sub, Mul, Div of dialtoneref04. zeroOr, power, grid, Down, Up, pick of dialtoneref04; pick of dialtonelaw04. Add, Sub, Mul, Div of dialtoneref04: contracts. Compare of dialtoneref04. zero, one, least, Valid, Times, Scan of dialtoneref35. sum, times, powers and Power of dialtoneref35. Row of dialtoneref35: a row of Pascal's triangle, as texts. -/
import Derived.Test.YtelljijajgiabaaGreatDoorQ15
import Derived.Test.YtelljijajgiabaaGreatDoorQ14
import Derived.Test.YtelljijajgiabaaGreatDoorQ06
import Derived.Test.YtelljijajgiabaaGreatDoorQ10
import Derived.Test.YtelljijajgiabaaGreatDoorQ08
set_option linter.unusedVariables false
set_option linter.unusedSimpArgs false
set_option maxRecDepth 100000
set_option maxHeartbeats 8000000
namespace Go.Proofs.YtelljijajgiabaaGreatDoor
open Go.RowKit Go.Shelf
end Go.Proofs.YtelljijajgiabaaGreatDoor
namespace Go.Proofs.YtelljijajgiabaaGreatDoor
open Go.RowKit Go.Shelf
end Go.Proofs.YtelljijajgiabaaGreatDoor
namespace Go.Proofs.YtelljijajgiabaaGreatDoor
open Go.RowKit Go.Shelf
section
variable (a b : Rat) (w : World)
end
end Go.Proofs.YtelljijajgiabaaGreatDoor
namespace Go.Proofs.YtelljijajgiabaaGreatDoor
open Go.RowKit Go.Shelf
end Go.Proofs.YtelljijajgiabaaGreatDoor
namespace Tb
end Tb
namespace Go.Proofs.YtelljijajgiabaaGreatDoor
open Go.RowKit Go.Shelf
end Go.Proofs.YtelljijajgiabaaGreatDoor
namespace Go.Proofs.YtelljijajgiabaaGreatDoor
open Go.RowKit Go.Shelf
end Go.Proofs.YtelljijajgiabaaGreatDoor
namespace Go.Proofs.YtelljijajgiabaaGreatDoor
open Go.RowKit Go.Shelf
theorem row_cell {g k m : Nat} {cells : Array Value} {W : World} {l : List (List UInt8)} {s : List UInt8} (hB : Bx W g 9 cells) (hf : cells.toList.take (m * 1) = l.flatMap strC) (hk : l[k]? = some s) (hkm : k < m) : W.cell? ⟨g, k, none⟩ = some (.string ⟨s.toArray⟩) := by
  refine hB.cell k ?_
  have h2 : (cells.toList.take (m * 1))[k]? = some (.string ⟨s.toArray⟩) := by
    rw [hf]
    have := flat_get (f := strC) (size := 1) strC_len l k 0 _ hk (by decide)
    rw [Nat.mul_one, Nat.add_zero] at this
    rw [this]; rfl
  rw [List.getElem?_take, if_pos (by omega)] at h2
  simpa using h2
end Go.Proofs.YtelljijajgiabaaGreatDoor
