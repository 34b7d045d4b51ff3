/- TariffMatchesReference of package dialtonelaw37: the card, from the row's statement. -/
import Derived.Test.YtfebcokmnhdbmaaGreatDoorChecked
import Derived.Test.YtfebcokmnhdbmaaGreatDoorCards
import Derived.Test.YtfebcokmnhdbmaaGreatDoorTie
import Derived.LaidMore
import Derived.Lay
import Derived.SevenTiedAt
import Derived.Stop.Joined
import Derived.Stop.LaidErr
namespace Go.Proofs.YtfebcokmnhdbmaaGreatDoor
set_option linter.unusedVariables false
set_option linter.constructorNameAsVariable false
set_option maxRecDepth 100000
open Go.ChangeShapes Go.WideShapes Go.RowKit
theorem tariffMatchesReference_holds_of (h : Rows.TariffMatchesReferenceSaid) : Rows.TariffMatchesReferenceCardSaid :=
  Claim7.holds_tied_plain_at .later [] [.data, .data, .data, .data, .sentinel, .sentinel, .pinned] true Rows.tariffMatchesReferenceCard.stood.harness true h (fun _ h => by cases h) (by kernel_rfl) (fun _ h => by cases h) tariffMatchesReference_row_tie rfl ⟨rfl, rfl⟩ (by kernel_rfl) rfl
    (fun f fn hf hfn => by
      obtain rfl : f = 3 := Option.some.inj ((show Tryz.prog.funcNamed "dialtone/dialtonelaw37.TariffMatchesReference" = some 3 by kernel_rfl).symm.trans hf) |>.symm
      obtain rfl : fn = Tryz.f3 := (Option.some.inj (Tryz.func3.symm.trans hfn)).symm
      exact ⟨by kernel_rfl, fun j t ht => by
        rw [Tryz.params3] at ht
        have hm : t ∈ [3, 22, 23, 26, 3, 3, 28] := by simpa using Array.mem_of_getElem? ht
        have hall : ([3, 22, 23, 26, 3, 3, 28].all fun u => !Tryz.prog.wantsStandIn u) = true := by kernel_rfl
        exact (show Tryz.prog.wantsStandIn t = false by simpa using List.all_eq_true.1 hall t hm)⟩)
    (by kernel_rfl)
end Go.Proofs.YtfebcokmnhdbmaaGreatDoor
