/- TariffCheapestMatchesReference of package dialtonelaw37: the card, from the row's statement. -/
import Derived.Test.YtfebcokmnhdbmaaGreatDoorChecked
import Derived.Test.YtfebcokmnhdbmaaGreatDoorCards
import Derived.Test.YtfebcokmnhdbmaaGreatDoorTie
import Derived.LaidMore
import Derived.Lay
import Derived.SevenTiedAt
import Derived.Stop.Joined
import Derived.Stop.LaidErr
namespace Go.Proofs.YtfebcokmnhdbmaaGreatDoor
set_option linter.unusedVariables false
set_option linter.constructorNameAsVariable false
set_option maxRecDepth 100000
open Go.ChangeShapes Go.WideShapes Go.RowKit
theorem tariffCheapestMatchesReference_holds_of (h : Rows.TariffCheapestMatchesReferenceSaid) : Rows.TariffCheapestMatchesReferenceCardSaid :=
  Claim7.holds_tied_plain_at .later [] [.data, .data, .data, .data, .sentinel, .sentinel, .pinned] true Rows.tariffCheapestMatchesReferenceCard.stood.harness true h (fun _ h => by cases h) (by kernel_rfl) (fun _ h => by cases h) tariffCheapestMatchesReference_row_tie rfl ⟨rfl, rfl⟩ (by kernel_rfl) rfl
    (fun f fn hf hfn => by
      obtain rfl : f = 4 := Option.some.inj ((show Tryz.prog.funcNamed "dialtone/dialtonelaw37.TariffCheapestMatchesReference" = some 4 by kernel_rfl).symm.trans hf) |>.symm
      obtain rfl : fn = Tryz.f4 := (Option.some.inj (Tryz.func4.symm.trans hfn)).symm
      exact ⟨by kernel_rfl, fun j t ht => by
        rw [Tryz.params4] at ht
        have hm : t ∈ [3, 22, 23, 3, 28, 3] := by simpa using Array.mem_of_getElem? ht
        have hall : ([3, 22, 23, 3, 28, 3].all fun u => !Tryz.prog.wantsStandIn u) = true := by kernel_rfl
        exact (show Tryz.prog.wantsStandIn t = false by simpa using List.all_eq_true.1 hall t hm)⟩)
    (by kernel_rfl)
end Go.Proofs.YtfebcokmnhdbmaaGreatDoor
