/- TariffPrices of package dialtonelaw37 returns true for every input, and leaves what it was given: the card. -/
import Derived.Test.YtfebcokmnhdbmaaGreatDoorTLPricesCardB
namespace Go.Proofs.YtfebcokmnhdbmaaGreatDoor
set_option linter.unusedVariables false
set_option linter.constructorNameAsVariable false
set_option maxRecDepth 100000
open Go.ChangeShapes Go.WideShapes Go.ChangeAt Go.RowKit
theorem tariffPrices_holds : Rows.TariffPricesCardSaid :=
  Claim7.holds_tied_plain_at .later [] [.data, .data, .data, .data, .sentinel, .sentinel, .pinned] true Rows.tariffPricesCard.stood.harness true tariffPrices_said (fun _ h => by cases h) (by kernel_rfl) (fun _ h => by cases h) tariffPrices_row_tie rfl ⟨rfl, rfl⟩ (by kernel_rfl) rfl
    (fun f fn hf hfn => by
      obtain rfl : f = 10 := Option.some.inj ((show Tryz.prog.funcNamed "dialtone/dialtonelaw37.TariffPrices" = some 10 by kernel_rfl).symm.trans hf) |>.symm
      obtain rfl : fn = Tryz.f10 := (Option.some.inj (Tryz.func10.symm.trans hfn)).symm
      exact ⟨by kernel_rfl, fun j t ht => by
        rw [Tryz.params10] at ht
        have hm : t ∈ [3, 22, 3, 3, 3, 3, 36] := by simpa using Array.mem_of_getElem? ht
        have hall : ([3, 22, 3, 3, 3, 3, 36].all fun u => !Tryz.prog.wantsStandIn u) = true := by kernel_rfl
        exact (show Tryz.prog.wantsStandIn t = false by simpa using List.all_eq_true.1 hall t hm)⟩)
    (by kernel_rfl)
#print axioms tariffPrices_holds
end Go.Proofs.YtfebcokmnhdbmaaGreatDoor
