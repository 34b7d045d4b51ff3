/- TariffPrices of package dialtonelaw37 returns true for every input: the row's statement. -/
import Derived.Test.YtfebcokmnhdbmaaGreatDoorTLPricesCardA
namespace Go.Proofs.YtfebcokmnhdbmaaGreatDoor
set_option linter.unusedVariables false
set_option linter.constructorNameAsVariable false
set_option maxRecDepth 100000
open Go.ChangeShapes Go.WideShapes Go.ChangeAt Go.RowKit
theorem tariffPrices_said : Rows.TariffPricesSaid :=
  OpenClaim.holds_of_wide 10 Tryz.f10 rfl rfl rfl rfl rfl rfl rfl ⟨rfl, rfl, rfl, rfl, rfl⟩ rfl rfl rfl rfl rfl (by kernel_rfl) Tryz.func10 (by kernel_rfl)
    (of_decide_eq_true (by kernel_rfl)) (by unfold Func.isWrapper; first | (rw [if_pos (by decide +kernel)]; kernel_rfl) | (rw [if_neg (by decide +kernel)]; exact ⟨rfl, rfl⟩))
    (fun os started H enc _ => tariffPrices_lifted os started H enc)
end Go.Proofs.YtfebcokmnhdbmaaGreatDoor
