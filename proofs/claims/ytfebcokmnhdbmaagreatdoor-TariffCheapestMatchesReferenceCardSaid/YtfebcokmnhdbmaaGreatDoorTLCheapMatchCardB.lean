/- TariffCheapestMatchesReference of package dialtonelaw37: the row's statement, from what its walk shows. -/
import Derived.Test.YtfebcokmnhdbmaaGreatDoorChecked
import Derived.Test.YtfebcokmnhdbmaaGreatDoorCards
import Derived.Test.YtfebcokmnhdbmaaGreatDoorTie
import Derived.LaidMore
import Derived.Lay
import Derived.SevenTiedAt
import Derived.Stop.Joined
import Derived.Stop.LaidErr
namespace Go.Proofs.YtfebcokmnhdbmaaGreatDoor
set_option linter.unusedVariables false
set_option linter.constructorNameAsVariable false
set_option maxRecDepth 100000
open Go.ChangeShapes Go.WideShapes Go.RowKit
theorem tariffCheapestMatchesReference_said_of (h : ∀ (os : Os) (started : os.Started) (H : Type) (enc : TypeId × Value → H),
    ReturnsInHanded {} Tryz.checked os 4 .any (fun w args => (Rows.tariffCheapestMatchesReferenceSpec.pre enc Tryz.prog Tryz.f4 Rows.tariffCheapestMatchesReferenceRow.domain false w args ∧ laidMetH Tryz.prog Rows.tariffCheapestMatchesReferenceRow.laid w) ∧ sizedMet enc Tryz.prog Tryz.f4 (OpenSpec.ofChange Rows.tariffCheapestMatchesReferenceSpec) false w args)
      (Rows.tariffCheapestMatchesReferenceSpec.post enc Tryz.prog Tryz.f4 false true false false)) : Rows.TariffCheapestMatchesReferenceSaid :=
  OpenClaim.holds_of_wide 4 Tryz.f4 rfl rfl rfl rfl rfl rfl rfl ⟨rfl, rfl, rfl, rfl, rfl⟩ rfl rfl rfl rfl rfl (by kernel_rfl) Tryz.func4 (by kernel_rfl)
    (of_decide_eq_true (by kernel_rfl)) (by unfold Func.isWrapper; first | (rw [if_pos (by decide +kernel)]; kernel_rfl) | (rw [if_neg (by decide +kernel)]; exact ⟨rfl, rfl⟩))
    (fun os started H enc _ => h os started H enc)
end Go.Proofs.YtfebcokmnhdbmaaGreatDoor
