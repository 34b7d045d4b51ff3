/- TariffMatchesReference of package dialtonelaw37: the row's statement, from what its walk shows. -/
import Derived.Test.YtfebcokmnhdbmaaGreatDoorChecked
import Derived.Test.YtfebcokmnhdbmaaGreatDoorCards
import Derived.Test.YtfebcokmnhdbmaaGreatDoorTie
import Derived.LaidMore
import Derived.Lay
import Derived.SevenTiedAt
import Derived.Stop.Joined
import Derived.Stop.LaidErr
namespace Go.Proofs.YtfebcokmnhdbmaaGreatDoor
set_option linter.unusedVariables false
set_option linter.constructorNameAsVariable false
set_option maxRecDepth 100000
open Go.ChangeShapes Go.WideShapes Go.RowKit
theorem tariffMatchesReference_said_of (h : ∀ (os : Os) (started : os.Started) (H : Type) (enc : TypeId × Value → H),
    ReturnsInHanded {} Tryz.checked os 3 .any (fun w args => (Rows.tariffMatchesReferenceSpec.pre enc Tryz.prog Tryz.f3 Rows.tariffMatchesReferenceRow.domain false w args ∧ laidMetH Tryz.prog Rows.tariffMatchesReferenceRow.laid w) ∧ sizedMet enc Tryz.prog Tryz.f3 (OpenSpec.ofChange Rows.tariffMatchesReferenceSpec) false w args)
      (Rows.tariffMatchesReferenceSpec.post enc Tryz.prog Tryz.f3 false true false false)) : Rows.TariffMatchesReferenceSaid :=
  OpenClaim.holds_of_wide 3 Tryz.f3 rfl rfl rfl rfl rfl rfl rfl ⟨rfl, rfl, rfl, rfl, rfl⟩ rfl rfl rfl rfl rfl (by kernel_rfl) Tryz.func3 (by kernel_rfl)
    (of_decide_eq_true (by kernel_rfl)) (by unfold Func.isWrapper; first | (rw [if_pos (by decide +kernel)]; kernel_rfl) | (rw [if_neg (by decide +kernel)]; exact ⟨rfl, rfl⟩))
    (fun os started H enc _ => h os started H enc)
end Go.Proofs.YtfebcokmnhdbmaaGreatDoor
