import Derived.Test.YtohgjenaclfegaaGreatDoorD9CardE
import Derived.LaidMore
import Derived.Lay
import Derived.SevenTiedAt
import Derived.Stop.Joined
import Derived.Stop.LaidErr
set_option linter.unusedVariables false
set_option linter.unusedSimpArgs false
set_option maxRecDepth 100000
set_option maxHeartbeats 8000000
namespace Go.Proofs.YtohgjenaclfegaaGreatDoor
set_option linter.constructorNameAsVariable false
open Go.ChangeShapes Go.WideShapes Go.RowKit
theorem jf:joinedFacts Tryz.prog 4 Tryz.f4 Rows.fraudCallsSpec Rows.fraudCallsRow=true:=by
 unfold joinedFacts
 rw[j1,j2,j3,j4]
 kernel_rfl
theorem qM (h:∀(os:Os) (started:os.Started) (H:Type) (enc:TypeId × Value->H),
 ReturnsInHanded {} Tryz.checked os 4 .any (fun w args=>(Rows.fraudCallsSpec.pre enc Tryz.prog Tryz.f4 Rows.fraudCallsRow.domain false w args/\laidMetH Tryz.prog Rows.fraudCallsRow.laid w)/\sizedMet enc Tryz.prog Tryz.f4 (OpenSpec.ofChange Rows.fraudCallsSpec) false w args)
  (Rows.fraudCallsSpec.post enc Tryz.prog Tryz.f4 false true false false)):Rows.FraudCallsSaid :=
 OpenClaim.holds_of_wide 4 Tryz.f4 rfl rfl rfl rfl rfl rfl rfl ⟨rfl,rfl,rfl,rfl,rfl⟩ rfl rfl rfl rfl rfl (by kernel_rfl) Tryz.func4 jf
  (of_decide_eq_true (by kernel_rfl)) (by unfold Func.isWrapper;first|(rw [if_pos (by decide +kernel)];kernel_rfl)|(rw [if_neg (by decide +kernel)];exact⟨rfl,rfl⟩))
  (fun os started H enc _=>h os started H enc)
end Go.Proofs.YtohgjenaclfegaaGreatDoor
