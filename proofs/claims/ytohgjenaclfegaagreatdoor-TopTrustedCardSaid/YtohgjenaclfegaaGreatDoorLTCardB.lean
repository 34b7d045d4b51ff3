import Derived.Test.YtohgjenaclfegaaGreatDoorLTCardE
import Derived.LaidMore
import Derived.Lay
import Derived.SevenTiedAt
import Derived.Stop.Joined
import Derived.Stop.LaidErr
set_option linter.unusedVariables false
set_option linter.unusedSimpArgs false
set_option maxRecDepth 100000
set_option maxHeartbeats 8000000
namespace Go.Proofs.YtohgjenaclfegaaGreatDoor
set_option linter.constructorNameAsVariable false
open Go.ChangeShapes Go.WideShapes Go.RowKit
theorem jfT:joinedFacts Tryz.prog 3 Tryz.f3 Rows.topTrustedSpec Rows.topTrustedRow=true:=by
 unfold joinedFacts
 rw[jT1,jT2,jT3,jT4]
 kernel_rfl
theorem nR (h:∀(os:Os) (started:os.Started) (H:Type) (enc:TypeId × Value->H),
 ReturnsInHanded {} Tryz.checked os 3 .any (fun w args=>(Rows.topTrustedSpec.pre enc Tryz.prog Tryz.f3 Rows.topTrustedRow.domain false w args/\laidMetH Tryz.prog Rows.topTrustedRow.laid w)/\sizedMet enc Tryz.prog Tryz.f3 (OpenSpec.ofChange Rows.topTrustedSpec) false w args)
  (Rows.topTrustedSpec.post enc Tryz.prog Tryz.f3 false true false false)):Rows.TopTrustedSaid :=
 OpenClaim.holds_of_wide 3 Tryz.f3 rfl rfl rfl rfl rfl rfl rfl ⟨rfl,rfl,rfl,rfl,rfl⟩ rfl rfl rfl rfl rfl (by kernel_rfl) Tryz.func3 jfT
  (of_decide_eq_true (by kernel_rfl)) (by unfold Func.isWrapper;first|(rw [if_pos (by decide +kernel)];kernel_rfl)|(rw [if_neg (by decide +kernel)];exact⟨rfl,rfl⟩))
  (fun os started H enc _=>h os started H enc)
end Go.Proofs.YtohgjenaclfegaaGreatDoor
