import Derived.Test.YtohgjenaclfegaaGreatDoorChecked
import Derived.Test.YtohgjenaclfegaaGreatDoorCards
import Derived.Test.YtohgjenaclfegaaGreatDoorTie
import Derived.LaidMore
import Derived.Lay
import Derived.SevenTiedAt
import Derived.Stop.Joined
import Derived.Stop.LaidErr
set_option linter.unusedVariables false
set_option linter.unusedSimpArgs false
set_option maxRecDepth 100000
set_option maxHeartbeats 8000000
namespace Go.Proofs.YtohgjenaclfegaaGreatDoor
theorem jT1:(Rows.topTrustedRow.inPlace==Tryz.prog.inPlace 3)=true:=by kernel_rfl
theorem jT2:(Rows.topTrustedRow.unfollowed==Tryz.prog.unfollowed 3)=true:=by kernel_rfl
theorem jT3:(Rows.topTrustedRow.recurses==Tryz.prog.recurses 3)=true:=by kernel_rfl
theorem jT4:(Rows.topTrustedRow.named==Tryz.prog.varsNamed 3)=true:=by kernel_rfl
end Go.Proofs.YtohgjenaclfegaaGreatDoor
