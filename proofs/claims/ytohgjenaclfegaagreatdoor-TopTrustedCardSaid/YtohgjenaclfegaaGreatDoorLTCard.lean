import Derived.Test.YtohgjenaclfegaaGreatDoorLTCardA
import Derived.Test.YtohgjenaclfegaaGreatDoorLTCardB
import Derived.Test.YtohgjenaclfegaaGreatDoorLTCardC
set_option linter.unusedVariables false
set_option linter.unusedSimpArgs false
set_option maxRecDepth 100000
set_option maxHeartbeats 8000000
namespace Go.Proofs.YtohgjenaclfegaaGreatDoor
set_option linter.constructorNameAsVariable false
open Go.ChangeShapes Go.WideShapes Go.ChangeAt Go.RowKit
theorem topTrusted_holds:Rows.TopTrustedCardSaid:=ni (nR fun os started H enc=>oG os started H enc)
#print axioms topTrusted_holds
end Go.Proofs.YtohgjenaclfegaaGreatDoor
