import Derived.Test.YtohgjenaclfegaaGreatDoorD9CardA
import Derived.Test.YtohgjenaclfegaaGreatDoorD9CardB
import Derived.Test.YtohgjenaclfegaaGreatDoorD9CardC
set_option linter.unusedVariables false
set_option linter.unusedSimpArgs false
set_option maxRecDepth 100000
set_option maxHeartbeats 8000000
namespace Go.Proofs.YtohgjenaclfegaaGreatDoor
set_option linter.constructorNameAsVariable false
open Go.ChangeShapes Go.WideShapes Go.ChangeAt Go.RowKit
theorem fraudCalls_holds:Rows.FraudCallsCardSaid:=qg (qM fun os started H enc=>sN os started H enc)
#print axioms fraudCalls_holds
end Go.Proofs.YtohgjenaclfegaaGreatDoor
