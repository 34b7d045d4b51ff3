/- TariffExact of package dialtonelaw37 returns true for every input, and leaves what it was given; what the card ties: the tables of Go's library that the row lists hold what the program's text lays. -/
import Derived.Test.YtfebcokmnhdbmaaGreatDoorTLExactCardA
import Derived.Test.YtfebcokmnhdbmaaGreatDoorTLExactCardB
import Derived.Test.YtfebcokmnhdbmaaGreatDoorTLExactCardC
namespace Go.Proofs.YtfebcokmnhdbmaaGreatDoor
set_option linter.unusedVariables false
set_option linter.constructorNameAsVariable false
set_option maxRecDepth 100000
open Go.ChangeShapes Go.WideShapes Go.ChangeAt Go.RowKit
theorem tariffExact_holds : Rows.TariffExactCardSaid := tariffExact_holds_of (tariffExact_said_of fun os started H enc => tariffExact_lifted os started H enc)
#print axioms tariffExact_holds
end Go.Proofs.YtfebcokmnhdbmaaGreatDoor
