/- TariffMatchesReference of package dialtonelaw37 returns true for every input, and leaves what it was given; what the card ties: the tables of Go's library that the row lists hold what the program's text lays. -/
import Derived.Test.YtfebcokmnhdbmaaGreatDoorTLMatchCardA
import Derived.Test.YtfebcokmnhdbmaaGreatDoorTLMatchCardB
import Derived.Test.YtfebcokmnhdbmaaGreatDoorTLMatchCardC
namespace Go.Proofs.YtfebcokmnhdbmaaGreatDoor
set_option linter.unusedVariables false
set_option linter.constructorNameAsVariable false
set_option maxRecDepth 100000
open Go.ChangeShapes Go.WideShapes Go.ChangeAt Go.RowKit
theorem tariffMatchesReference_holds : Rows.TariffMatchesReferenceCardSaid := tariffMatchesReference_holds_of (tariffMatchesReference_said_of fun os started H enc => tariffMatchesReference_lifted os started H enc)
#print axioms tariffMatchesReference_holds
end Go.Proofs.YtfebcokmnhdbmaaGreatDoor
