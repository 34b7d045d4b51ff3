/- TariffCheapestMatchesReference of package dialtonelaw37 returns true for every input, and leaves what it was given; what the card ties: the tables of Go's library that the row lists hold what the program's text lays. -/
import Derived.Test.YtfebcokmnhdbmaaGreatDoorTLCheapMatchCardA
import Derived.Test.YtfebcokmnhdbmaaGreatDoorTLCheapMatchCardB
import Derived.Test.YtfebcokmnhdbmaaGreatDoorTLCheapMatchCardC
namespace Go.Proofs.YtfebcokmnhdbmaaGreatDoor
set_option linter.unusedVariables false
set_option linter.constructorNameAsVariable false
set_option maxRecDepth 100000
open Go.ChangeShapes Go.WideShapes Go.ChangeAt Go.RowKit
theorem tariffCheapestMatchesReference_holds : Rows.TariffCheapestMatchesReferenceCardSaid := tariffCheapestMatchesReference_holds_of (tariffCheapestMatchesReference_said_of fun os started H enc => tariffCheapestMatchesReference_lifted os started H enc)
#print axioms tariffCheapestMatchesReference_holds
end Go.Proofs.YtfebcokmnhdbmaaGreatDoor
