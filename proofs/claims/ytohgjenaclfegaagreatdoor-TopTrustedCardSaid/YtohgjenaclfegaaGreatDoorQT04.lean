import Derived.Test.YtohgjenaclfegaaGreatDoorQF01
set_option linter.unusedVariables false
set_option linter.unusedSimpArgs false
set_option maxRecDepth 100000
set_option maxHeartbeats 8000000
namespace Go.Proofs.YtohgjenaclfegaaGreatDoor
open Go.RowKit Go.Shelf
end Go.Proofs.YtohgjenaclfegaaGreatDoor
