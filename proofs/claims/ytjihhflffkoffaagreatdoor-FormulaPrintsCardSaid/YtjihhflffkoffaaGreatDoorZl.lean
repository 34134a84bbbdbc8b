/- The closed calls lives() by the kernel: each hands back true. -/
import Derived.Test.YtjihhflffkoffaaGreatDoorZ0
set_option linter.unusedSimpArgs false
set_option linter.unusedVariables false
set_option linter.unusedSectionVars false
set_option linter.unnecessarySimpa false
namespace Go.Proofs.YtjihhflffkoffaaGreatDoor.Z
open Go Go.Lm
open Go.RowKit (Below)
set_option maxRecDepth 1000000
end Go.Proofs.YtjihhflffkoffaaGreatDoor.Z
