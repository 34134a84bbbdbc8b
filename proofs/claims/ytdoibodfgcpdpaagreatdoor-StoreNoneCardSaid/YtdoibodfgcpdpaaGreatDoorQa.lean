/- The law's run begins at a struct of nine cells of which nothing is known. -/
import Derived.Test.YtdoibodfgcpdpaaGreatDoorQ
import Derived.Test.YtdoibodfgcpdpaaGreatDoorLe
import Derived.KernelRfl
set_option linter.unusedSimpArgs false
set_option linter.unusedVariables false
set_option linter.unusedSectionVars false
set_option linter.unnecessarySimpa false
namespace Go.Proofs.YtdoibodfgcpdpaaGreatDoor.Z
open Go Go.Lm Go.Lm.Fd
set_option maxRecDepth 1000000
def xst : List LV := [.agg (List.replicate 9 .junk)]
theorem start_ok : startX cfgB 3 xst = some kst := by kernel_rfl
end Go.Proofs.YtdoibodfgcpdpaaGreatDoor.Z
