/- A run of a closed call, some parts of it. -/
import Derived.Test.YtdoibodfgcpdpaaGreatDoorQs
import Derived.KernelRfl
set_option linter.unusedSimpArgs false
set_option linter.unusedVariables false
set_option linter.unusedSectionVars false
set_option linter.unnecessarySimpa false
namespace Go.Proofs.YtdoibodfgcpdpaaGreatDoor.Z
open Go Go.Lm Go.Lm.Fd
set_option maxRecDepth 1000000
theorem c11 : lrunF cfgB 5917 (o11.map Prod.fst) [2, 28, 29, 30, 31] [[]] k10 = some k11 := by kernel_rfl
theorem c12 : lrunF cfgB 5332 (o12.map Prod.fst) [] [[], [0, 15, 16, 17, 18, 19, 20, 21], [0, 1, 9, 10, 11, 12, 13], [], []] k11 = some k12 := by kernel_rfl
theorem c13 : lrunF cfgB 5990 (o13.map Prod.fst) [0, 4, 7, 8, 9, 10, 15, 20, 21, 22, 23, 27, 28, 29, 30, 31, 32, 33, 38] [[], [], [], []] k12 = some k13 := by kernel_rfl
theorem c14 : lrunF cfgB 5995 (o14.map Prod.fst) [0] [[], [27, 28, 29, 30, 35, 36, 37, 38, 39, 40, 41], [], [], []] k13 = some k14 := by kernel_rfl
theorem c15 : lrunF cfgB 4643 (o15.map Prod.fst) [6, 10] [[], [], [], [], []] k14 = some k15 := by kernel_rfl
end Go.Proofs.YtdoibodfgcpdpaaGreatDoor.Z
