/- A run of a closed call, some parts of it. -/
import Derived.Test.YtdoibodfgcpdpaaGreatDoorQs
import Derived.KernelRfl
set_option linter.unusedSimpArgs false
set_option linter.unusedVariables false
set_option linter.unusedSectionVars false
set_option linter.unnecessarySimpa false
namespace Go.Proofs.YtdoibodfgcpdpaaGreatDoor.Z
open Go Go.Lm Go.Lm.Fd
set_option maxRecDepth 1000000
theorem c1 : lrunF cfgB 4055 (o1.map Prod.fst) [0, 5] [[0, 1], [0, 1, 2, 9, 11, 12, 13, 14, 15, 20, 21, 22, 23, 24, 25], [7, 8], [0, 1, 3, 5, 6, 8, 11, 14, 15, 16, 17, 18, 19, 20, 22, 23, 24, 25, 26, 27, 30, 31, 32, 33, 34, 38, 39, 40, 41, 42, 47, 48, 49, 50, 51, 52, 53, 69, 70, 72, 73, 79, 80, 81]] kst = some k1 := by kernel_rfl
theorem c2 : lrunF cfgB 3778 (o2.map Prod.fst) [0, 8, 10, 15, 16, 17, 21, 22, 23, 24, 25, 26, 27, 28, 29, 30, 31, 32, 34, 35, 36, 39] [[], [], [], [], []] k1 = some k2 := by kernel_rfl
theorem c3 : lrunF cfgB 4054 (o3.map Prod.fst) [3, 8, 9, 10, 11] [[], [], []] k2 = some k3 := by kernel_rfl
theorem c4 : lrunF cfgB 5994 (o4.map Prod.fst) [0] [[], [], [0], [16, 17], [], [], []] k3 = some k4 := by kernel_rfl
theorem c5 : lrunF cfgB 6000 (o5.map Prod.fst) [] [[], [], [], [], [], [], []] k4 = some k5 := by kernel_rfl
end Go.Proofs.YtdoibodfgcpdpaaGreatDoor.Z
