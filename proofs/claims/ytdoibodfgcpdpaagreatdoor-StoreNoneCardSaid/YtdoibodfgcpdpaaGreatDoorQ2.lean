/- A run of a closed call, some parts of it. -/
import Derived.Test.YtdoibodfgcpdpaaGreatDoorQs
import Derived.KernelRfl
set_option linter.unusedSimpArgs false
set_option linter.unusedVariables false
set_option linter.unusedSectionVars false
set_option linter.unnecessarySimpa false
namespace Go.Proofs.YtdoibodfgcpdpaaGreatDoor.Z
open Go Go.Lm Go.Lm.Fd
set_option maxRecDepth 1000000
theorem c6 : lrunF cfgB 5114 (o6.map Prod.fst) [3] [[], []] k5 = some k6 := by kernel_rfl
theorem n7 : brN cfgB 60 k6 = some 2 := by kernel_rfl
theorem c7 : brF cfgB 60 0 334 (o7.map Prod.fst) [9, 12, 13, 18, 23, 24] [[]] k6 = some k7 := by kernel_rfl
theorem d7 : brF cfgB 60 1 279 (o7.map Prod.fst) [9, 12, 13, 18, 23, 24] [[]] k6 = some k7 := by kernel_rfl
theorem c8 : lrunF cfgB 5022 (o8.map Prod.fst) [0, 7, 8, 9, 10] [[], [], [0], [0, 1, 2, 3, 14, 15, 16, 17, 18, 23, 26], [], []] k7 = some k8 := by kernel_rfl
theorem c9 : lrunF cfgB 5316 (o9.map Prod.fst) [0, 6, 8, 11, 12, 13, 14, 16, 17, 18, 19, 23, 24, 26, 27, 29] [[], [], [], [], []] k8 = some k9 := by kernel_rfl
theorem c10 : lrunF cfgB 5996 (o10.map Prod.fst) [0] [[0, 4, 7, 10, 11, 14, 15, 16], [1, 10, 15, 16, 17, 18], [], [], [], [], [], []] k9 = some k10 := by kernel_rfl
end Go.Proofs.YtdoibodfgcpdpaaGreatDoor.Z
