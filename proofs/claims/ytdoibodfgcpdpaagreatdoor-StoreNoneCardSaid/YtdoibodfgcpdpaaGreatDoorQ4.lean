/- A run of a closed call, some parts of it. -/
import Derived.Test.YtdoibodfgcpdpaaGreatDoorQs
import Derived.KernelRfl
set_option linter.unusedSimpArgs false
set_option linter.unusedVariables false
set_option linter.unusedSectionVars false
set_option linter.unnecessarySimpa false
namespace Go.Proofs.YtdoibodfgcpdpaaGreatDoor.Z
open Go Go.Lm Go.Lm.Fd
set_option maxRecDepth 1000000
theorem c16 : lrunF cfgB 4173 (o16.map Prod.fst) [5, 7, 14, 15, 16, 17, 19, 20, 21, 22, 27] [[], [], [], []] k15 = some k16 := by kernel_rfl
theorem c17 : lrunF cfgB 5995 (o17.map Prod.fst) [0] [[], [], [34], [], [], [], []] k16 = some k17 := by kernel_rfl
theorem c18 : lrunF cfgB 5661 (o18.map Prod.fst) [4, 5, 6, 7, 9, 10, 11, 12, 13, 14, 15, 16, 18, 19, 20, 21, 22, 23, 24, 25, 26, 27, 28, 29, 30, 31, 33, 34, 35, 36, 38, 39, 40, 41] [[0, 10, 11, 12, 13, 16, 17, 18, 32, 33], [], [0, 7, 8, 9, 10], [], [3, 10, 11, 12, 13], [0, 7, 8, 9, 10], [], [], [], [], []] k17 = some k18 := by kernel_rfl
theorem c19 : lrunF cfgB 5748 (o19.map Prod.fst) [33, 34, 35, 36] [[]] k18 = some k19 := by kernel_rfl
theorem cend : lgo cfgB (fun s => isTrueL (finalL cfgB 3 s)) 1020 k19 = true := by kernel_rfl
end Go.Proofs.YtdoibodfgcpdpaaGreatDoor.Z
