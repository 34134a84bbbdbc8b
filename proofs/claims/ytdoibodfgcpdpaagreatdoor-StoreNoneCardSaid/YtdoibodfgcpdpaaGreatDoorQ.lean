/- A closed call hands back true: all parts of its run together. -/
import Derived.Test.YtdoibodfgcpdpaaGreatDoorQ1
import Derived.Test.YtdoibodfgcpdpaaGreatDoorQ2
import Derived.Test.YtdoibodfgcpdpaaGreatDoorQ3
import Derived.Test.YtdoibodfgcpdpaaGreatDoorQ4
set_option linter.unusedSimpArgs false
set_option linter.unusedVariables false
set_option linter.unusedSectionVars false
set_option linter.unnecessarySimpa false
namespace Go.Proofs.YtdoibodfgcpdpaaGreatDoor.Z
open Go Go.Lm Go.Lm.Fd
set_option maxRecDepth 1000000
theorem ends_all : EndsF cfgB (fun s => isTrueL (finalL cfgB 3 s) = true) kst := by
  have z19 : EndsF cfgB (fun s => isTrueL (finalL cfgB 3 s) = true) k19 := EndsF.of (lgo_ends _ _ cend)
  have z18 : EndsF cfgB (fun s => isTrueL (finalL cfgB 3 s) = true) k18 := lrunF_ends c19 z19
  have z17 : EndsF cfgB (fun s => isTrueL (finalL cfgB 3 s) = true) k17 := lrunF_ends c18 z18
  have z16 : EndsF cfgB (fun s => isTrueL (finalL cfgB 3 s) = true) k16 := lrunF_ends c17 z17
  have z15 : EndsF cfgB (fun s => isTrueL (finalL cfgB 3 s) = true) k15 := lrunF_ends c16 z16
  have z14 : EndsF cfgB (fun s => isTrueL (finalL cfgB 3 s) = true) k14 := lrunF_ends c15 z15
  have z13 : EndsF cfgB (fun s => isTrueL (finalL cfgB 3 s) = true) k13 := lrunF_ends c14 z14
  have z12 : EndsF cfgB (fun s => isTrueL (finalL cfgB 3 s) = true) k12 := lrunF_ends c13 z13
  have z11 : EndsF cfgB (fun s => isTrueL (finalL cfgB 3 s) = true) k11 := lrunF_ends c12 z12
  have z10 : EndsF cfgB (fun s => isTrueL (finalL cfgB 3 s) = true) k10 := lrunF_ends c11 z11
  have z9 : EndsF cfgB (fun s => isTrueL (finalL cfgB 3 s) = true) k9 := lrunF_ends c10 z10
  have z8 : EndsF cfgB (fun s => isTrueL (finalL cfgB 3 s) = true) k8 := lrunF_ends c9 z9
  have z7 : EndsF cfgB (fun s => isTrueL (finalL cfgB 3 s) = true) k7 := lrunF_ends c8 z8
  have z6 : EndsF cfgB (fun s => isTrueL (finalL cfgB 3 s) = true) k6 := brF_ends n7 c7 d7 z7 z7
  have z5 : EndsF cfgB (fun s => isTrueL (finalL cfgB 3 s) = true) k5 := lrunF_ends c6 z6
  have z4 : EndsF cfgB (fun s => isTrueL (finalL cfgB 3 s) = true) k4 := lrunF_ends c5 z5
  have z3 : EndsF cfgB (fun s => isTrueL (finalL cfgB 3 s) = true) k3 := lrunF_ends c4 z4
  have z2 : EndsF cfgB (fun s => isTrueL (finalL cfgB 3 s) = true) k2 := lrunF_ends c3 z3
  have z1 : EndsF cfgB (fun s => isTrueL (finalL cfgB 3 s) = true) k1 := lrunF_ends c2 z2
  have zst : EndsF cfgB (fun s => isTrueL (finalL cfgB 3 s) = true) kst := lrunF_ends c1 z1
  exact zst
end Go.Proofs.YtdoibodfgcpdpaaGreatDoor.Z
