/- The closed calls lives() by the kernel: each hands back true. -/
import Derived.Test.YtjihhflffkoffaaGreatDoorZ0
set_option linter.unusedSimpArgs false
set_option linter.unusedVariables false
set_option linter.unusedSectionVars false
set_option linter.unnecessarySimpa false
namespace Go.Proofs.YtjihhflffkoffaaGreatDoor.Z
open Go Go.Lm
open Go.RowKit (Below)
set_option maxRecDepth 1000000
theorem run24:lgo cfgB (fun s=>isTrueL (finalL cfgB 24 s)) 11200 (st 24)=true:=by kernel_rfl
theorem lives24(W:World):Calls Tryz.prog 24 #[] W fun e X=>e=.returned (.bool true)/\Below W.heap.size W X:=
 calls_true (C:=cfgB) (okB W.heap.size) mix rfl (s:=st 24) (by kernel_rfl) (lgo_ends _ _ run24) W trivial (Nat.le_refl _)
end Go.Proofs.YtjihhflffkoffaaGreatDoor.Z
