/- The closed calls lives() by the kernel: each hands back true. -/
import Derived.Test.YtjihhflffkoffaaGreatDoorZ0
set_option linter.unusedSimpArgs false
set_option linter.unusedVariables false
set_option linter.unusedSectionVars false
set_option linter.unnecessarySimpa false
namespace Go.Proofs.YtjihhflffkoffaaGreatDoor.Z
open Go Go.Lm
open Go.RowKit (Below)
set_option maxRecDepth 1000000
theorem run31:lgo cfgB (fun s=>isTrueL (finalL cfgB 31 s)) 8400 (st 31)=true:=by kernel_rfl
theorem lives31(W:World):Calls Tryz.prog 31 #[] W fun e X=>e=.returned (.bool true)/\Below W.heap.size W X:=
 calls_true (C:=cfgB) (okB W.heap.size) mix rfl (s:=st 31) (by kernel_rfl) (lgo_ends _ _ run31) W trivial (Nat.le_refl _)
end Go.Proofs.YtjihhflffkoffaaGreatDoor.Z
