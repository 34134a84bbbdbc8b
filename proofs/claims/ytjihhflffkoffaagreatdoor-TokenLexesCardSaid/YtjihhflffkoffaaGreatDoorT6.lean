/- Contracts of functions of the program; no condition. -/
import Derived.Test.YtjihhflffkoffaaGreatDoorZs
import Derived.Test.YtjihhflffkoffaaGreatDoorLe
set_option linter.unusedSimpArgs false
set_option linter.unusedVariables false
set_option linter.unusedSectionVars false
set_option linter.unnecessarySimpa false
namespace Go.Proofs.YtjihhflffkoffaaGreatDoor.Z
open Go Go.Lm
set_option maxRecDepth 1000000
set_option maxHeartbeats 0
theorem e261 (R : LV → LHeap → Prop)  (H : LHeap)
 (h : (∀ (i0 : Nat) (H1 : LHeap), H.next ≤ i0 → PresX [] H H1 → (∀ H2 : LHeap, PresX [i0] H1 H2 → (Inv [] H [(Slot.mk i0 [(.str []), (.str [35, 68, 73, 86, 47, 48, 33]), (.str [35, 86, 65, 76, 85, 69, 33]), (.str [35, 82, 69, 70, 33]), (.str [35, 78, 65, 77, 69, 63]), (.str [35, 78, 85, 77, 33]), (.str [35, 78, 47, 65]), (.str [35, 67, 89, 67, 76, 69, 33]), (.str [35, 76, 73, 78, 75, 33])] 214)] H2 → R (.agg [(.str []), (.str [35, 68, 73, 86, 47, 48, 33]), (.str [35, 86, 65, 76, 85, 69, 33]), (.str [35, 82, 69, 70, 33]), (.str [35, 78, 65, 77, 69, 63]), (.str [35, 78, 85, 77, 33]), (.str [35, 78, 47, 65]), (.str [35, 67, 89, 67, 76, 69, 33]), (.str [35, 76, 73, 78, 75, 33])]) H2)))) :
 CallL cfg 261 [] H R :=
  call_wt0 (k := (.go 2 (.boxP (.go 4 (.putP (.go 1 (.facts .ret))))))) (by kernel_rfl) h
end Go.Proofs.YtjihhflffkoffaaGreatDoor.Z
