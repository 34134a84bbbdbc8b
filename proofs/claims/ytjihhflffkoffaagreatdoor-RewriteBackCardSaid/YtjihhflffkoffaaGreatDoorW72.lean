/- Contracts of functions of the program; no condition. -/
import Derived.Test.YtjihhflffkoffaaGreatDoorZs
import Derived.Test.YtjihhflffkoffaaGreatDoorLe
set_option linter.unusedSimpArgs false
set_option linter.unusedVariables false
set_option linter.unusedSectionVars false
set_option linter.unnecessarySimpa false
namespace Go.Proofs.YtjihhflffkoffaaGreatDoor.Z
open Go Go.Lm
set_option maxRecDepth 1000000
set_option maxHeartbeats 0
theorem e72 (R : LV → LHeap → Prop) (x0 : ShiftC) (n1 : Int) (H : LHeap)
 (h : (∀ (i2 : Nat) (H3 : LHeap), (Inv [] H [(Slot.mk i2 (ShiftC.cs x0) 96)] H3 → ∃ S4 : LV → LHeap → Prop, CallL cfg 66 [(ShiftC.lv x0)] H3 S4 ∧ (∀ v H', S4 v H' → PresX [] H3 H' ∧ hasSh .bool v) ∧
  (∀ (b5 : Bool), ∀ H6 : LHeap, S4 (.bool b5) H6 → (((!b5) = true → (Inv [] H [(Slot.mk i2 (ShiftC.cs x0) 96)] H6 → R (.tuple [(.int .i64 (0 : Int)), (.bool false)]) H6))
 ∧ ((!b5) = false → (Inv [] H [(Slot.mk i2 (ShiftC.cs x0) 96)] H6 → ∃ S7 : LV → LHeap → Prop, CallL cfg 141 [(ShiftC.lv x0)] H6 S7 ∧ (∀ v H', S7 v H' → PresX [] H6 H' ∧ hasSh (.cust (LAddr × LAddr) (fun (p : LAddr × LAddr) => (.func (.func 224) [] [.ptr (some p.1), .ptr (some p.2)] : LV))) v) ∧
  (∀ (y8 : LAddr × LAddr), ∀ H9 : LHeap, S7 (.func (Fn.func 224) [] [(.ptr (some (Prod.fst y8))), (.ptr (some (Prod.snd y8)))]) H9 → (Inv [] H [(Slot.mk i2 (ShiftC.cs x0) 96)] H9 → ∃ S10 : LV → LHeap → Prop, CallL cfg 224 [(.int .i64 n1), (.ptr (some (Prod.fst y8))), (.ptr (some (Prod.snd y8)))] H9 S10 ∧ (∀ v H', S10 v H' → PresX [] H9 H' ∧ hasSh (.tuple [(.int .i64), .bool]) v) ∧
  (∀ (n11 : Int), ∀ (b12 : Bool), ∀ H13 : LHeap, S10 (.tuple [(.int .i64 n11), (.bool b12)]) H13 → (Inv [] H [(Slot.mk i2 (ShiftC.cs x0) 96)] H13 → R (.tuple [(.int .i64 n11), (.bool b12)]) H13))))))))))) :
 CallL cfg 72 [(ShiftC.lv x0), (.int .i64 n1)] H R :=
  call_wt0 (k := (.go 2 (.box (.go 7 (.facts (.call .bool (.go 2 (.cases 8 (.go 6 (.facts .ret)) (.go 5 (.facts (.call (.cust (LAddr × LAddr) (fun (p : LAddr × LAddr) => (.func (.func 224) [] [.ptr (some p.1), .ptr (some p.2)] : LV))) (.go 1 (.facts (.call (.tuple [(.int .i64), .bool]) (.go 5 (.facts .ret)))))))))))))))) (by kernel_rfl) h
end Go.Proofs.YtjihhflffkoffaaGreatDoor.Z
