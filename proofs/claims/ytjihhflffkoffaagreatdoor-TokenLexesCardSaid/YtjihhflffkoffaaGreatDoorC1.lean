/- Contracts of functions of the program; no condition. -/
import Derived.Test.YtjihhflffkoffaaGreatDoorZs
import Derived.Test.YtjihhflffkoffaaGreatDoorLe
set_option linter.unusedSimpArgs false
set_option linter.unusedVariables false
set_option linter.unusedSectionVars false
set_option linter.unnecessarySimpa false
namespace Go.Proofs.YtjihhflffkoffaaGreatDoor.Z
open Go Go.Lm
set_option maxRecDepth 1000000
set_option maxHeartbeats 0
def L105_0 (d : Nat → LV) (n0 : Int) (n1 : Int) (a2 : Option LAddr) (l3 : Nat) (c4 : Cap) (n5 : Int) : List SV := [(.lv (d 0)), (.lv (.int .i64 n1)), (.lv (d 2)), (.lv (d 3)), (.lv (d 4)), (.lv (d 5)), (.lv (d 6)), (.lv (d 7)), (.lv (d 8)), (.lv (d 9)), (.lv (.slice a2 l3 c4)), (.lv (.int .i64 n5)), (.lv (.int .i64 n0)), (.lv (d 13)), (.lv (d 14)), (.lv (d 15)), (.lv (d 16)), (.lv (d 17)), (.lv (d 18)), (.lv (d 19)), (.lv (d 20)), (.lv (d 21)), (.lv (d 22))]
theorem g105_0 (R : LV → LHeap → Prop) (H0 : LHeap) (d : Nat → LV) (n0 : Int) (n1 : Int) (a2 : Option LAddr) (l3 : Nat) (c4 : Cap) (n5 : Int)  (H : LHeap)
 (h : (((decide (n0 < n5)) = true → ((((0 : Int) ≤ n0) ∧ ((n0 < ((l3 : Nat) : Int)) ∧ ((Option.isSome a2) = true))) ∧ (Inv [] H0 [] H → (∃ x8 : NdC, ((loadT (cfg).P H 72 (LAddr.mk (LAddr.id (adr a2)) (LAddr.ver (adr a2)) ((LAddr.off (adr a2)) + ((Int.toNat n0) * 18))) = some (NdC.lv x8)) ∧ (∀ (i9 : Nat) (H10 : LHeap), (∀ H11 : LHeap, (((decide (n1 ≤ 0)) = true → (Inv [] H0 [(Slot.mk i9 (NdC.cs x8) 72)] H11 → R (.int .i64 (0 : Int)) H11))
 ∧ ((decide (n1 ≤ 0)) = false → (Inv [] H0 [(Slot.mk i9 (NdC.cs x8) 72)] H11 → ∃ S12 : LV → LHeap → Prop, CallL cfg 105 [(NdC.lv x8), (.int .i64 n1)] H11 S12 ∧ (∀ v H', S12 v H' → PresX [] H11 H' ∧ hasSh (.int .i64) v) ∧
  (∀ (n13 : Int), ∀ H14 : LHeap, S12 (.int .i64 n13) H14 → (∀ d15 : Nat → LV, GoesT cfg 105 R [] H0 [] (L105_0 d15 (lwrap .i64 (n0 + (1 : Int))) n13 a2 l3 c4 n5) (loopAt cfg 105 0) H14))))))))))))
 ∧ ((decide (n0 < n5)) = false → (Inv [] H0 [] H → R (.int .i64 n1) H)))) :
 GoesT cfg 105 R [] H0 [] (L105_0 d n0 n1 a2 l3 c4 n5) (loopAt cfg 105 0) H :=
  seg_wt (k := (.go 5 (.cases 13 (.go 6 (.op (.tuple []) (.facts (.op (.cust NdC NdC.lv) (.box (.put (.go 7 (.cases 17 (.go 5 (.facts .ret)) (.go 5 (.facts (.call (.int .i64) (.go 8 (.stop [12, 1, 10, 11] 0))))))))))))) (.go 7 (.facts .ret))))) (by kernel_rfl) h
theorem e105 (R : LV → LHeap → Prop) (x0 : NdC) (n1 : Int) (H : LHeap)
 (h : (∀ (i2 : Nat) (H3 : LHeap), (∀ d4 : Nat → LV, GoesT cfg 105 R [] H [] (L105_0 d4 (0 : Int) (lwrap .i64 (n1 - (1 : Int))) x0.argsA x0.argsL x0.argsQ ((x0.argsL : Nat) : Int)) (loopAt cfg 105 0) H3))) :
 CallL cfg 105 [(NdC.lv x0), (.int .i64 n1)] H R :=
  call_wt0 (k := (.go 2 (.box (.go 18 (.stop [12, 1, 10, 11] 0))))) (by kernel_rfl) h
theorem e42 (R : LV → LHeap → Prop) (x0 : NdC) (n1 : Int) (H : LHeap)
 (h : (∀ (i2 : Nat) (H3 : LHeap), (Inv [] H [(Slot.mk i2 (NdC.cs x0) 72)] H3 → ∃ S4 : LV → LHeap → Prop, CallL cfg 105 [(NdC.lv x0), (.int .i64 n1)] H3 S4 ∧ (∀ v H', S4 v H' → PresX [] H3 H' ∧ hasSh (.int .i64) v) ∧
  (∀ (n5 : Int), ∀ H6 : LHeap, S4 (.int .i64 n5) H6 → (Inv [] H [(Slot.mk i2 (NdC.cs x0) 72)] H6 → R (.bool (decide (n5 ≤ 0))) H6))))) :
 CallL cfg 42 [(NdC.lv x0), (.int .i64 n1)] H R :=
  call_wt0 (k := (.go 2 (.box (.go 6 (.facts (.call (.int .i64) (.go 3 (.facts .ret)))))))) (by kernel_rfl) h
end Go.Proofs.YtjihhflffkoffaaGreatDoor.Z
