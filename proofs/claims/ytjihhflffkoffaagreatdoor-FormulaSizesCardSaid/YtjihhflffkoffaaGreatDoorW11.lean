/- Contracts of functions of the program; no condition. -/
import Derived.Test.YtjihhflffkoffaaGreatDoorZs
import Derived.Test.YtjihhflffkoffaaGreatDoorLe
set_option linter.unusedSimpArgs false
set_option linter.unusedVariables false
set_option linter.unusedSectionVars false
set_option linter.unnecessarySimpa false
namespace Go.Proofs.YtjihhflffkoffaaGreatDoor.Z
open Go Go.Lm
set_option maxRecDepth 1000000
set_option maxHeartbeats 0
theorem e107t (R : LV → LHeap → Prop) (X : List Nat) (l : Nat) (p : LAddr) (H : LHeap)
 (h : (Inv X H [] H → (∃ x1 : NdC, ((loadT (cfg).P H 72 p = some (NdC.lv x1)) ∧ (Inv X H [] H → ∃ S2 : LV → LHeap → Prop, ∃ Y : List Nat, CallL cfg 108 [(NdC.lv x1), (.func (Fn.yield l) [] [])] H S2 ∧ (∀ v H', S2 v H' → PresX Y H H' ∧ hasSh .bool v) ∧ (∀ i ∈ Y, okId X H [] i) ∧
  (∀ (b3 : Bool), ∀ H4 : LHeap, S2 (.bool b3) H4 → (Inv X H [] H4 → R (.tuple []) H4))))))) :
 CallL cfg 107 [(.func (Fn.yield l) [] []), (.ptr (some p))] H R :=
  call_wtX (X := X) (k := (.go 1 (.facts (.op (.cust NdC NdC.lv) (.go 1 (.facts (.callY .bool (.go 1 (.facts .ret))))))))) (by kernel_rfl) h
def L108t_0 (d : Nat → LV) (n0 : Int) (f1 : Nat) (a2 : Option LAddr) (l3 : Nat) (c4 : Cap) (n5 : Int) : List SV := [(.lv (d 0)), (.lv (.func (Fn.yield f1) [] [])), (.lv (d 2)), (.lv (d 3)), (.lv (d 4)), (.lv (d 5)), (.lv (d 6)), (.lv (d 7)), (.lv (d 8)), (.lv (d 9)), (.lv (d 10)), (.lv (d 11)), (.lv (d 12)), (.lv (.slice a2 l3 c4)), (.lv (.int .i64 n5)), (.lv (.int .i64 n0)), (.lv (d 16)), (.lv (d 17)), (.lv (d 18)), (.lv (d 19)), (.lv (d 20)), (.lv (d 21)), (.lv (d 22)), (.lv (d 23))]
theorem g108t_0 (R : LV → LHeap → Prop) (X : List Nat) (H0 : LHeap) (d : Nat → LV) (n0 : Int) (f1 : Nat) (a2 : Option LAddr) (l3 : Nat) (c4 : Cap) (n5 : Int)  (H : LHeap)
 (h : (((decide (n0 < n5)) = true → ((((0 : Int) ≤ n0) ∧ ((n0 < ((l3 : Nat) : Int)) ∧ ((Option.isSome a2) = true))) ∧ (Inv X H0 [] H → (∃ x8 : NdC, ((loadT (cfg).P H 72 (LAddr.mk (LAddr.id (adr a2)) (LAddr.ver (adr a2)) ((LAddr.off (adr a2)) + ((Int.toNat n0) * 18))) = some (NdC.lv x8)) ∧ (∀ (i9 : Nat) (H10 : LHeap), H.next ≤ i9 → PresX [] H H10 → (∀ H11 : LHeap, PresX [i9] H10 H11 → (Inv X H0 [(Slot.mk i9 (NdC.cs x8) 72)] H11 → ∃ S12 : LV → LHeap → Prop, ∃ Y : List Nat, CallL cfg 108 [(NdC.lv x8), (.func (Fn.yield f1) [] [])] H11 S12 ∧ (∀ v H', S12 v H' → PresX Y H11 H' ∧ hasSh .bool v) ∧ (∀ i ∈ Y, okId X H0 [(Slot.mk i9 (NdC.cs x8) 72)] i) ∧
  (∀ (b13 : Bool), ∀ H14 : LHeap, S12 (.bool b13) H14 → (((!b13) = true → (Inv X H0 [(Slot.mk i9 (NdC.cs x8) 72)] H14 → R (.bool false) H14))
 ∧ ((!b13) = false → (∀ d15 : Nat → LV, GoesT cfg 108 R X H0 [] (L108t_0 d15 (lwrap .i64 (n0 + (1 : Int))) f1 a2 l3 c4 n5) (loopAt cfg 108 0) H14))))))))))))
 ∧ ((decide (n0 < n5)) = false → (Inv X H0 [] H → R (.bool true) H)))) :
 GoesT cfg 108 R X H0 [] (L108t_0 d n0 f1 a2 l3 c4 n5) (loopAt cfg 108 0) H :=
  seg_wt (k := (.go 5 (.cases 16 (.go 6 (.op (.tuple []) (.facts (.op (.cust NdC NdC.lv) (.boxP (.putP (.go 5 (.facts (.callY .bool (.go 2 (.cases 22 (.go 5 (.facts .ret)) (.go 8 (.stop [15, 1, 13, 14] 0))))))))))))) (.go 6 (.facts .ret))))) (by kernel_rfl) h
theorem e108t (R : LV → LHeap → Prop) (X : List Nat) (n : NdC) (l : Nat) (H : LHeap)
 (h : (∀ (i0 : Nat) (H1 : LHeap), H.next ≤ i0 → PresX [] H H1 → (Inv X H [(Slot.mk i0 (NdC.cs n) 72)] H1 → ∃ S2 : LV → LHeap → Prop, CallL cfg 106 [(NdC.lv n)] H1 S2 ∧ (∀ v H', S2 v H' → PresX [] H1 H' ∧ hasSh (.cust NdC NdC.lv) v) ∧
  (∀ (x3 : NdC), ∀ H4 : LHeap, S2 (NdC.lv x3) H4 → (Inv X H [(Slot.mk i0 (NdC.cs n) 72)] H4 → ∃ S5 : LV → LHeap → Prop, ∃ Y : List Nat, YieldL cfg l [(NdC.lv x3)] H4 S5 ∧ (∀ v H', S5 v H' → PresX Y H4 H' ∧ hasSh .bool v) ∧ (∀ i ∈ Y, okId X H [(Slot.mk i0 (NdC.cs n) 72)] i) ∧
  (∀ (b6 : Bool), ∀ H7 : LHeap, S5 (.bool b6) H7 → (((!b6) = true → (Inv X H [(Slot.mk i0 (NdC.cs n) 72)] H7 → R (.bool false) H7))
 ∧ ((!b6) = false → (∀ d8 : Nat → LV, GoesT cfg 108 R X H [] (L108t_0 d8 (0 : Int) l n.argsA n.argsL n.argsQ ((n.argsL : Nat) : Int)) (loopAt cfg 108 0) H7))))))))) :
 CallL cfg 108 [(NdC.lv n), (.func (Fn.yield l) [] [])] H R :=
  call_wtX (X := X) (k := (.go 2 (.boxP (.go 7 (.facts (.call (.cust NdC NdC.lv) (.facts (.yld .bool (.go 2 (.cases 11 (.go 5 (.facts .ret)) (.go 12 (.stop [15, 1, 13, 14] 0)))))))))))) (by kernel_rfl) h
end Go.Proofs.YtjihhflffkoffaaGreatDoor.Z
