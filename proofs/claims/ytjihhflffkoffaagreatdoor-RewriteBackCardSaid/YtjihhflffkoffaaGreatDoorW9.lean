/- Contracts of functions of the program; no condition. -/
import Derived.Test.YtjihhflffkoffaaGreatDoorZs
import Derived.Test.YtjihhflffkoffaaGreatDoorLe
set_option linter.unusedSimpArgs false
set_option linter.unusedVariables false
set_option linter.unusedSectionVars false
set_option linter.unnecessarySimpa false
namespace Go.Proofs.YtjihhflffkoffaaGreatDoor.Z
open Go Go.Lm
set_option maxRecDepth 1000000
set_option maxHeartbeats 0
def L71t_0 (d : Nat → LV) (n0 : Int) (a1 : Option LAddr) (l2 : Nat) (c3 : Cap) (n4 : Int) : List SV := [(.lv (d 0)), (.lv (d 1)), (.lv (d 2)), (.lv (d 3)), (.own 1 0), (.own 2 0), (.lv (d 6)), (.lv (d 7)), (.lv (d 8)), (.lv (d 9)), (.lv (.slice a1 l2 c3)), (.lv (.int .i64 n4)), (.lv (.int .i64 n0)), (.lv (d 13)), (.lv (d 14)), (.lv (d 15)), (.lv (d 16)), (.lv (d 17)), (.lv (d 18)), (.lv (d 19)), (.lv (d 20)), (.lv (d 21)), (.lv (d 22)), (.lv (d 23)), (.lv (d 24)), (.lv (d 25)), (.lv (d 26)), (.lv (d 27)), (.lv (d 28)), (.lv (d 29)), (.lv (d 30)), (.lv (d 31))]
theorem g71t_0 (R : LV → LHeap → Prop) (H0 : LHeap) (d : Nat → LV) (n0 : Int) (a1 : Option LAddr) (l2 : Nat) (c3 : Cap) (n4 : Int) (i5 : Nat) (x6 : NdC) (i7 : Nat) (x8 : PlaceC) (i9 : Nat) (x10 : ChangeC) (H : LHeap)
 (h : (((decide (n0 < n4)) = true → ((((0 : Int) ≤ n0) ∧ ((n0 < ((l2 : Nat) : Int)) ∧ ((Option.isSome a1) = true))) ∧ (Inv [] H0 [(Slot.mk i5 (NdC.cs x6) 72), (Slot.mk i7 (PlaceC.cs x8) 94), (Slot.mk i9 (ChangeC.cs x10) 105)] H → (∃ x13 : NdC, ((loadT (cfg).P H 72 (LAddr.mk (LAddr.id (adr a1)) (LAddr.ver (adr a1)) ((LAddr.off (adr a1)) + ((Int.toNat n0) * 18))) = some (NdC.lv x13)) ∧ (∀ (i14 : Nat) (H15 : LHeap), H.next ≤ i14 → PresX [] H H15 → (∀ H16 : LHeap, PresX [i14] H15 H16 → (((x13.kind == (2 : Int)) = true → (Inv [] H0 [(Slot.mk i5 (NdC.cs x6) 72), (Slot.mk i7 (PlaceC.cs x8) 94), (Slot.mk i9 (ChangeC.cs x10) 105), (Slot.mk i14 (NdC.cs x13) 72)] H16 → ∃ S17 : LV → LHeap → Prop, CallL cfg 135 [(.agg [(.str x13.refBook), (.str x13.refSheet), (.int .i64 x13.refRow), (.int .i64 x13.refCol), (.bool x13.refFixRow), (.bool x13.refFixCol)]), (PlaceC.lv x8), (ChangeC.lv x10)] H16 S17 ∧ (∀ v H', S17 v H' → PresX [] H16 H' ∧ hasSh .bool v) ∧
  (∀ (b18 : Bool), ∀ H19 : LHeap, S17 (.bool b18) H19 → ((b18 = true → (Inv [] H0 [(Slot.mk i5 (NdC.cs x6) 72), (Slot.mk i7 (PlaceC.cs x8) 94), (Slot.mk i9 (ChangeC.cs x10) 105), (Slot.mk i14 (NdC.cs x13) 72)] H19 → R (.bool true) H19))
 ∧ (b18 = false → (∀ d20 : Nat → LV, GoesT cfg 71 R [] H0 [(Slot.mk i5 (NdC.cs x6) 72), (Slot.mk i7 (PlaceC.cs x8) 94), (Slot.mk i9 (ChangeC.cs x10) 105)] (L71t_0 d20 (lwrap .i64 (n0 + (1 : Int))) a1 l2 c3 n4) (loopAt cfg 71 0) H19))))))
 ∧ ((x13.kind == (2 : Int)) = false → (((x13.kind == (3 : Int)) = true → (Inv [] H0 [(Slot.mk i5 (NdC.cs x6) 72), (Slot.mk i7 (PlaceC.cs x8) 94), (Slot.mk i9 (ChangeC.cs x10) 105), (Slot.mk i14 (NdC.cs x13) 72)] H16 → ∃ S21 : LV → LHeap → Prop, CallL cfg 135 [(.agg [(.str x13.refBook), (.str x13.refSheet), (.int .i64 x13.refRow), (.int .i64 x13.refCol), (.bool x13.refFixRow), (.bool x13.refFixCol)]), (PlaceC.lv x8), (ChangeC.lv x10)] H16 S21 ∧ (∀ v H', S21 v H' → PresX [] H16 H' ∧ hasSh .bool v) ∧
  (∀ (b22 : Bool), ∀ H23 : LHeap, S21 (.bool b22) H23 → ((b22 = true → (Inv [] H0 [(Slot.mk i5 (NdC.cs x6) 72), (Slot.mk i7 (PlaceC.cs x8) 94), (Slot.mk i9 (ChangeC.cs x10) 105), (Slot.mk i14 (NdC.cs x13) 72)] H23 → R (.bool true) H23))
 ∧ (b22 = false → (∀ d24 : Nat → LV, GoesT cfg 71 R [] H0 [(Slot.mk i5 (NdC.cs x6) 72), (Slot.mk i7 (PlaceC.cs x8) 94), (Slot.mk i9 (ChangeC.cs x10) 105)] (L71t_0 d24 (lwrap .i64 (n0 + (1 : Int))) a1 l2 c3 n4) (loopAt cfg 71 0) H23))))))
 ∧ ((x13.kind == (3 : Int)) = false → (∀ d25 : Nat → LV, GoesT cfg 71 R [] H0 [(Slot.mk i5 (NdC.cs x6) 72), (Slot.mk i7 (PlaceC.cs x8) 94), (Slot.mk i9 (ChangeC.cs x10) 105)] (L71t_0 d25 (lwrap .i64 (n0 + (1 : Int))) a1 l2 c3 n4) (loopAt cfg 71 0) H16))))))))))))
 ∧ ((decide (n0 < n4)) = false → (Inv [] H0 [(Slot.mk i5 (NdC.cs x6) 72), (Slot.mk i7 (PlaceC.cs x8) 94), (Slot.mk i9 (ChangeC.cs x10) 105)] H → R (.bool false) H)))) :
 GoesT cfg 71 R [] H0 [(Slot.mk i5 (NdC.cs x6) 72), (Slot.mk i7 (PlaceC.cs x8) 94), (Slot.mk i9 (ChangeC.cs x10) 105)] (L71t_0 d n0 a1 l2 c3 n4) (loopAt cfg 71 0) H :=
  seg_wt (k := (.go 5 (.cases 13 (.go 6 (.op (.tuple []) (.facts (.op (.cust NdC NdC.lv) (.boxP (.putP (.go 7 (.cases 19 (.go 9 (.facts (.call .bool (.go 2 (.cases 30 (.go 5 (.facts .ret)) (.go 8 (.stop [12, 4, 5, 10, 11] 3))))))) (.go 5 (.cases 24 (.go 4 (.facts (.call .bool (.go 2 (.cases 30 (.go 5 (.facts .ret)) (.go 8 (.stop [12, 4, 5, 10, 11] 3))))))) (.go 15 (.stop [12, 4, 5, 10, 11] 3)))))))))))) (.go 6 (.facts .ret))))) (by kernel_rfl) h
theorem e71t (R : LV → LHeap → Prop) (x0 : NdC) (x1 : PlaceC) (x2 : ChangeC) (H : LHeap)
 (h : (∀ (i3 : Nat) (H4 : LHeap), H.next ≤ i3 → PresX [] H H4 → (∀ (i5 : Nat) (H6 : LHeap), H4.next ≤ i5 → PresX [] H4 H6 → (∀ (i7 : Nat) (H8 : LHeap), H6.next ≤ i7 → PresX [] H6 H8 → (Inv [] H [(Slot.mk i3 (NdC.cs x0) 72), (Slot.mk i5 (PlaceC.cs x1) 94), (Slot.mk i7 (ChangeC.cs x2) 105)] H8 → ∃ S9 : LV → LHeap → Prop, CallL cfg 44 [(NdC.lv x0)] H8 S9 ∧ (∀ v H', S9 v H' → PresX [] H8 H' ∧ hasSh .slice v) ∧
  (∀ (a10 : Option LAddr), ∀ (l11 : Nat), ∀ (c12 : Cap), ∀ H13 : LHeap, S9 (.slice a10 l11 c12) H13 → (∀ d14 : Nat → LV, GoesT cfg 71 R [] H [(Slot.mk i3 (NdC.cs x0) 72), (Slot.mk i5 (PlaceC.cs x1) 94), (Slot.mk i7 (ChangeC.cs x2) 105)] (L71t_0 d14 (0 : Int) a10 l11 c12 ((l11 : Nat) : Int)) (loopAt cfg 71 0) H13))))))) :
 CallL cfg 71 [(NdC.lv x0), (PlaceC.lv x1), (ChangeC.lv x2)] H R :=
  call_wt0 (k := (.go 2 (.boxP (.boxP (.boxP (.go 6 (.facts (.call .slice (.go 5 (.stop [12, 4, 5, 10, 11] 3)))))))))) (by kernel_rfl) h
end Go.Proofs.YtjihhflffkoffaaGreatDoor.Z
