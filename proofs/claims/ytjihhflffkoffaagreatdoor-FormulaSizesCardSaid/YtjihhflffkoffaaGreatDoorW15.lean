/- Contracts of functions of the program; no condition. -/
import Derived.Test.YtjihhflffkoffaaGreatDoorZs
import Derived.Test.YtjihhflffkoffaaGreatDoorLe
set_option linter.unusedSimpArgs false
set_option linter.unusedVariables false
set_option linter.unusedSectionVars false
set_option linter.unnecessarySimpa false
namespace Go.Proofs.YtjihhflffkoffaaGreatDoor.Z
open Go Go.Lm
set_option maxRecDepth 1000000
set_option maxHeartbeats 0
theorem e255a (R : LV → LHeap → Prop) (x0 : ValC) (H : LHeap)
 (h : (∀ (i1 : Nat) (H2 : LHeap), H.next ≤ i1 → PresX [] H H2 → (((x0.kind != (2 : Int)) = true → (((!(x0.s == [])) = true → (Inv [] H [(Slot.mk i1 (ValC.cs x0) 67)] H2 → R (.bool false) H2))
 ∧ ((!(x0.s == [])) = false → (Inv [] H [(Slot.mk i1 (ValC.cs x0) 67)] H2 → ∃ S3 : LV → LHeap → Prop, CallL cfg 260 [(ValC.lv x0)] H2 S3 ∧ (∀ v H', S3 v H' → PresX [] H2 H' ∧ hasSh (.cust (Unit) (fun (_ : Unit) => (.iface 297 (.agg []) : LV))) v) ∧
  (∀ (y4 : Unit), ∀ H5 : LHeap, S3 (.iface 297 (.agg [])) H5 → (∀ (i6 : Nat) (H7 : LHeap), H5.next ≤ i6 → PresX [] H5 H7 → (∀ H8 : LHeap, PresX [i6] H7 H8 → (Inv [] H [(Slot.mk i1 (ValC.cs x0) 67), (Slot.mk i6 [] 297)] H8 → R (.bool (x0.n == (0 : Int))) H8))))))))
 ∧ ((x0.kind != (2 : Int)) = false → (Inv [] H [(Slot.mk i1 (ValC.cs x0) 67)] H2 → ∃ S9 : LV → LHeap → Prop, CallL cfg 260 [(ValC.lv x0)] H2 S9 ∧ (∀ v H', S9 v H' → PresX [] H2 H' ∧ hasSh (.cust (Unit) (fun (_ : Unit) => (.iface 297 (.agg []) : LV))) v) ∧
  (∀ (y10 : Unit), ∀ H11 : LHeap, S9 (.iface 297 (.agg [])) H11 → (∀ (i12 : Nat) (H13 : LHeap), H11.next ≤ i12 → PresX [] H11 H13 → (∀ H14 : LHeap, PresX [i12] H13 H14 → (Inv [] H [(Slot.mk i1 (ValC.cs x0) 67), (Slot.mk i12 [] 297)] H14 → R (.bool (x0.n == (0 : Int))) H14))))))))) :
 CallL cfg 255 [(ValC.lv x0)] H R :=
  call_wt0 (k := (.go 2 (.boxP (.go 9 (.cases 11 (.go 5 (.cases 15 (.go 5 (.facts .ret)) (.go 6 (.facts (.call (.cust (Unit) (fun (_ : Unit) => (.iface 297 (.agg []) : LV))) (.go 11 (.boxP (.putP (.go 8 (.facts .ret)))))))))) (.go 11 (.facts (.call (.cust (Unit) (fun (_ : Unit) => (.iface 297 (.agg []) : LV))) (.go 11 (.boxP (.putP (.go 8 (.facts .ret))))))))))))) (by kernel_rfl) h
theorem e255b (R : LV → LHeap → Prop) (x0 : ValC) (H : LHeap)
 (h : (∀ (i1 : Nat) (H2 : LHeap), H.next ≤ i1 → PresX [] H H2 → (((x0.kind != (2 : Int)) = true → (((!(x0.s == [])) = true → (Inv [] H [(Slot.mk i1 (ValC.cs x0) 67)] H2 → R (.bool false) H2))
 ∧ ((!(x0.s == [])) = false → (Inv [] H [(Slot.mk i1 (ValC.cs x0) 67)] H2 → ∃ S3 : LV → LHeap → Prop, CallL cfg 260 [(ValC.lv x0)] H2 S3 ∧ (∀ v H', S3 v H' → PresX [] H2 H' ∧ hasSh (.cust (Int) (fun (n : Int) => (.iface 280 (.int .i64 n) : LV))) v) ∧
  (∀ (y4 : Int), ∀ H5 : LHeap, S3 (.iface 280 (.int .i64 y4)) H5 → (Inv [] H [(Slot.mk i1 (ValC.cs x0) 67)] H5 → ∃ S6 : LV → LHeap → Prop, CallL cfg 294 [(.int .i64 y4)] H5 S6 ∧ (∀ v H', S6 v H' → PresX [] H5 H' ∧ hasSh .bool v) ∧
  (∀ (b7 : Bool), ∀ H8 : LHeap, S6 (.bool b7) H8 → (Inv [] H [(Slot.mk i1 (ValC.cs x0) 67)] H8 → R (.bool b7) H8))))))))
 ∧ ((x0.kind != (2 : Int)) = false → (Inv [] H [(Slot.mk i1 (ValC.cs x0) 67)] H2 → ∃ S9 : LV → LHeap → Prop, CallL cfg 260 [(ValC.lv x0)] H2 S9 ∧ (∀ v H', S9 v H' → PresX [] H2 H' ∧ hasSh (.cust (Int) (fun (n : Int) => (.iface 280 (.int .i64 n) : LV))) v) ∧
  (∀ (y10 : Int), ∀ H11 : LHeap, S9 (.iface 280 (.int .i64 y10)) H11 → (Inv [] H [(Slot.mk i1 (ValC.cs x0) 67)] H11 → ∃ S12 : LV → LHeap → Prop, CallL cfg 294 [(.int .i64 y10)] H11 S12 ∧ (∀ v H', S12 v H' → PresX [] H11 H' ∧ hasSh .bool v) ∧
  (∀ (b13 : Bool), ∀ H14 : LHeap, S12 (.bool b13) H14 → (Inv [] H [(Slot.mk i1 (ValC.cs x0) 67)] H14 → R (.bool b13) H14))))))))) :
 CallL cfg 255 [(ValC.lv x0)] H R :=
  call_wt0 (k := (.go 2 (.boxP (.go 9 (.cases 11 (.go 5 (.cases 15 (.go 5 (.facts .ret)) (.go 6 (.facts (.call (.cust (Int) (fun (n : Int) => (.iface 280 (.int .i64 n) : LV))) (.go 23 (.facts (.call .bool (.go 2 (.facts .ret)))))))))) (.go 11 (.facts (.call (.cust (Int) (fun (n : Int) => (.iface 280 (.int .i64 n) : LV))) (.go 23 (.facts (.call .bool (.go 2 (.facts .ret))))))))))))) (by kernel_rfl) h
theorem e255c (R : LV → LHeap → Prop) (x0 : ValC) (H : LHeap)
 (h : (∀ (i1 : Nat) (H2 : LHeap), H.next ≤ i1 → PresX [] H H2 → (((x0.kind != (2 : Int)) = true → (((!(x0.s == [])) = true → (Inv [] H [(Slot.mk i1 (ValC.cs x0) 67)] H2 → R (.bool false) H2))
 ∧ ((!(x0.s == [])) = false → (Inv [] H [(Slot.mk i1 (ValC.cs x0) 67)] H2 → ∃ S3 : LV → LHeap → Prop, CallL cfg 260 [(ValC.lv x0)] H2 S3 ∧ (∀ v H', S3 v H' → PresX [] H2 H' ∧ hasSh (.cust ((List UInt8)) (fun (s : List UInt8) => (.iface 281 (.str s) : LV))) v) ∧
  (∀ (y4 : (List UInt8)), ∀ H5 : LHeap, S3 (.iface 281 (.str y4)) H5 → (((x0.n == (0 : Int)) = true → (Inv [] H [(Slot.mk i1 (ValC.cs x0) 67)] H5 → R (.bool (decide ((((y4).length : Nat) : Int) ≤ 255))) H5))
 ∧ ((x0.n == (0 : Int)) = false → (Inv [] H [(Slot.mk i1 (ValC.cs x0) 67)] H5 → R (.bool false) H5))))))))
 ∧ ((x0.kind != (2 : Int)) = false → (Inv [] H [(Slot.mk i1 (ValC.cs x0) 67)] H2 → ∃ S6 : LV → LHeap → Prop, CallL cfg 260 [(ValC.lv x0)] H2 S6 ∧ (∀ v H', S6 v H' → PresX [] H2 H' ∧ hasSh (.cust ((List UInt8)) (fun (s : List UInt8) => (.iface 281 (.str s) : LV))) v) ∧
  (∀ (y7 : (List UInt8)), ∀ H8 : LHeap, S6 (.iface 281 (.str y7)) H8 → (((x0.n == (0 : Int)) = true → (Inv [] H [(Slot.mk i1 (ValC.cs x0) 67)] H8 → R (.bool (decide ((((y7).length : Nat) : Int) ≤ 255))) H8))
 ∧ ((x0.n == (0 : Int)) = false → (Inv [] H [(Slot.mk i1 (ValC.cs x0) 67)] H8 → R (.bool false) H8))))))))) :
 CallL cfg 255 [(ValC.lv x0)] H R :=
  call_wt0 (k := (.go 2 (.boxP (.go 9 (.cases 11 (.go 5 (.cases 15 (.go 5 (.facts .ret)) (.go 6 (.facts (.call (.cust ((List UInt8)) (fun (s : List UInt8) => (.iface 281 (.str s) : LV))) (.go 33 (.cases 35 (.go 6 (.facts .ret)) (.go 6 (.facts .ret))))))))) (.go 11 (.facts (.call (.cust ((List UInt8)) (fun (s : List UInt8) => (.iface 281 (.str s) : LV))) (.go 33 (.cases 35 (.go 6 (.facts .ret)) (.go 6 (.facts .ret)))))))))))) (by kernel_rfl) h
theorem e255d (R : LV → LHeap → Prop) (x0 : ValC) (H : LHeap)
 (h : (∀ (i1 : Nat) (H2 : LHeap), H.next ≤ i1 → PresX [] H H2 → (((x0.kind != (2 : Int)) = true → (((!(x0.s == [])) = true → (Inv [] H [(Slot.mk i1 (ValC.cs x0) 67)] H2 → R (.bool false) H2))
 ∧ ((!(x0.s == [])) = false → (Inv [] H [(Slot.mk i1 (ValC.cs x0) 67)] H2 → ∃ S3 : LV → LHeap → Prop, CallL cfg 260 [(ValC.lv x0)] H2 S3 ∧ (∀ v H', S3 v H' → PresX [] H2 H' ∧ hasSh (.cust (Bool) (fun (b : Bool) => (.iface 282 (.bool b) : LV))) v) ∧
  (∀ (y4 : Bool), ∀ H5 : LHeap, S3 (.iface 282 (.bool y4)) H5 → (((x0.n == (0 : Int)) = true → (Inv [] H [(Slot.mk i1 (ValC.cs x0) 67)] H5 → R (.bool true) H5))
 ∧ ((x0.n == (0 : Int)) = false → (Inv [] H [(Slot.mk i1 (ValC.cs x0) 67)] H5 → R (.bool (x0.n == (1 : Int))) H5))))))))
 ∧ ((x0.kind != (2 : Int)) = false → (Inv [] H [(Slot.mk i1 (ValC.cs x0) 67)] H2 → ∃ S6 : LV → LHeap → Prop, CallL cfg 260 [(ValC.lv x0)] H2 S6 ∧ (∀ v H', S6 v H' → PresX [] H2 H' ∧ hasSh (.cust (Bool) (fun (b : Bool) => (.iface 282 (.bool b) : LV))) v) ∧
  (∀ (y7 : Bool), ∀ H8 : LHeap, S6 (.iface 282 (.bool y7)) H8 → (((x0.n == (0 : Int)) = true → (Inv [] H [(Slot.mk i1 (ValC.cs x0) 67)] H8 → R (.bool true) H8))
 ∧ ((x0.n == (0 : Int)) = false → (Inv [] H [(Slot.mk i1 (ValC.cs x0) 67)] H8 → R (.bool (x0.n == (1 : Int))) H8))))))))) :
 CallL cfg 255 [(ValC.lv x0)] H R :=
  call_wt0 (k := (.go 2 (.boxP (.go 9 (.cases 11 (.go 5 (.cases 15 (.go 5 (.facts .ret)) (.go 6 (.facts (.call (.cust (Bool) (fun (b : Bool) => (.iface 282 (.bool b) : LV))) (.go 40 (.cases 46 (.go 6 (.facts .ret)) (.go 6 (.facts .ret))))))))) (.go 11 (.facts (.call (.cust (Bool) (fun (b : Bool) => (.iface 282 (.bool b) : LV))) (.go 40 (.cases 46 (.go 6 (.facts .ret)) (.go 6 (.facts .ret)))))))))))) (by kernel_rfl) h
theorem e255e (R : LV → LHeap → Prop) (x0 : ValC) (H : LHeap)
 (h : (∀ (i1 : Nat) (H2 : LHeap), H.next ≤ i1 → PresX [] H H2 → (((x0.kind != (2 : Int)) = true → (((!(x0.s == [])) = true → (Inv [] H [(Slot.mk i1 (ValC.cs x0) 67)] H2 → R (.bool false) H2))
 ∧ ((!(x0.s == [])) = false → (Inv [] H [(Slot.mk i1 (ValC.cs x0) 67)] H2 → ∃ S3 : LV → LHeap → Prop, CallL cfg 260 [(ValC.lv x0)] H2 S3 ∧ (∀ v H', S3 v H' → PresX [] H2 H' ∧ hasSh (.cust (Int) (fun (n : Int) => (.iface 283 (.int .i64 n) : LV))) v) ∧
  (∀ (y4 : Int), ∀ H5 : LHeap, S3 (.iface 283 (.int .i64 y4)) H5 → (((decide (y4 ≥ 1)) = true → (Inv [] H [(Slot.mk i1 (ValC.cs x0) 67)] H5 → R (.bool (decide (y4 ≤ 8))) H5))
 ∧ ((decide (y4 ≥ 1)) = false → (Inv [] H [(Slot.mk i1 (ValC.cs x0) 67)] H5 → R (.bool false) H5))))))))
 ∧ ((x0.kind != (2 : Int)) = false → (Inv [] H [(Slot.mk i1 (ValC.cs x0) 67)] H2 → ∃ S6 : LV → LHeap → Prop, CallL cfg 260 [(ValC.lv x0)] H2 S6 ∧ (∀ v H', S6 v H' → PresX [] H2 H' ∧ hasSh (.cust (Int) (fun (n : Int) => (.iface 283 (.int .i64 n) : LV))) v) ∧
  (∀ (y7 : Int), ∀ H8 : LHeap, S6 (.iface 283 (.int .i64 y7)) H8 → (((decide (y7 ≥ 1)) = true → (Inv [] H [(Slot.mk i1 (ValC.cs x0) 67)] H8 → R (.bool (decide (y7 ≤ 8))) H8))
 ∧ ((decide (y7 ≥ 1)) = false → (Inv [] H [(Slot.mk i1 (ValC.cs x0) 67)] H8 → R (.bool false) H8))))))))) :
 CallL cfg 255 [(ValC.lv x0)] H R :=
  call_wt0 (k := (.go 2 (.boxP (.go 9 (.cases 11 (.go 5 (.cases 15 (.go 5 (.facts .ret)) (.go 6 (.facts (.call (.cust (Int) (fun (n : Int) => (.iface 283 (.int .i64 n) : LV))) (.go 46 (.cases 56 (.go 5 (.facts .ret)) (.go 5 (.facts .ret))))))))) (.go 11 (.facts (.call (.cust (Int) (fun (n : Int) => (.iface 283 (.int .i64 n) : LV))) (.go 46 (.cases 56 (.go 5 (.facts .ret)) (.go 5 (.facts .ret)))))))))))) (by kernel_rfl) h
theorem e255f (R : LV → LHeap → Prop) (x0 : ValC) (H : LHeap)
 (h : (∀ (i1 : Nat) (H2 : LHeap), H.next ≤ i1 → PresX [] H H2 → (((x0.kind != (2 : Int)) = true → (((!(x0.s == [])) = true → (Inv [] H [(Slot.mk i1 (ValC.cs x0) 67)] H2 → R (.bool false) H2))
 ∧ ((!(x0.s == [])) = false → (Inv [] H [(Slot.mk i1 (ValC.cs x0) 67)] H2 → ∃ S3 : LV → LHeap → Prop, CallL cfg 260 [(ValC.lv x0)] H2 S3 ∧ (∀ v H', S3 v H' → PresX [] H2 H' ∧ hasSh (.cust (Unit) (fun (_ : Unit) => (.nilIface : LV))) v) ∧
  (∀ (y4 : Unit), ∀ H5 : LHeap, S3 LV.nilIface H5 → (Inv [] H [(Slot.mk i1 (ValC.cs x0) 67)] H5 → R (.bool false) H5))))))
 ∧ ((x0.kind != (2 : Int)) = false → (Inv [] H [(Slot.mk i1 (ValC.cs x0) 67)] H2 → ∃ S6 : LV → LHeap → Prop, CallL cfg 260 [(ValC.lv x0)] H2 S6 ∧ (∀ v H', S6 v H' → PresX [] H2 H' ∧ hasSh (.cust (Unit) (fun (_ : Unit) => (.nilIface : LV))) v) ∧
  (∀ (y7 : Unit), ∀ H8 : LHeap, S6 LV.nilIface H8 → (Inv [] H [(Slot.mk i1 (ValC.cs x0) 67)] H8 → R (.bool false) H8))))))) :
 CallL cfg 255 [(ValC.lv x0)] H R :=
  call_wt0 (k := (.go 2 (.boxP (.go 9 (.cases 11 (.go 5 (.cases 15 (.go 5 (.facts .ret)) (.go 6 (.facts (.call (.cust (Unit) (fun (_ : Unit) => (.nilIface : LV))) (.go 43 (.facts .ret))))))) (.go 11 (.facts (.call (.cust (Unit) (fun (_ : Unit) => (.nilIface : LV))) (.go 43 (.facts .ret)))))))))) (by kernel_rfl) h
end Go.Proofs.YtjihhflffkoffaaGreatDoor.Z
