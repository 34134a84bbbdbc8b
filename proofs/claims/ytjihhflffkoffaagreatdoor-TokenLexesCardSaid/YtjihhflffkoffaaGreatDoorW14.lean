/- Contracts of functions of the program; no condition. -/
import Derived.Test.YtjihhflffkoffaaGreatDoorZs
import Derived.Test.YtjihhflffkoffaaGreatDoorLe
set_option linter.unusedSimpArgs false
set_option linter.unusedVariables false
set_option linter.unusedSectionVars false
set_option linter.unnecessarySimpa false
namespace Go.Proofs.YtjihhflffkoffaaGreatDoor.Z
open Go Go.Lm
set_option maxRecDepth 1000000
set_option maxHeartbeats 0
def L90t_0 (d : Nat → LV) (n0 : Int) (n1 : Int) (s2 : List UInt8) (n3 : Int) : List SV := [(.lv (.str s2)), (.lv (d 1)), (.lv (d 2)), (.lv (.int .i64 n1)), (.lv (d 4)), (.lv (d 5)), (.lv (d 6)), (.lv (d 7)), (.lv (d 8)), (.lv (d 9)), (.lv (d 10)), (.lv (d 11)), (.lv (d 12)), (.lv (d 13)), (.lv (d 14)), (.lv (d 15)), (.lv (d 16)), (.lv (d 17)), (.lv (d 18)), (.lv (d 19)), (.lv (.int .i64 n3)), (.lv (.int .i64 n0)), (.lv (d 22)), (.lv (d 23)), (.lv (d 24)), (.lv (d 25)), (.lv (d 26)), (.lv (d 27)), (.lv (d 28)), (.lv (d 29)), (.lv (d 30)), (.lv (d 31)), (.lv (d 32)), (.lv (d 33)), (.lv (d 34)), (.lv (d 35)), (.lv (d 36)), (.lv (d 37)), (.lv (d 38)), (.lv (d 39)), (.lv (d 40)), (.lv (d 41)), (.lv (d 42)), (.lv (d 43)), (.lv (d 44)), (.lv (d 45)), (.lv (d 46)), (.lv (d 47)), (.lv (d 48)), (.lv (d 49)), (.lv (d 50)), (.lv (d 51)), (.lv (d 52)), (.lv (d 53)), (.lv (d 54)), (.lv (d 55)), (.lv (d 56)), (.lv (d 57)), (.lv (d 58)), (.lv (d 59)), (.lv (d 60)), (.lv (d 61)), (.lv (d 62))]
theorem g90t_0 (R : LV → LHeap → Prop) (H0 : LHeap) (d : Nat → LV) (n0 : Int) (n1 : Int) (s2 : List UInt8) (n3 : Int)  (H : LHeap)
 (h : (((decide (n0 < n3)) = true → ((((0 : Int) ≤ n0) ∧ (n0 < (s2.length : Int))) ∧ (Inv [] H0 [] H → ∃ S5, CallL cfg 174 [(.int .u8 (byteAt s2 n0))] H S5 ∧ (∀ v H', S5 v H' → PresX [] H H' ∧ hasSh .bool v) ∧
  (∀ (b6 : Bool), ∀ H7, S5 (.bool b6) H7 → ((b6 = true → (∀ d8 : Nat → LV, GoesT cfg 90 R [] H0 [] (L90t_0 d8 (lwrap .i64 (n0 + (1 : Int))) (lwrap .i64 (n1 + (1 : Int))) s2 n3) (loopAt cfg 90 0) H7))
 ∧ (b6 = false → ((((0 : Int) ≤ n0) ∧ (n0 < (s2.length : Int))) ∧ (Inv [] H0 [] H7 → ∃ S10, CallL cfg 173 [(.int .u8 (byteAt s2 n0))] H7 S10 ∧ (∀ v H', S10 v H' → PresX [] H7 H' ∧ hasSh .bool v) ∧
  (∀ (b11 : Bool), ∀ H12, S10 (.bool b11) H12 → (((!b11) = true → ((((0 : Int) ≤ n0) ∧ (n0 < (s2.length : Int))) ∧ ((((byteAt s2 n0) != (95 : Int)) = true → (Inv [] H0 [] H12 → R (.bool false) H12))
 ∧ (((byteAt s2 n0) != (95 : Int)) = false → (∀ d14 : Nat → LV, GoesT cfg 90 R [] H0 [] (L90t_0 d14 (lwrap .i64 (n0 + (1 : Int))) n1 s2 n3) (loopAt cfg 90 0) H12)))))
 ∧ ((!b11) = false → (∀ d15 : Nat → LV, GoesT cfg 90 R [] H0 [] (L90t_0 d15 (lwrap .i64 (n0 + (1 : Int))) n1 s2 n3) (loopAt cfg 90 0) H12))))))))))))
 ∧ ((decide (n0 < n3)) = false → (Inv [] H0 [] H → ∃ S16, CallL cfg 175 [(.str s2)] H S16 ∧ (∀ v H', S16 v H' → PresX [] H H' ∧ hasSh .str v) ∧
  (∀ (s17 : List UInt8), ∀ H18, S16 (.str s17) H18 → (((!(s17 == [84, 82, 85, 69])) = true → (((!(s17 == [70, 65, 76, 83, 69])) = true → (((n1 == (0 : Int)) = true → (Inv [] H0 [] H18 → R (.bool true) H18))
 ∧ ((n1 == (0 : Int)) = false → (Inv [] H0 [] H18 → R (.bool (decide (n1 < (lwrap .i64 ((s2.length : Int) - (1 : Int)))))) H18))))
 ∧ ((!(s17 == [70, 65, 76, 83, 69])) = false → (Inv [] H0 [] H18 → R (.bool false) H18))))
 ∧ ((!(s17 == [84, 82, 85, 69])) = false → (Inv [] H0 [] H18 → R (.bool false) H18)))))))) :
 GoesT cfg 90 R [] H0 [] (L90t_0 d n0 n1 s2 n3) (loopAt cfg 90 0) H :=
  seg_wt (k := (.go 5 (.cases 22 (.go 14 (.op (.int .u8) (.facts (.call .bool (.go 2 (.cases 24 (.go 13 (.stop [21, 3, 0, 20] 0)) (.go 5 (.op (.int .u8) (.facts (.call .bool (.go 2 (.cases 37 (.go 2 (.op (.int .u8) (.go 4 (.cases 31 (.go 5 (.facts .ret)) (.go 9 (.stop [21, 3, 0, 20] 0)))))) (.go 16 (.stop [21, 3, 0, 20] 0)))))))))))))) (.go 5 (.facts (.call .str (.go 7 (.cases 48 (.go 4 (.cases 52 (.go 3 (.cases 55 (.go 9 (.facts .ret)) (.go 9 (.facts .ret)))) (.go 12 (.facts .ret)))) (.go 16 (.facts .ret)))))))))) (by kernel_rfl) h
theorem e90t (R : LV → LHeap → Prop) (s0 : List UInt8) (H : LHeap)
 (h : (((s0 == []) = true → (Inv [] H [] H → R (.bool false) H))
 ∧ ((s0 == []) = false → (((decide ((s0.length : Int) > 16)) = true → (Inv [] H [] H → R (.bool false) H))
 ∧ ((decide ((s0.length : Int) > 16)) = false → ((((0 : Int) ≤ (0 : Int)) ∧ ((0 : Int) < (s0.length : Int))) ∧ (Inv [] H [] H → ∃ S2, CallL cfg 173 [(.int .u8 (byteAt s0 (0 : Int)))] H S2 ∧ (∀ v H', S2 v H' → PresX [] H H' ∧ hasSh .bool v) ∧
  (∀ (b3 : Bool), ∀ H4, S2 (.bool b3) H4 → (((!b3) = true → (Inv [] H [] H4 → R (.bool false) H4))
 ∧ ((!b3) = false → (∀ d5 : Nat → LV, GoesT cfg 90 R [] H [] (L90t_0 d5 (0 : Int) (0 : Int) s0 (s0.length : Int)) (loopAt cfg 90 0) H4))))))))))) :
 CallL cfg 90 [(.str s0)] H R :=
  call_wt0 (k := (.go 10 (.cases 8 (.go 16 (.facts .ret)) (.go 5 (.cases 13 (.go 11 (.facts .ret)) (.go 1 (.op (.int .u8) (.facts (.call .bool (.go 3 (.cases 18 (.go 5 (.facts .ret)) (.go 15 (.stop [21, 3, 0, 20] 0))))))))))))) (by kernel_rfl) h
theorem e281t (R : LV → LHeap → Prop) (n0 : Int) (n1 : Int) (H : LHeap)
 (h : (((decide (n0 ≥ 1)) = true → (((decide (n0 ≤ 64)) = true → (((decide (n1 ≥ 1)) = true → (Inv [] H [] H → R (.bool (decide (n1 ≤ 26))) H))
 ∧ ((decide (n1 ≥ 1)) = false → (Inv [] H [] H → R (.bool false) H))))
 ∧ ((decide (n0 ≤ 64)) = false → (Inv [] H [] H → R (.bool false) H))))
 ∧ ((decide (n0 ≥ 1)) = false → (Inv [] H [] H → R (.bool false) H)))) :
 CallL cfg 281 [(.int .i64 n0), (.int .i64 n1)] H R :=
  call_wt0 (k := (.go 9 (.cases 7 (.go 4 (.cases 11 (.go 4 (.cases 15 (.go 5 (.facts .ret)) (.go 5 (.facts .ret)))) (.go 9 (.facts .ret)))) (.go 13 (.facts .ret))))) (by kernel_rfl) h
theorem e173t (R : LV → LHeap → Prop) (n0 : Int) (H : LHeap)
 (h : (((decide (n0 ≥ 97)) = true → (((decide (n0 ≤ 122)) = true → (Inv [] H [] H → R (.bool true) H))
 ∧ ((decide (n0 ≤ 122)) = false → (((decide (n0 ≥ 65)) = true → (Inv [] H [] H → R (.bool (decide (n0 ≤ 90))) H))
 ∧ ((decide (n0 ≥ 65)) = false → (Inv [] H [] H → R (.bool false) H))))))
 ∧ ((decide (n0 ≥ 97)) = false → (((decide (n0 ≥ 65)) = true → (Inv [] H [] H → R (.bool (decide (n0 ≤ 90))) H))
 ∧ ((decide (n0 ≥ 65)) = false → (Inv [] H [] H → R (.bool false) H)))))) :
 CallL cfg 173 [(.int .u8 n0)] H R :=
  call_wt0 (k := (.go 9 (.cases 5 (.go 4 (.cases 9 (.go 9 (.facts .ret)) (.go 3 (.cases 12 (.go 6 (.facts .ret)) (.go 6 (.facts .ret)))))) (.go 7 (.cases 12 (.go 6 (.facts .ret)) (.go 6 (.facts .ret))))))) (by kernel_rfl) h
theorem e174t (R : LV → LHeap → Prop) (n0 : Int) (H : LHeap)
 (h : (((decide (n0 ≥ 48)) = true → (Inv [] H [] H → R (.bool (decide (n0 ≤ 57))) H))
 ∧ ((decide (n0 ≥ 48)) = false → (Inv [] H [] H → R (.bool false) H)))) :
 CallL cfg 174 [(.int .u8 n0)] H R :=
  call_wt0 (k := (.go 9 (.cases 5 (.go 5 (.facts .ret)) (.go 5 (.facts .ret))))) (by kernel_rfl) h
theorem e175t (R : LV → LHeap → Prop) (s0 : List UInt8) (H : LHeap)
 (h : (Inv [] H [] H → ∃ S1, CallL cfg 249 [(.str s0), (.func (Fn.func 250) [] [])] H S1 ∧ (∀ v H', S1 v H' → PresX [] H H' ∧ hasSh .str v) ∧
  (∀ (s2 : List UInt8), ∀ H3, S1 (.str s2) H3 → (Inv [] H [] H3 → R (.str s2) H3)))) :
 CallL cfg 175 [(.str s0)] H R :=
  call_wt0 (k := (.go 7 (.facts (.call .str (.go 2 (.facts .ret)))))) (by kernel_rfl) h
theorem e250t (R : LV → LHeap → Prop) (n0 : Int) (H : LHeap)
 (h : (((decide (n0 ≥ 97)) = true → (((decide (n0 ≤ 122)) = true → (Inv [] H [] H → R (.int .u8 (lwrap .u8 ((lwrap .u8 (n0 - (97 : Int))) + (65 : Int)))) H))
 ∧ ((decide (n0 ≤ 122)) = false → (Inv [] H [] H → R (.int .u8 n0) H))))
 ∧ ((decide (n0 ≥ 97)) = false → (Inv [] H [] H → R (.int .u8 n0) H)))) :
 CallL cfg 250 [(.int .u8 n0)] H R :=
  call_wt0 (k := (.go 10 (.cases 5 (.go 4 (.cases 8 (.go 8 (.facts .ret)) (.go 7 (.facts .ret)))) (.go 11 (.facts .ret))))) (by kernel_rfl) h
def L249t_0 (d : Nat → LV) (n0 : Int) (a1 : Option LAddr) (l2 : Nat) (c3 : Cap) (n4 : Int) : List SV := [(.lv (d 0)), (.lv (.func (Fn.func 250) [] [])), (.lv (d 2)), (.lv (d 3)), (.lv (d 4)), (.lv (.slice a1 l2 c3)), (.lv (d 6)), (.lv (d 7)), (.lv (d 8)), (.lv (d 9)), (.lv (.int .i64 n4)), (.lv (.int .i64 n0)), (.lv (d 12)), (.lv (d 13)), (.lv (d 14)), (.lv (d 15)), (.lv (d 16)), (.lv (d 17)), (.lv (d 18)), (.lv (d 19)), (.lv (d 20)), (.lv (d 21)), (.lv (d 22)), (.lv (d 23)), (.lv (d 24)), (.lv (d 25))]
theorem g249t_0 (R : LV → LHeap → Prop) (H0 : LHeap) (d : Nat → LV) (n0 : Int) (a1 : Option LAddr) (l2 : Nat) (c3 : Cap) (n4 : Int)  (H : LHeap)
 (h : (((decide (n0 < n4)) = true → ((((0 : Int) ≤ n0) ∧ ((n0 < ((l2 : Nat) : Int)) ∧ ((Option.isSome a1) = true))) ∧ (Inv [] H0 [] H → (∃ n7 : Int, ((loadT (cfg).P H 5 (LAddr.mk (LAddr.id (adr a1)) (LAddr.ver (adr a1)) ((LAddr.off (adr a1)) + ((Int.toNat n0) * 1))) = some (.int .u8 n7)) ∧ (Inv [] H0 [] H → ∃ S8, CallL cfg 250 [(.int .u8 n7)] H S8 ∧ (∀ v H', S8 v H' → PresX [] H H' ∧ hasSh (.int .u8) v) ∧
  (∀ (n9 : Int), ∀ H10, S8 (.int .u8 n9) H10 → ((((0 : Int) ≤ n0) ∧ ((n0 < ((l2 : Nat) : Int)) ∧ ((Option.isSome a1) = true))) ∧ (Inv [] H0 [] H10 → ∃ H12 : LHeap, (storeT cfg.P H10 5 (LAddr.mk (LAddr.id (adr a1)) (LAddr.ver (adr a1)) ((LAddr.off (adr a1)) + ((Int.toNat n0) * 1))) (.int .u8 n9) = some H12 ∧ okId [] H0 [] (LAddr.id (adr a1))) ∧ (∀ d13 : Nat → LV, GoesT cfg 249 R [] H0 [] (L249t_0 d13 (lwrap .i64 (n0 + (1 : Int))) a1 l2 c3 n4) (loopAt cfg 249 0) H12))))))))))
 ∧ ((decide (n0 < n4)) = false → (Inv [] H0 [] H → (∃ s15 : (List UInt8), (∃ H16 : LHeap, (((convertL (cfg).P H 155 9 (.slice a1 l2 c3)) = (some (Prod.mk (.str s15) H16))) ∧ (Inv [] H0 [] H → R (.str s15) H)))))))) :
 GoesT cfg 249 R [] H0 [] (L249t_0 d n0 a1 l2 c3 n4) (loopAt cfg 249 0) H :=
  seg_wt (k := (.go 5 (.cases 12 (.go 15 (.op (.tuple []) (.facts (.op (.int .u8) (.facts (.call (.int .u8) (.op (.tuple []) (.facts (.store (.go 7 (.stop [11, 5, 1, 10] 0))))))))))) (.go 5 (.facts (.op .str (.go 2 (.facts .ret)))))))) (by kernel_rfl) h
theorem e249t (R : LV → LHeap → Prop) (s : (List UInt8)) (H : LHeap)
 (h : (Inv [] H [] H → ∃ (a0 : Option LAddr), ∃ (l1 : Nat), ∃ (c2 : Cap), ∃ (Y : List Nat) (H3 : LHeap), (opL cfg (fun (x : Go.Operand) => (denF [] (evalS cfg [(.lv (.str s)), (.lv (.func (Fn.func 250) [] [])), (.lv (.tuple [])), (.lv (.tuple [])), (.lv (.str [])), (.lv (.tuple [])), (.lv (.tuple [])), (.lv (.str s)), (.lv (.tuple [])), (.lv (.tuple [])), (.lv (.tuple [])), (.lv (.tuple [])), (.lv (.tuple [])), (.lv (.tuple [])), (.lv (.tuple [])), (.lv (.tuple [])), (.lv (.tuple [])), (.lv (.tuple [])), (.lv (.tuple [])), (.lv (.tuple [])), (.lv (.tuple [])), (.lv (.tuple [])), (.lv (.tuple [])), (.lv (.tuple [])), (.lv (.tuple [])), (.lv (.tuple []))] x))) H (Oper.mk (some 8) (Op.convert 9 155 (Operand.tmp 7)) 155 "value.go:104" (List.toArray [(Edge.mk 0 Go.Ground.data)]) none) = some [(.value (.slice a0 l1 c2), H3)] ∧ PresX Y H H3 ∧ ∀ i ∈ Y, okId [] H [] i) ∧ (∀ d4 : Nat → LV, GoesT cfg 249 R [] H [] (L249t_0 d4 (0 : Int) a0 l1 c2 ((l1 : Nat) : Int)) (loopAt cfg 249 0) H3))) :
 CallL cfg 249 [(.str s), (.func (Fn.func 250) [] [])] H R :=
  call_wt0 (k := (.go 7 (.facts (.any .slice (.go 11 (.stop [11, 5, 1, 10] 0)))))) (by kernel_rfl) h
theorem e260t (R : LV → LHeap → Prop) (x0 : ValC) (H : LHeap)
 (h : (∀ (i1 : Nat) (H2 : LHeap), H.next ≤ i1 → PresX [] H H2 → (((x0.kind == (0 : Int)) = true → (Inv [] H [(Slot.mk i1 (ValC.cs x0) 67)] H2 → R (.iface 297 (.agg [])) H2))
 ∧ ((x0.kind == (0 : Int)) = false → (((x0.kind == (1 : Int)) = true → (Inv [] H [(Slot.mk i1 (ValC.cs x0) 67)] H2 → R (.iface 280 (.int .i64 x0.n)) H2))
 ∧ ((x0.kind == (1 : Int)) = false → (((x0.kind == (2 : Int)) = true → (Inv [] H [(Slot.mk i1 (ValC.cs x0) 67)] H2 → R (.iface 281 (.str x0.s)) H2))
 ∧ ((x0.kind == (2 : Int)) = false → (((x0.kind == (3 : Int)) = true → (Inv [] H [(Slot.mk i1 (ValC.cs x0) 67)] H2 → R (.iface 282 (.bool (x0.n != (0 : Int)))) H2))
 ∧ ((x0.kind == (3 : Int)) = false → (((x0.kind == (4 : Int)) = true → (Inv [] H [(Slot.mk i1 (ValC.cs x0) 67)] H2 → R (.iface 283 (.int .i64 x0.n)) H2))
 ∧ ((x0.kind == (4 : Int)) = false → (Inv [] H [(Slot.mk i1 (ValC.cs x0) 67)] H2 → R LV.nilIface H2))))))))))))) :
 CallL cfg 260 [(ValC.lv x0)] H R :=
  call_wt0 (k := (.go 2 (.boxP (.go 14 (.cases 5 (.go 7 (.facts .ret)) (.go 6 (.cases 9 (.go 8 (.facts .ret)) (.go 6 (.cases 14 (.go 8 (.facts .ret)) (.go 6 (.cases 19 (.go 9 (.facts .ret)) (.go 6 (.cases 25 (.go 8 (.facts .ret)) (.go 7 (.facts .ret))))))))))))))) (by kernel_rfl) h
theorem e294t (R : LV → LHeap → Prop) (n0 : Int) (H : LHeap)
 (h : (((decide (n0 ≥ (-100000000000))) = true → (Inv [] H [] H → R (.bool (decide (n0 ≤ 100000000000))) H))
 ∧ ((decide (n0 ≥ (-100000000000))) = false → (Inv [] H [] H → R (.bool false) H)))) :
 CallL cfg 294 [(.int .i64 n0)] H R :=
  call_wt0 (k := (.go 9 (.cases 5 (.go 5 (.facts .ret)) (.go 5 (.facts .ret))))) (by kernel_rfl) h
end Go.Proofs.YtjihhflffkoffaaGreatDoor.Z
