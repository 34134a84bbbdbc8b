/- Contracts of functions of the program; no condition. -/
import Derived.Test.YtjihhflffkoffaaGreatDoorZs
import Derived.Test.YtjihhflffkoffaaGreatDoorLe
set_option linter.unusedSimpArgs false
set_option linter.unusedVariables false
set_option linter.unusedSectionVars false
set_option linter.unnecessarySimpa false
namespace Go.Proofs.YtjihhflffkoffaaGreatDoor.Z
open Go Go.Lm
set_option maxRecDepth 1000000
set_option maxHeartbeats 0
theorem e285t (R : LV → LHeap → Prop) (n0 : Int) (n1 : Int) (H : LHeap)
 (h : (((decide (n0 ≥ 1)) = true → (((decide (n0 ≤ 64)) = true → (((decide (n1 ≥ 1)) = true → (Inv [] H [] H → R (.bool (decide (n1 ≤ 26))) H))
 ∧ ((decide (n1 ≥ 1)) = false → (Inv [] H [] H → R (.bool false) H))))
 ∧ ((decide (n0 ≤ 64)) = false → (Inv [] H [] H → R (.bool false) H))))
 ∧ ((decide (n0 ≥ 1)) = false → (Inv [] H [] H → R (.bool false) H)))) :
 CallL cfg 285 [(.int .i64 n0), (.int .i64 n1)] H R :=
  call_wt0 (k := (.go 9 (.cases 7 (.go 4 (.cases 11 (.go 4 (.cases 15 (.go 5 (.facts .ret)) (.go 5 (.facts .ret)))) (.go 9 (.facts .ret)))) (.go 13 (.facts .ret))))) (by kernel_rfl) h
def L97t_0 (d : Nat → LV) (n0 : Int) (b1 : Bool) (s2 : List UInt8) : List SV := [(.lv (.str s2)), (.lv (d 1)), (.lv (d 2)), (.lv (.bool b1)), (.lv (.int .i64 n0)), (.lv (d 5)), (.lv (d 6)), (.lv (d 7)), (.lv (d 8)), (.lv (d 9)), (.lv (d 10)), (.lv (d 11)), (.lv (d 12)), (.lv (d 13)), (.lv (d 14)), (.lv (d 15)), (.lv (d 16)), (.lv (d 17)), (.lv (d 18)), (.lv (d 19)), (.lv (d 20)), (.lv (d 21)), (.lv (d 22)), (.lv (d 23)), (.lv (d 24)), (.lv (d 25)), (.lv (d 26)), (.lv (d 27)), (.lv (d 28)), (.lv (d 29)), (.lv (d 30)), (.lv (d 31)), (.lv (d 32)), (.lv (d 33)), (.lv (d 34)), (.lv (d 35)), (.lv (d 36)), (.lv (d 37)), (.lv (d 38)), (.lv (d 39)), (.lv (d 40)), (.lv (d 41)), (.lv (d 42)), (.lv (d 43)), (.lv (d 44)), (.lv (d 45)), (.lv (d 46)), (.lv (d 47)), (.lv (d 48)), (.lv (d 49)), (.lv (d 50)), (.lv (d 51)), (.lv (d 52)), (.lv (d 53)), (.lv (d 54)), (.lv (d 55)), (.lv (d 56)), (.lv (d 57)), (.lv (d 58)), (.lv (d 59))]
theorem g97t_0 (R : LV → LHeap → Prop) (H0 : LHeap) (d : Nat → LV) (n0 : Int) (b1 : Bool) (s2 : List UInt8)  (H : LHeap)
 (h : (((decide (n0 < (s2.length : Int))) = true → ((((0 : Int) ≤ n0) ∧ (n0 < (s2.length : Int))) ∧ (Inv [] H0 [] H → ∃ S4, CallL cfg 157 [(.int .u8 (byteAt s2 n0))] H S4 ∧ (∀ v H', S4 v H' → PresX [] H H' ∧ hasSh .bool v) ∧
  (∀ (b5 : Bool), ∀ H6, S4 (.bool b5) H6 → (((!b5) = true → ((((0 : Int) ≤ n0) ∧ (n0 < (s2.length : Int))) ∧ (Inv [] H0 [] H6 → ∃ S8, CallL cfg 153 [(.int .u8 (byteAt s2 n0))] H6 S8 ∧ (∀ v H', S8 v H' → PresX [] H6 H' ∧ hasSh .bool v) ∧
  (∀ (b9 : Bool), ∀ H10, S8 (.bool b9) H10 → (((!b9) = true → ((((0 : Int) ≤ n0) ∧ (n0 < (s2.length : Int))) ∧ ((((byteAt s2 n0) != (95 : Int)) = true → (Inv [] H0 [] H10 → R (.bool false) H10))
 ∧ (((byteAt s2 n0) != (95 : Int)) = false → ((b1 = true → (∀ d12 : Nat → LV, GoesT cfg 97 R [] H0 [] (L97t_0 d12 (lwrap .i64 (n0 + (1 : Int))) true s2) (loopAt cfg 97 0) H10))
 ∧ (b1 = false → ((((0 : Int) ≤ n0) ∧ (n0 < (s2.length : Int))) ∧ (Inv [] H0 [] H10 → ∃ S14, CallL cfg 153 [(.int .u8 (byteAt s2 n0))] H10 S14 ∧ (∀ v H', S14 v H' → PresX [] H10 H' ∧ hasSh .bool v) ∧
  (∀ (b15 : Bool), ∀ H16, S14 (.bool b15) H16 → (∀ d17 : Nat → LV, GoesT cfg 97 R [] H0 [] (L97t_0 d17 (lwrap .i64 (n0 + (1 : Int))) (!b15) s2) (loopAt cfg 97 0) H16))))))))))
 ∧ ((!b9) = false → ((b1 = true → (∀ d18 : Nat → LV, GoesT cfg 97 R [] H0 [] (L97t_0 d18 (lwrap .i64 (n0 + (1 : Int))) true s2) (loopAt cfg 97 0) H10))
 ∧ (b1 = false → ((((0 : Int) ≤ n0) ∧ (n0 < (s2.length : Int))) ∧ (Inv [] H0 [] H10 → ∃ S20, CallL cfg 153 [(.int .u8 (byteAt s2 n0))] H10 S20 ∧ (∀ v H', S20 v H' → PresX [] H10 H' ∧ hasSh .bool v) ∧
  (∀ (b21 : Bool), ∀ H22, S20 (.bool b21) H22 → (∀ d23 : Nat → LV, GoesT cfg 97 R [] H0 [] (L97t_0 d23 (lwrap .i64 (n0 + (1 : Int))) (!b21) s2) (loopAt cfg 97 0) H22))))))))))))
 ∧ ((!b5) = false → ((b1 = true → (∀ d24 : Nat → LV, GoesT cfg 97 R [] H0 [] (L97t_0 d24 (lwrap .i64 (n0 + (1 : Int))) true s2) (loopAt cfg 97 0) H6))
 ∧ (b1 = false → ((((0 : Int) ≤ n0) ∧ (n0 < (s2.length : Int))) ∧ (Inv [] H0 [] H6 → ∃ S26, CallL cfg 153 [(.int .u8 (byteAt s2 n0))] H6 S26 ∧ (∀ v H', S26 v H' → PresX [] H6 H' ∧ hasSh .bool v) ∧
  (∀ (b27 : Bool), ∀ H28, S26 (.bool b27) H28 → (∀ d29 : Nat → LV, GoesT cfg 97 R [] H0 [] (L97t_0 d29 (lwrap .i64 (n0 + (1 : Int))) (!b27) s2) (loopAt cfg 97 0) H28))))))))))))
 ∧ ((decide (n0 < (s2.length : Int))) = false → (Inv [] H0 [] H → R (.bool b1) H)))) :
 GoesT cfg 97 R [] H0 [] (L97t_0 d n0 b1 s2) (loopAt cfg 97 0) H :=
  seg_wt (k := (.go 8 (.cases 30 (.go 9 (.op (.int .u8) (.facts (.call .bool (.go 2 (.cases 38 (.go 2 (.op (.int .u8) (.facts (.call .bool (.go 3 (.cases 45 (.go 2 (.op (.int .u8) (.go 3 (.cases 50 (.go 5 (.facts .ret)) (.go 5 (.cases 52 (.go 15 (.stop [4, 3, 0] 0)) (.go 2 (.op (.int .u8) (.facts (.call .bool (.go 11 (.stop [4, 3, 0] 0)))))))))))) (.go 11 (.cases 52 (.go 15 (.stop [4, 3, 0] 0)) (.go 2 (.op (.int .u8) (.facts (.call .bool (.go 11 (.stop [4, 3, 0] 0)))))))))))))) (.go 18 (.cases 52 (.go 15 (.stop [4, 3, 0] 0)) (.go 2 (.op (.int .u8) (.facts (.call .bool (.go 11 (.stop [4, 3, 0] 0)))))))))))))) (.go 7 (.facts .ret))))) (by kernel_rfl) h
theorem e97t (R : LV → LHeap → Prop) (s0 : List UInt8) (H : LHeap)
 (h : (((decide ((s0.length : Int) < 1)) = true → (Inv [] H [] H → R (.bool false) H))
 ∧ ((decide ((s0.length : Int) < 1)) = false → (((decide ((s0.length : Int) > 16)) = true → (Inv [] H [] H → R (.bool false) H))
 ∧ ((decide ((s0.length : Int) > 16)) = false → ((((0 : Int) ≤ (0 : Int)) ∧ ((0 : Int) < (s0.length : Int))) ∧ (Inv [] H [] H → ∃ S2, CallL cfg 157 [(.int .u8 (byteAt s0 (0 : Int)))] H S2 ∧ (∀ v H', S2 v H' → PresX [] H H' ∧ hasSh .bool v) ∧
  (∀ (b3 : Bool), ∀ H4, S2 (.bool b3) H4 → (((!b3) = true → (Inv [] H [] H4 → R (.bool false) H4))
 ∧ ((!b3) = false → (Inv [] H [] H4 → ∃ S5, CallL cfg 182 [(.str s0)] H4 S5 ∧ (∀ v H', S5 v H' → PresX [] H4 H' ∧ hasSh (.int .i64) v) ∧
  (∀ (n6 : Int), ∀ H7, S5 (.int .i64 n6) H7 → (((decide (n6 ≥ 0)) = true → (Inv [] H [] H7 → R (.bool false) H7))
 ∧ ((decide (n6 ≥ 0)) = false → (∀ d8 : Nat → LV, GoesT cfg 97 R [] H [] (L97t_0 d8 (1 : Int) ((s0.length : Int) == (1 : Int)) s0) (loopAt cfg 97 0) H7))))))))))))))) :
 CallL cfg 97 [(.str s0)] H R :=
  call_wt0 (k := (.go 11 (.cases 8 (.go 21 (.facts .ret)) (.go 5 (.cases 13 (.go 16 (.facts .ret)) (.go 1 (.op (.int .u8) (.facts (.call .bool (.go 3 (.cases 19 (.go 10 (.facts .ret)) (.go 1 (.facts (.call (.int .i64) (.go 3 (.cases 23 (.go 5 (.facts .ret)) (.go 16 (.stop [4, 3, 0] 0)))))))))))))))))) (by kernel_rfl) h
theorem e182t (R : LV → LHeap → Prop) (s0 : List UInt8) (H : LHeap)
 (h : (Inv [] H [] H → ∃ S1, CallL cfg 252 [(.str s0)] H S1 ∧ (∀ v H', S1 v H' → PresX [] H H' ∧ hasSh .str v) ∧
  (∀ (s2 : List UInt8), ∀ H3, S1 (.str s2) H3 → (((s2 == [84, 82, 85, 69]) = true → (Inv [] H [] H3 → R (.int .i64 (1 : Int)) H3))
 ∧ ((s2 == [84, 82, 85, 69]) = false → (((s2 == [70, 65, 76, 83, 69]) = true → (Inv [] H [] H3 → R (.int .i64 (0 : Int)) H3))
 ∧ ((s2 == [70, 65, 76, 83, 69]) = false → (Inv [] H [] H3 → R (.int .i64 (-1 : Int)) H3)))))))) :
 CallL cfg 182 [(.str s0)] H R :=
  call_wt0 (k := (.go 8 (.facts (.call .str (.go 7 (.cases 5 (.go 5 (.facts .ret)) (.go 6 (.cases 7 (.go 5 (.facts .ret)) (.go 7 (.facts .ret)))))))))) (by kernel_rfl) h
def L252t_0 (d : Nat → LV) (n0 : Int) (a1 : Option LAddr) (l2 : Nat) (c3 : Cap) (a4 : Option LAddr) (l5 : Nat) (c6 : Cap) (n7 : Int) : List SV := [(.lv (d 0)), (.lv (d 1)), (.lv (d 2)), (.lv (.slice a1 l2 c3)), (.lv (d 4)), (.lv (d 5)), (.lv (d 6)), (.lv (d 7)), (.lv (.slice a4 l5 c6)), (.lv (.int .i64 n7)), (.lv (.int .i64 n0)), (.lv (d 11)), (.lv (d 12)), (.lv (d 13)), (.lv (d 14)), (.lv (d 15)), (.lv (d 16)), (.lv (d 17)), (.lv (d 18)), (.lv (d 19)), (.lv (d 20)), (.lv (d 21)), (.lv (d 22)), (.lv (d 23)), (.lv (d 24)), (.lv (d 25)), (.lv (d 26)), (.lv (d 27)), (.lv (d 28))]
theorem g252t_0 (R : LV → LHeap → Prop) (H0 : LHeap) (d : Nat → LV) (n0 : Int) (a1 : Option LAddr) (l2 : Nat) (c3 : Cap) (a4 : Option LAddr) (l5 : Nat) (c6 : Cap) (n7 : Int)  (H : LHeap)
 (h : (((decide (n0 < n7)) = true → ((((0 : Int) ≤ n0) ∧ ((n0 < ((l5 : Nat) : Int)) ∧ ((Option.isSome a4) = true))) ∧ (Inv [] H0 [] H → (∃ n10 : Int, ((loadT (cfg).P H 5 (LAddr.mk (LAddr.id (adr a4)) (LAddr.ver (adr a4)) ((LAddr.off (adr a4)) + ((Int.toNat n0) * 1))) = some (.int .u8 n10)) ∧ (((decide (n10 ≥ 97)) = true → (((decide (n10 ≤ 122)) = true → ((((0 : Int) ≤ n0) ∧ ((n0 < ((l2 : Nat) : Int)) ∧ ((Option.isSome a1) = true))) ∧ (Inv [] H0 [] H → ∃ H12 : LHeap, (storeT cfg.P H 5 (LAddr.mk (LAddr.id (adr a1)) (LAddr.ver (adr a1)) ((LAddr.off (adr a1)) + ((Int.toNat n0) * 1))) (.int .u8 (lwrap .u8 (n10 - (32 : Int)))) = some H12 ∧ okId [] H0 [] (LAddr.id (adr a1))) ∧ (∀ d13 : Nat → LV, GoesT cfg 252 R [] H0 [] (L252t_0 d13 (lwrap .i64 (n0 + (1 : Int))) a1 l2 c3 a4 l5 c6 n7) (loopAt cfg 252 0) H12))))
 ∧ ((decide (n10 ≤ 122)) = false → (∀ d14 : Nat → LV, GoesT cfg 252 R [] H0 [] (L252t_0 d14 (lwrap .i64 (n0 + (1 : Int))) a1 l2 c3 a4 l5 c6 n7) (loopAt cfg 252 0) H))))
 ∧ ((decide (n10 ≥ 97)) = false → (∀ d15 : Nat → LV, GoesT cfg 252 R [] H0 [] (L252t_0 d15 (lwrap .i64 (n0 + (1 : Int))) a1 l2 c3 a4 l5 c6 n7) (loopAt cfg 252 0) H))))))))
 ∧ ((decide (n0 < n7)) = false → (∃ s17 : (List UInt8), (∃ H18 : LHeap, (((convertL (cfg).P H 155 9 (.slice a1 l2 c3)) = (some (Prod.mk (.str s17) H18))) ∧ (Inv [] H0 [] H → R (.str s17) H))))))) :
 GoesT cfg 252 R [] H0 [] (L252t_0 d n0 a1 l2 c3 a4 l5 c6 n7) (loopAt cfg 252 0) H :=
  seg_wt (k := (.go 5 (.cases 11 (.go 7 (.op (.tuple []) (.facts (.op (.int .u8) (.go 8 (.cases 17 (.go 4 (.cases 20 (.go 6 (.op (.tuple []) (.facts (.store (.go 7 (.stop [10, 3, 8, 9] 0)))))) (.go 8 (.stop [10, 3, 8, 9] 0)))) (.go 12 (.stop [10, 3, 8, 9] 0)))))))) (.go 5 (.op .str (.go 2 (.facts .ret))))))) (by kernel_rfl) h
theorem e252t (R : LV → LHeap → Prop) (s0 : List UInt8) (H : LHeap)
 (h : (Inv [] H [] H → ∃ (a1 : Option LAddr), ∃ (l2 : Nat), ∃ (c3 : Cap), ∃ (Y : List Nat) (H4 : LHeap), (opL cfg (fun (x : Go.Operand) => (denF [] (evalS cfg [(.lv (.str s0)), (.lv (.tuple [])), (.lv (.str [])), (.lv (.tuple [])), (.lv (.tuple [])), (.lv (.tuple [])), (.lv (.str s0)), (.lv (.tuple [])), (.lv (.tuple [])), (.lv (.tuple [])), (.lv (.tuple [])), (.lv (.tuple [])), (.lv (.tuple [])), (.lv (.tuple [])), (.lv (.tuple [])), (.lv (.tuple [])), (.lv (.tuple [])), (.lv (.tuple [])), (.lv (.tuple [])), (.lv (.tuple [])), (.lv (.tuple [])), (.lv (.tuple [])), (.lv (.tuple [])), (.lv (.tuple [])), (.lv (.tuple [])), (.lv (.tuple [])), (.lv (.tuple [])), (.lv (.tuple [])), (.lv (.tuple []))] x))) H (Oper.mk (some 7) (Op.convert 9 155 (Operand.tmp 6)) 155 "ref.go:56" (List.toArray [(Edge.mk 0 Go.Ground.data)]) none) = some [(.value (.slice a1 l2 c3), H4)] ∧ PresX Y H H4 ∧ ∀ i ∈ Y, okId [] H [] i) ∧ (∀ d5 : Nat → LV, GoesT cfg 252 R [] H [] (L252t_0 d5 (0 : Int) a1 l2 c3 a1 l2 c3 ((l2 : Nat) : Int)) (loopAt cfg 252 0) H4))) :
 CallL cfg 252 [(.str s0)] H R :=
  call_wt0 (k := (.go 7 (.facts (.any .slice (.go 11 (.stop [10, 3, 8, 9] 0)))))) (by kernel_rfl) h
theorem e157t (R : LV → LHeap → Prop) (n0 : Int) (H : LHeap)
 (h : (((decide (n0 ≥ 97)) = true → (((decide (n0 ≤ 122)) = true → (Inv [] H [] H → R (.bool true) H))
 ∧ ((decide (n0 ≤ 122)) = false → (((decide (n0 ≥ 65)) = true → (Inv [] H [] H → R (.bool (decide (n0 ≤ 90))) H))
 ∧ ((decide (n0 ≥ 65)) = false → (Inv [] H [] H → R (.bool false) H))))))
 ∧ ((decide (n0 ≥ 97)) = false → (((decide (n0 ≥ 65)) = true → (Inv [] H [] H → R (.bool (decide (n0 ≤ 90))) H))
 ∧ ((decide (n0 ≥ 65)) = false → (Inv [] H [] H → R (.bool false) H)))))) :
 CallL cfg 157 [(.int .u8 n0)] H R :=
  call_wt0 (k := (.go 9 (.cases 5 (.go 4 (.cases 9 (.go 9 (.facts .ret)) (.go 3 (.cases 12 (.go 6 (.facts .ret)) (.go 6 (.facts .ret)))))) (.go 7 (.cases 12 (.go 6 (.facts .ret)) (.go 6 (.facts .ret))))))) (by kernel_rfl) h
theorem e153t (R : LV → LHeap → Prop) (n0 : Int) (H : LHeap)
 (h : (((decide (n0 ≥ 48)) = true → (Inv [] H [] H → R (.bool (decide (n0 ≤ 57))) H))
 ∧ ((decide (n0 ≥ 48)) = false → (Inv [] H [] H → R (.bool false) H)))) :
 CallL cfg 153 [(.int .u8 n0)] H R :=
  call_wt0 (k := (.go 9 (.cases 5 (.go 5 (.facts .ret)) (.go 5 (.facts .ret))))) (by kernel_rfl) h
end Go.Proofs.YtjihhflffkoffaaGreatDoor.Z
