/- Walks of the iterator slices.Backward as it is ranged over here; for at most a milliard elements. -/
import Derived.Test.YtjihhflffkoffaaUa2
import Derived.RangeFuncBox
import Derived.RangeFuncNested
import Derived.RangeFuncLeaves
import Derived.Shelf.Abstract
import Derived.WalkKit
import Derived.OwnWalkIn
import Derived.TacticsInMore
import Derived.LoopNIn
import Derived.LoopIn
import Derived.Maps.AppendAt
import Derived.Lib.Hide
namespace Go.Proofs.Ytjihhflffkoffaa
open Go.RowKit Go.Shelf Go.Proofs.YtjihhflffkoffaaW.PrintWords Go.Proofs.Ytjihhflffkoffaa.PUndoCloses
attribute [local go_sem] Oper.semAt_some

/-- The indices that have come when j rounds of a range backward over n elements are over. -/
def dn (n j : Nat) : List Nat := (List.range j).map fun t => n - 1 - t
theorem dn_succ (n j : Nat) : dn n (j + 1) = dn n j ++ [n - 1 - j] := by simp [dn, List.range_succ]
theorem dn_length (n j : Nat) : (dn n j).length = j := by simp [dn]
/-- What a round keeps: what lay below n₀, and the block Bs. -/
structure KpB (n₀ Bs : Nat) (A B : World) : Prop where
  mk :: (below : Below n₀ A B) (box : B.heap[Bs]? = A.heap[Bs]?)
theorem KpB.refl (n₀ Bs : Nat) (A : World) : KpB n₀ Bs A A := ⟨Below.refl _ _, rfl⟩
theorem KpB.trans {n₀ Bs : Nat} {A B C : World} (h : KpB n₀ Bs A B) (k : KpB n₀ Bs B C) : KpB n₀ Bs A C := ⟨h.below.trans k.below, k.box.trans h.box⟩
theorem box_cell {W : World} {Bs t : Nat} {v : Value} (h : W.heap[Bs]? = some (.cells #[v] t (0, 0))) : W.cell? ⟨Bs, 0, none⟩ = some v := by simp [World.cell?, h]

set_option maxRecDepth 100000 in
set_option maxHeartbeats 2000000 in
theorem bw29_in (F : Fence) (n : Nat) (h29 : F.fn 29) (hro : F.round = none) (hn : 1 ≤ n) (l Bs n₀ len cap : Nat) (A : Option Addr) (c0 c1 c2 : Nat → Value) (hlen : len ≤ 1000000000) (J Jx : List Nat → World → Prop)
    (hY : ∀ (pre : List Nat) (x : Nat) (W : World), J pre W → pre.length < len → x < len → YieldAt F (n - 1) Try.prog l #[.int .i64 (x : Int), .agg #[c0 x, c1 x, c2 x]] W fun e W' =>
      (e = .returned (.bool true) ∧ J (pre ++ [x]) W' ∧ KpB n₀ Bs W W') ∨ (e = .returned (.bool false) ∧ Jx (pre ++ [x]) W'))
    (W : World) (hBs : W.heap[Bs]? = some (.cells #[.slice A len cap] 29 (0, 0)))
    (hc : ∀ i, i < len → ∃ ad, A = some ad ∧ ad.block < n₀ ∧ W.cell? (ad.add (i * 3)) = some (c0 i) ∧ W.cell? ⟨(ad.add (i * 3)).block, (ad.add (i * 3)).off + 1, none⟩ = some (c1 i) ∧ W.cell? ⟨(ad.add (i * 3)).block, (ad.add (i * 3)).off + 2, none⟩ = some (c2 i)) (h0 : J [] W) :
    CallsIn F n Try.prog 29 #[.func (.yield l) #[] #[], .pointer (some ⟨Bs, 0, none⟩)] W fun e W' => (∃ v, e = .returned v) ∧
      ((∃ ys, ys = dn len len ∧ J ys W') ∨ (∃ pre, (∃ k, k ≤ len ∧ pre = dn len k) ∧ Jx pre W')) := by
  have hB0 := box_cell hBs
  refine callsIn_of_wp Try.func29 rfl h29 ?_ hro
  simp only [Try.ntmps29, List.size_toArray, List.length_cons, List.length_nil, Nat.reduceAdd, Nat.reduceSub, Array.replicate_succ, Array.replicate_zero, List.push_toArray, List.append_toArray, List.nil_append, List.cons_append]
  gi_wp2
  gi_loopw [3] (fun i wr => ∃ j : Nat, j ≤ len ∧ i = .int .i64 ((len : Int) - 1 - j) ∧ J (dn len j) wr ∧ KpB n₀ Bs W wr)
    (fun i _ => (intOf i + 1).toNat)
  case atStart => exact ⟨0, Nat.zero_le _, by simp, h0, KpB.refl _ _ _⟩
  case round =>
    obtain ⟨j, hj, rfl, hJs, hnx⟩ := hrel
    by_cases hlt : j < len
    · obtain ⟨k, hk⟩ : ∃ k : Nat, j + k + 1 = len := ⟨len - 1 - j, by omega⟩
      have hki : (len : Int) - 1 - j = (k : Int) := by omega
      rw [hki]
      obtain ⟨ad, rfl, hab, e0, e1, e2⟩ := hc k (by omega)
      have hBr : wr.cell? ⟨Bs, 0, none⟩ = some (.slice (some ad) len cap) := box_cell (hnx.box.trans hBs)
      have f0 := (hnx.below.cell (p := ad.add (k * 3)) (by rw [add_block]; exact hab)).trans e0
      have f1 := (hnx.below.cell (p := ⟨(ad.add (k * 3)).block, (ad.add (k * 3)).off + 1, none⟩) (by show (ad.add (k * 3)).block < n₀; rw [add_block]; exact hab)).trans e1
      have f2 := (hnx.below.cell (p := ⟨(ad.add (k * 3)).block, (ad.add (k * 3)).off + 2, none⟩) (by show (ad.add (k * 3)).block < n₀; rw [add_block]; exact hab)).trans e2
      have hdn : dn len (j + 1) = dn len j ++ [k] := by rw [dn_succ, show len - 1 - j = k by omega]
      obtain ⟨fn, tmps, assign, body, hy, hR⟩ := hY _ k wr hJs (by rw [dn_length]; exact hlt) (by omega)
      have Hk := Lib.hid hk
      have Hki := Lib.hid hki
      have Hdn := Lib.hid hdn
      clear e0 e1 e2 hk hki hdn
      have hkl : k < len := by have := Hk.out; omega
      gi_wp2
      refine hR.mono ?_
      rintro e W3 (⟨rfl, hJ3, hk3⟩ | ⟨rfl, hJx3⟩)
      · gi_wp2
        go_roundw
        case rel => exact ⟨j + 1, by omega, by have := Hk.out; go_num, by rw [Hdn.out]; exact hJ3, hnx.trans hk3⟩
        case measure => have := Hk.out; simp [intOf]
      · gi_wp2
        refine bodyPost_ret (results_none rfl _ _ _) rfl ?_
        exact ⟨⟨_, rfl⟩, .inr ⟨_, ⟨j + 1, by omega, Hdn.out.symm⟩, hJx3⟩⟩
    · obtain rfl : j = len := by omega
      gi_wp2
      go_end0
      exact ⟨⟨_, rfl⟩, .inl ⟨_, rfl, hJs⟩⟩
set_option maxRecDepth 100000 in
set_option maxHeartbeats 2000000 in
theorem bw30_in (F : Fence) (n : Nat) (h30 : F.fn 30) (hro : F.round = none) (hn : 1 ≤ n) (l Bs n₀ len cap : Nat) (A : Option Addr) (c0 : Nat → Value) (hlen : len ≤ 1000000000) (J Jx : List Nat → World → Prop)
    (hY : ∀ (pre : List Nat) (x : Nat) (W : World), J pre W → pre.length < len → x < len → YieldAt F (n - 1) Try.prog l #[.int .i64 (x : Int), c0 x] W fun e W' =>
      (e = .returned (.bool true) ∧ J (pre ++ [x]) W' ∧ KpB n₀ Bs W W') ∨ (e = .returned (.bool false) ∧ Jx (pre ++ [x]) W'))
    (W : World) (hBs : W.heap[Bs]? = some (.cells #[.slice A len cap] 25 (0, 0)))
    (hc : ∀ i, i < len → ∃ ad, A = some ad ∧ ad.block < n₀ ∧ W.cell? (ad.add i) = some (c0 i)) (h0 : J [] W) :
    CallsIn F n Try.prog 30 #[.func (.yield l) #[] #[], .pointer (some ⟨Bs, 0, none⟩)] W fun e W' => (∃ v, e = .returned v) ∧
      ((∃ ys, ys = dn len len ∧ J ys W') ∨ (∃ pre, (∃ k, k ≤ len ∧ pre = dn len k) ∧ Jx pre W')) := by
  have hB0 := box_cell hBs
  refine callsIn_of_wp Try.func30 rfl h30 ?_ hro
  simp only [Try.ntmps30, List.size_toArray, List.length_cons, List.length_nil, Nat.reduceAdd, Nat.reduceSub, Array.replicate_succ, Array.replicate_zero, List.push_toArray, List.append_toArray, List.nil_append, List.cons_append]
  gi_wp2
  gi_loopw [3] (fun i wr => ∃ j : Nat, j ≤ len ∧ i = .int .i64 ((len : Int) - 1 - j) ∧ J (dn len j) wr ∧ KpB n₀ Bs W wr)
    (fun i _ => (intOf i + 1).toNat)
  case atStart => exact ⟨0, Nat.zero_le _, by simp, h0, KpB.refl _ _ _⟩
  case round =>
    obtain ⟨j, hj, rfl, hJs, hnx⟩ := hrel
    by_cases hlt : j < len
    · obtain ⟨k, hk⟩ : ∃ k : Nat, j + k + 1 = len := ⟨len - 1 - j, by omega⟩
      have hki : (len : Int) - 1 - j = (k : Int) := by omega
      rw [hki]
      obtain ⟨ad, rfl, hab, e0⟩ := hc k (by omega)
      have hBr : wr.cell? ⟨Bs, 0, none⟩ = some (.slice (some ad) len cap) := box_cell (hnx.box.trans hBs)
      have f0 := (hnx.below.cell (p := ad.add k) (by rw [add_block]; exact hab)).trans e0
      have hdn : dn len (j + 1) = dn len j ++ [k] := by rw [dn_succ, show len - 1 - j = k by omega]
      obtain ⟨fn, tmps, assign, body, hy, hR⟩ := hY _ k wr hJs (by rw [dn_length]; exact hlt) (by omega)
      have Hk := Lib.hid hk
      have Hki := Lib.hid hki
      have Hdn := Lib.hid hdn
      clear e0 hk hki hdn
      have hkl : k < len := by have := Hk.out; omega
      gi_wp2
      refine hR.mono ?_
      rintro e W3 (⟨rfl, hJ3, hk3⟩ | ⟨rfl, hJx3⟩)
      · gi_wp2
        go_roundw
        case rel => exact ⟨j + 1, by omega, by have := Hk.out; go_num, by rw [Hdn.out]; exact hJ3, hnx.trans hk3⟩
        case measure => have := Hk.out; simp [intOf]
      · gi_wp2
        refine bodyPost_ret (results_none rfl _ _ _) rfl ?_
        exact ⟨⟨_, rfl⟩, .inr ⟨_, ⟨j + 1, by omega, Hdn.out.symm⟩, hJx3⟩⟩
    · obtain rfl : j = len := by omega
      gi_wp2
      go_end0
      exact ⟨⟨_, rfl⟩, .inl ⟨_, rfl, hJs⟩⟩

set_option maxHeartbeats 1000000 in
theorem bw20_in (F : Fence) (n : Nat) (h : F.fn 20) (hro : F.round = none) (A : Option Addr) (len cap : Nat) (w : World) :
    CallsIn F n Try.prog 20 #[.slice A len cap] w fun e w' => e = .returned (.func (.func 29) #[] #[.pointer (some ⟨w.heap.size, 0, none⟩)]) ∧ w' = w.alloc (.cells #[.slice A len cap] 29) := by
  refine callsIn_of_wp Try.func20 rfl h ?_ hro
  simp only [Try.ntmps20, List.size_toArray, List.length_cons, List.length_nil, Nat.reduceAdd, Nat.reduceSub, Array.replicate_succ, Array.replicate_zero, List.push_toArray, List.append_toArray, List.nil_append, List.cons_append]
  gi_wp2
  go_ret
  exact ⟨rfl, rfl⟩
set_option maxHeartbeats 1000000 in
theorem bw21_in (F : Fence) (n : Nat) (h : F.fn 21) (hro : F.round = none) (A : Option Addr) (len cap : Nat) (w : World) :
    CallsIn F n Try.prog 21 #[.slice A len cap] w fun e w' => e = .returned (.func (.func 30) #[] #[.pointer (some ⟨w.heap.size, 0, none⟩)]) ∧ w' = w.alloc (.cells #[.slice A len cap] 25) := by
  refine callsIn_of_wp Try.func21 rfl h ?_ hro
  simp only [Try.ntmps21, List.size_toArray, List.length_cons, List.length_nil, Nat.reduceAdd, Nat.reduceSub, Array.replicate_succ, Array.replicate_zero, List.push_toArray, List.append_toArray, List.nil_append, List.cons_append]
  gi_wp2
  go_ret
  exact ⟨rfl, rfl⟩

end Go.Proofs.Ytjihhflffkoffaa
