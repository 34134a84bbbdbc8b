/- Plain laws on the stacks in their own box; no condition. -/
import Derived.Test.YtjihhflffkoffaaUaBk
import Derived.Deep.RegionHeld3
import Derived.Deep.RegionWith
namespace Go.Proofs.Ytjihhflffkoffaa
open Go.RowKit Go.Shelf Go.Proofs.YtjihhflffkoffaaW.PrintWords Go.Proofs.Ytjihhflffkoffaa.PUndoCloses

/-- The stacks in their box b, within a round. -/
def BoxS (wr : World) (b : Nat) (us rs : List (List S36)) : Prop :=
  ∃ n m A0 c0 A1 c1, us.length = n ∧ rs.length = m ∧ wr.heap[b]? = some (.cells #[.slice A0 n c0, .slice A1 m c1] 27 (0, 0)) ∧ StR wr (fun k => k ≠ b) (.agg #[.slice A0 n c0, .slice A1 m c1]) us rs ∧ b < wr.heap.size
theorem BoxS.start (W : World) (us rs : List (List S36)) (A0 A1 : Option Addr) (n m c0 c1 : Nat) (hn : us.length = n) (hm : rs.length = m) {P : Nat → Prop} (h : StR W P (.agg #[.slice A0 n c0, .slice A1 m c1]) us rs) : BoxS (W.alloc (.cells #[.slice A0 n c0, .slice A1 m c1] 27)) W.heap.size us rs := by
  refine ⟨n, m, A0, c0, A1, c1, hn, hm, heap_alloc_new W _, ?_, by simp⟩
  exact (h.bound.below (below_alloc (Below.refl _ _) _)).mono (fun k hk => by omega)
theorem BoxS.put {W : World} {b n m n' m' c0 c1 c0' c1' : Nat} {A0 A1 A0' A1' : Option Addr} {us rs : List (List S36)} (hb : W.heap[b]? = some (.cells #[.slice A0 n c0, .slice A1 m c1] 27 (0, 0))) (hn : us.length = n') (hm : rs.length = m')
    (h : StR W (fun k => k ≠ b) (.agg #[.slice A0' n' c0', .slice A1' m' c1']) us rs) : BoxS ((W.setCell ⟨b, 0, none⟩ (.slice A0' n' c0')).setCell ⟨b, 1, none⟩ (.slice A1' m' c1')) b us rs := by
  refine ⟨n', m', A0', c0', A1', c1', hn, hm, heap_set2 hb, (h.far (fun k hk => hk) _).far (fun k hk => hk) _, ?_⟩
  have := (Array.getElem?_eq_some_iff.1 (heap_set2 (x' := .slice A0' n' c0') (y' := .slice A1' m' c1') hb)).1
  exact this
theorem usN_get (nm : Nat → ByteArray) (len N x : Nat) (hN : (usN nm len).length = N) (hx : x < N) : (usN nm len)[x]? = some (oneG (nm (len - N + x))) := by
  rw [usN_len] at hN
  rw [usN, List.getElem?_drop, plN, List.getElem?_map, List.getElem?_range (by omega)]
  simp only [Option.map_some]
  rw [show len - 8 + x = len - N + x by omega]
theorem wrap64_of {x : Int} (h0 : 0 ≤ x) (h1 : x < 2 ^ 63) : wrap64 x = x := by
  unfold wrap64
  omega
theorem modN (k N : Nat) (hN : N ≤ 1000) : ∃ mm : Nat, wrap64 ((k : Int) % ((N : Int) + 1)) = (mm : Int) ∧ mm ≤ N := by
  have e : (k : Int) % ((N : Int) + 1) = ((k % (N + 1) : Nat) : Int) := by rw [Int.natCast_emod]; rfl
  have := Nat.mod_lt k (show N + 1 > 0 by omega)
  exact ⟨k % (N + 1), by rw [e, wrap64_of (by omega) (by omega)], by omega⟩
/-- One step down, one step up, of a stack that has been parted at p. -/
theorem take_split {L : List (List S36)} {p : Nat} {g : List S36} (h : L[p]? = some g) : L.take (p + 1) = L.take p ++ [g] := by
  rw [List.take_add_one, h]; rfl
theorem drop_split {L : List (List S36)} {p : Nat} {g : List S36} (h : L[p]? = some g) : (L.drop p).reverse = (L.drop (p + 1)).reverse ++ [g] := by
  obtain ⟨hlt, he⟩ := List.getElem?_eq_some_iff.1 h
  rw [List.drop_eq_getElem_cons hlt, he, List.reverse_cons]
end Go.Proofs.Ytjihhflffkoffaa
