/- Plain laws on what the stack keeps of the names pushed; no condition. -/
import Derived.Test.YtjihhflffkoffaaUaLives
namespace Go.Proofs.Ytjihhflffkoffaa
open Go.RowKit Go.Shelf Go.Proofs.YtjihhflffkoffaaW.PrintWords Go.Proofs.Ytjihhflffkoffaa.PUndoCloses

/-- The groups of the first i names, and what the stack keeps of them. -/
def plN (nm : Nat → ByteArray) (i : Nat) : List (List S36) := (List.range i).map fun j => oneG (nm j)
theorem plN_len (nm : Nat → ByteArray) (i : Nat) : (plN nm i).length = i := by simp [plN]
theorem plN_succ (nm : Nat → ByteArray) (i : Nat) : plN nm (i + 1) = plN nm i ++ [oneG (nm i)] := by simp [plN, List.range_succ]
def usN (nm : Nat → ByteArray) (i : Nat) : List (List S36) := (plN nm i).drop (i - 8)
theorem usN_len (nm : Nat → ByteArray) (i : Nat) : (usN nm i).length = i - (i - 8) := by simp [usN, plN_len]
theorem usN_le (nm : Nat → ByteArray) (i : Nat) : (usN nm i).length ≤ 8 := by rw [usN_len]; omega
theorem usN_push (nm : Nat → ByteArray) (i : Nat) : pushU (usN nm i) (oneG (nm i)) = usN nm (i + 1) := by
  have h1 : pushU (usN nm i) (oneG (nm i)) = topL (usN nm i) (oneG (nm i)) := if_neg (by simp [oneG])
  rw [h1, topL, usN_len, usN, usN, plN_succ]
  rw [← List.drop_append_of_le_length (l₁ := plN nm i) (l₂ := [oneG (nm i)]) (by rw [plN_len]; omega), List.drop_drop]
  congr 1
  omega
theorem heap_set0 {W : World} {b t : Nat} {x y x' : Value} (h : W.heap[b]? = some (.cells #[x, y] t (0, 0))) : (W.setCell ⟨b, 0, none⟩ x').heap[b]? = some (.cells #[x', y] t (0, 0)) := by
  obtain ⟨hlt, he⟩ := Array.getElem?_eq_some_iff.1 h
  show (W.heap.modify b _)[b]? = _
  rw [Array.getElem?_eq_getElem (by simpa using hlt), Array.getElem_modify_self, he]
  rfl
theorem heap_set1 {W : World} {b t : Nat} {x y y' : Value} (h : W.heap[b]? = some (.cells #[x, y] t (0, 0))) : (W.setCell ⟨b, 1, none⟩ y').heap[b]? = some (.cells #[x, y'] t (0, 0)) := by
  obtain ⟨hlt, he⟩ := Array.getElem?_eq_some_iff.1 h
  show (W.heap.modify b _)[b]? = _
  rw [Array.getElem?_eq_getElem (by simpa using hlt), Array.getElem_modify_self, he]
  rfl
theorem heap_set2 {W : World} {b t : Nat} {x y x' y' : Value} (h : W.heap[b]? = some (.cells #[x, y] t (0, 0))) : ((W.setCell ⟨b, 0, none⟩ x').setCell ⟨b, 1, none⟩ y').heap[b]? = some (.cells #[x', y'] t (0, 0)) := heap_set1 (heap_set0 h)
theorem usN_eq (nm : Nat → ByteArray) (i : Nat) : usN nm i = (plN nm i).drop (i - 8) := rfl
end Go.Proofs.Ytjihhflffkoffaa
