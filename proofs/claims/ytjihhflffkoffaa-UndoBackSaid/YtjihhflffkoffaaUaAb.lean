/- Walk of the test whether a group has a part of a book; for at most a milliard parts. -/
import Derived.Test.YtjihhflffkoffaaUaRedo
namespace Go.Proofs.Ytjihhflffkoffaa
open Go.RowKit Go.Shelf Go.Proofs.YtjihhflffkoffaaW.PrintWords Go.Proofs.Ytjihhflffkoffaa.PUndoCloses

set_option maxHeartbeats 400000 in
theorem c23 (s book : ByteArray) (v1 v2 : Value) (Bk : Nat) (w : World) (hb : w.cell? ⟨Bk, 0, none⟩ = some (.string book)) (hBk : Bk < w.heap.size) :
    Calls Try.prog 23 #[.agg #[.string s, v1, v2], .pointer (some ⟨Bk, 0, none⟩)] w fun e w' => e = .returned (.bool (s.toList == book.toList)) ∧ Below w.heap.size w w' := by
  go_enter Try.func23, Try.ntmps23
  go_wp2
  go_ret
  exact ⟨rfl, below_alloc (Below.refl _ _) _⟩

def hasB (g : List S36) (book : ByteArray) (x : Nat) : Bool := (rd_T36 g x).f0.toList == book.toList
/-- The first index from k on whose part is of the book; -1: none. -/
def firstB (g : List S36) (book : ByteArray) : Nat → Nat → Int
  | 0, _ => -1
  | d + 1, k => if hasB g book k = true then (k : Int) else firstB g book d (k + 1)

set_option maxHeartbeats 1000000 in
theorem c31 (A : Option Addr) (len cap : Nat) (g : List S36) (book : ByteArray) (q : Nat → (Option Addr × Nat) × (Option Addr × Nat)) (Bk : Nat) (w : World) (hlen : len ≤ 1000000000) (hb : w.cell? ⟨Bk, 0, none⟩ = some (.string book)) (hBk : Bk < w.heap.size)
    (hq : ∀ x, x < len → Cells36 w A g x (q x)) :
    Calls Try.prog 31 #[.slice A len cap, .func (.func 23) #[] #[.pointer (some ⟨Bk, 0, none⟩)]] w fun e w' => e = .returned (.int .i64 (firstB g book len 0)) ∧ Below w.heap.size w w' := by
  go_enter Try.func31, Try.ntmps31
  go_wp2
  go_loopw [8] (fun i wr => ∃ k : Nat, k ≤ len ∧ i = .int .i64 k ∧ Hid (firstB g book (len - k) k = firstB g book len 0) ∧ Below w.heap.size w wr) (fun i _ => len - (intOf i).toNat)
  case atStart => exact ⟨0, Nat.zero_le _, rfl, Lib.hid rfl, Below.refl _ _⟩
  case round =>
    obtain ⟨k, hk, rfl, hf, hB⟩ := hrel
    have hbr := pw_cell_below hB hb
    by_cases hlt : k < len
    · obtain ⟨ad, rfl, e0, e1, e2⟩ := hq k hlt
      have f0 := pw_cell_below hB e0
      have f1 := pw_cell_below hB e1
      have f2 := pw_cell_below hB e2
      clear e0 e1 e2
      go_wp2_with (go_at_call 23; go_must (refine (c23 _ book _ _ Bk _ hbr (by have := hB.size; omega)).mono ?_); rintro e w1 ⟨rfl, hb1⟩)
      · have ht : ((rd_T36 g (k : Int)).f0.toList == book.toList) = true := by assumption
        go_ret
        refine ⟨?_, below_then hB hB.size hb1⟩
        have h2 := hf.out
        rw [show len - k = (len - k - 1) + 1 by omega, firstB, if_pos (show hasB g book k = true from ht)] at h2
        rw [← h2]; rfl
      · have ht : ((rd_T36 g (k : Int)).f0.toList == book.toList) = false := by assumption
        go_roundw
        case rel =>
          refine ⟨k + 1, by omega, by go_num, Lib.hid ?_, below_then hB hB.size hb1⟩
          have h2 := hf.out
          rw [show len - k = (len - (k + 1)) + 1 by omega, firstB, if_neg (by rw [show hasB g book k = false from ht]; simp)] at h2
          exact h2
        case measure => simp [intOf]; omega
    · obtain rfl : k = len := by omega
      go_wp2
      go_ret
      refine ⟨?_, hB⟩
      have := hf.out
      rw [Nat.sub_self] at this
      rw [← this]; rfl

theorem firstB_nonneg (g : List S36) (book : ByteArray) : ∀ d k : Nat, decide (0 ≤ firstB g book d k) = (List.range d).any (fun j => hasB g book (k + j))
  | 0, k => by simp [firstB]
  | d + 1, k => by
    rw [firstB, List.range_succ_eq_map]
    by_cases h : hasB g book k = true
    · rw [if_pos h]; simp [h]
    · rw [if_neg h, firstB_nonneg g book d (k + 1)]
      simp only [List.any_cons, Nat.add_zero, h, List.any_map, Bool.false_or, Function.comp_def]
      congr 1
      funext j
      congr 1
      omega
/-- Has a group a part of the book? -/
def holdsB (g : List S36) (book : ByteArray) : Bool := decide (0 ≤ firstB g book g.length 0)

set_option maxHeartbeats 400000 in
theorem c22 (A : Option Addr) (cap : Nat) (g : List S36) (book : ByteArray) (q : Nat → (Option Addr × Nat) × (Option Addr × Nat)) (Bk : Nat) (w : World) (hlen : g.length ≤ 1000000000) (hb : w.cell? ⟨Bk, 0, none⟩ = some (.string book)) (hBk : Bk < w.heap.size)
    (hq : ∀ x, x < g.length → Cells36 w A g x (q x)) :
    Calls Try.prog 22 #[.slice A g.length cap, .func (.func 23) #[] #[.pointer (some ⟨Bk, 0, none⟩)]] w fun e w' => e = .returned (.bool (holdsB g book)) ∧ Below w.heap.size w w' := by
  go_enter Try.func22, Try.ntmps22
  go_wp2_with (go_at_call 31; go_must (refine (c31 _ _ _ g book q Bk _ hlen hb hBk hq).mono ?_); rintro e w1 ⟨rfl, hb1⟩)
  go_ret
  exact ⟨rfl, hb1⟩
end Go.Proofs.Ytjihhflffkoffaa
