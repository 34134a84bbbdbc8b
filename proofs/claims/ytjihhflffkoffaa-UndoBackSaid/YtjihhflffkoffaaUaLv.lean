/- Walk of one(book): a group of one part; no condition. -/
import Derived.Test.YtjihhflffkoffaaUaCl
namespace Go.Proofs.Ytjihhflffkoffaa
open Go.RowKit Go.Shelf Go.Proofs.YtjihhflffkoffaaW.PrintWords Go.Proofs.Ytjihhflffkoffaa.PUndoCloses

theorem F_lit {α : Type} {d : Kd α} (W : World) (ok : Nat → Prop) (e : TypeId) (xs : List α) (cs : List Value) (hR : Reps (fun x c => Kd.FK d (W.alloc (.cells cs.toArray e)) ok x c) d.sz xs cs) (hv : ok W.heap.size) (hm : xs.length ≤ maxLen) :
    Kd.F d (W.alloc (.cells cs.toArray e)) ok (some ⟨W.heap.size, 0, none⟩) xs.length xs := by
  have ho := World.ownsRow_lit (base := 0) (e := e) (size := d.sz) W cs.toArray xs.length (Nat.zero_le _) hm (by simpa using hR.1)
  obtain ⟨A, c, he, _, hF⟩ := F_of_own (d := d) (ok := ok) ho hR rfl (fun k hk => by simp [Value.ownBlock] at hk; subst hk; exact hv)
  injection he with h1 h2 h3
  subst h1
  exact hF
def oneOp : S59 := ⟨1, ⟨#[]⟩, ⟨#[]⟩, 0, 0, 0, 0, ⟨#[]⟩, ⟨⟨#[]⟩, ⟨#[]⟩, ⟨#[]⟩⟩, ⟨⟨#[]⟩, ⟨#[]⟩, 0, 0, ⟨0, 0, ⟨#[]⟩⟩⟩, []⟩
def onePart (b : ByteArray) : S36 := ⟨b, [oneOp], []⟩
def oneG (b : ByteArray) : List S36 := [onePart b]
def opCells : List Value := [.int .i64 1, .string ⟨#[]⟩, .string ⟨#[]⟩, .int .i64 0, .int .i64 0, .int .i64 0, .int .i64 0, .string ⟨#[]⟩, .string ⟨#[]⟩, .string ⟨#[]⟩, .string ⟨#[]⟩, .string ⟨#[]⟩, .string ⟨#[]⟩, .int .i64 0, .int .i64 0, .int .i64 0, .int .i64 0, .string ⟨#[]⟩, .slice none 0 0]

set_option maxHeartbeats 1000000 in
theorem one_walk (b : ByteArray) (w : World) :
    Calls Try.prog 7 #[.string b] w fun e w' => e = .returned (.slice (some ⟨w.heap.size + 1, 0, none⟩) 1 1) ∧ w' = (w.alloc (.cells opCells.toArray 59)).alloc (.cells #[.string b, .slice (some ⟨w.heap.size, 0, none⟩) 1 1, .slice none 0 0] 36) := by
  go_enter Try.func7, Try.ntmps7
  go_wp2
  go_ret
  exact ⟨rfl, rfl⟩

theorem one_any (b : ByteArray) (w : World) :
    Calls Try.prog 7 #[.string b] w fun e w' => ∃ A c, e = .returned (.slice A (oneG b).length c) ∧ (oneG b).length ≤ c ∧ Kd.F k36 w' (fun k => w.heap.size ≤ k) A (oneG b).length (oneG b) ∧ Below w.heap.size w w' := by
  refine (one_walk b w).mono ?_
  rintro e w' ⟨rfl, rfl⟩
  have h1 : Kd.F k59 (w.alloc (.cells opCells.toArray 59)) (fun k => w.heap.size ≤ k) (some ⟨w.heap.size, 0, none⟩) [oneOp].length [oneOp] := by
    refine F_lit w _ 59 [oneOp] opCells ?_ (Nat.le_refl _) (by unfold maxLen; simp)
    exact (Reps.none _ _).snoc (k59_mkF _ _ oneOp (A18 := none) (c18 := 0) (Nat.le_refl _) (Kd.F_nil _ _ _)) rfl
  have h2 := F_lit (d := k36) (w.alloc (.cells opCells.toArray 59)) (fun k => w.heap.size ≤ k) 36 (oneG b) [.string b, .slice (some ⟨w.heap.size, 0, none⟩) 1 1, .slice none 0 0]
    (Reps.c3 (k36_mkF _ _ (onePart b) (c1 := 1) (Nat.le_refl _) (Kd.F_alloc h1 _) (A2 := none) (c2 := 0) (Nat.le_refl _) (Kd.F_nil _ _ _)) (Reps.none _ _)) (by simp) (by unfold maxLen; simp [oneG])
  rw [World.size_alloc] at h2
  exact ⟨_, 1, rfl, Nat.le_refl _, h2, below_alloc (below_alloc (Below.refl _ _) _) _⟩
end Go.Proofs.Ytjihhflffkoffaa
