/- Contracts of functions of the program; no condition. -/
import Derived.Test.YtjihhflffkoffaaGreatDoorWo
set_option linter.unusedSimpArgs false
set_option linter.unusedVariables false
set_option linter.unusedSectionVars false
set_option linter.unnecessarySimpa false
namespace Go.Proofs.YtjihhflffkoffaaGreatDoor.Z
open Go Go.Lm
set_option maxRecDepth 100000

/-- What a rewriting comes to. -/
def RwR (p : PlaceC) (c : ChangeC) (N : Nd) (H : LHeap) : LV → LHeap → Prop :=
  fun v H' => PresX [] H H' ∧ ∃ M : Nd, v = .tuple [M.root.lv, .bool (anyT p c N)] ∧ RwOf p c N M ∧ NdAt H' M ∧ NdIds (fun j => H.next ≤ j) M

theorem s68 (p : PlaceC) (c : ChangeC) (N : Nd) (H : LHeap) (hN : NdAt H N) (hS : NdSm N) : CallL cfg 68 [N.root.lv, p.lv, c.lv] H (RwR p c N H) := by
  refine e68t _ N.root p c H fun i3 H4 _ _ i5 H6 _ _ i7 H8 _ _ i9 H10 _ _ hI10 => ⟨_, s133 p c H10, fun v H' ⟨h1, i, q, e, le, T⟩ => ⟨h1, i, (turn p c q false).cs, e, le, T.lt, ⟨turn p c q false, rfl⟩, T.get⟩, fun x12 i13 H14 ⟨p14, i, q, e, le, T⟩ g14 hI14 => ?_⟩
  obtain rfl : i13 = i := by cases e; rfl
  have hlt : ∀ j, j < H.next → j ≠ i13 := fun j hj e => by have := hI10.pres.next; omega
  refine ⟨_, s134 p c q i13 N false H14 T (hN.on hI14.pres) (NdIds.mono hlt hN.ids) hS, nodeR_sh, fun x16 x17 H18 ⟨p18, M, eM, rM, aM, dM, T18⟩ g18 i19 H20 h19 p20 H21 p21 => ⟨rfl, fun H23 p23 => ⟨rfl, fun hI23 => ?_⟩⟩⟩
  have h9 : i9 < H14.next := (hI14.slot 3 _ rfl).1
  have ha : x17.any = anyT p c N := by
    have := congrArg (fun l => l[13]?) (obj_inj g18 T18.get)
    simpa [TurnC.cs, turn] using this
  refine ⟨hI23.pres, M, by rw [eM, ha], rM, ?_, NdIds.mono (fun j hj => Nat.le_trans hI14.pres.next hj) dM⟩
  have a20 := aM.on p20
  have a21 : NdAt H21 M := NdAt.onY p21 (NdIds.mono (fun j hj hm => by have := List.mem_singleton.1 hm; omega) aM.ids) a20
  exact NdAt.onY p23 (NdIds.mono (fun j hj hm => by have := List.mem_singleton.1 hm; omega) dM) a21
end Go.Proofs.YtjihhflffkoffaaGreatDoor.Z
