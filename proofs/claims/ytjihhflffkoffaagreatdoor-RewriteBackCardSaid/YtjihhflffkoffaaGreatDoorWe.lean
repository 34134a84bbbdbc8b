/- Contracts of functions of the program; no condition. -/
import Derived.Test.YtjihhflffkoffaaGreatDoorWd
import Derived.Test.YtjihhflffkoffaaGreatDoorW2
import Derived.Test.YtjihhflffkoffaaGreatDoorLe
set_option linter.unusedSimpArgs false
set_option linter.unusedVariables false
set_option linter.unusedSectionVars false
set_option linter.unnecessarySimpa false
namespace Go.Proofs.YtjihhflffkoffaaGreatDoor.Z
open Go Go.Lm
set_option maxRecDepth 100000

def turn (p : PlaceC) (c : ChangeC) (q : LAddr) (b : Bool) : TurnC :=
  ⟨p.book, p.sheet, p.row, p.col, c.book, c.sheet, c.drop, c.cols, c.shiftAt, c.shiftN, c.shiftMost, if c.drop = true then .func (.func 216) [] [] else .func (.func 213) [] [.ptr (some q)], if c.drop = true then .func (.func 217) [] [] else .func (.func 214) [] [.ptr (some q)], b⟩

/-- A box keeps what it holds. -/
theorem _root_.Go.Lm.PresX.box {X : List Nat} {H H' : LHeap} (h : PresX X H H') {s : Slot} (hi : s.id < H.next) (hx : s.id ∉ X) (hg : H.get s.id = some s.obj) : H'.get s.id = some s.obj :=
  (h.keep s.id hi hx).fixed _ hg (by simp [Slot.obj, LObj.fixed])

/-- A turner in memory. -/
structure TurnAt (H : LHeap) (i : Nat) (p : PlaceC) (c : ChangeC) (q : LAddr) (b : Bool) : Prop where
  lt : i < H.next
  get : H.get i = some (Slot.obj ⟨i, (turn p c q b).cs, 194⟩)
  qlt : q.id < H.next
  ne : q.id ≠ i
  shift : loadT cfg.P H 96 ⟨q.id, q.ver, q.off + 4⟩ = some (shiftOf c).lv

theorem s133 (p : PlaceC) (c : ChangeC) (H : LHeap) : CallL cfg 133 [p.lv, c.lv] H (fun v H' => PresX [] H H' ∧ ∃ i q, v = .ptr (some ⟨i, 14, 0⟩) ∧ H.next ≤ i ∧ TurnAt H' i p c q false) := by
  refine e133 _ p c H fun i2 H3 i4 H5 i6 H7 H8 H9 => ⟨fun h H10 H11 hI => ?_, fun h hI => ?_⟩
  all_goals
    have f6 := hI.slot 2 _ rfl
    have f4 := hI.slot 1 _ rfl
    refine ⟨hI.pres, i6, ⟨i4, 7, 0⟩, rfl, ?_, f6.1, ?_, f4.1, hI.apart 1 2 _ _ rfl rfl (by decide), slotLoad_spec (s := ⟨i4, c.cs, 98⟩) f4.2.1 (by kernel_rfl)⟩
  · rcases f6.2.2 with h | h
    · cases h
    · exact h
  · simpa [turn, h, TurnC.cs] using f6.2.1
  · rcases f6.2.2 with h | h
    · cases h
    · exact h
  · simpa [turn, h, TurnC.cs] using f6.2.1

theorem s140 (i : Nat) (p : PlaceC) (c : ChangeC) (q : LAddr) (b : Bool) (r : RefC) (H : LHeap) (hT : TurnAt H i p c q b) : CallL cfg 140 [.ptr (some ⟨i, 14, 0⟩), r.lv] H (Ret (.bool (ofP r p c)) H) := by
  have ld : ∀ (H' : LHeap), PresX [] H H' → ∀ (t : TypeId) (o : Nat) (v : LV), slotLoad cfg.P (turn p c q b).cs t o = some v → loadT cfg.P H' t ⟨i, 14, o⟩ = some v := fun H' hp t o v hv =>
    slotLoad_spec (s := ⟨i, (turn p c q b).cs, 194⟩) (hp.box hT.lt (by simp) hT.get) hv
  refine e140 _ ⟨i, 14, 0⟩ r H fun i0 H1 hI => ⟨p, ld H1 hI.pres 94 0 _ (by kernel_rfl), fun i4 H5 hI => ⟨ld H5 hI.pres 94 0 _ (by kernel_rfl), rfl, fun hI => ⟨_, s223 r p H5, Ret.use ⟨_, rfl⟩, fun x H9 ⟨e, _⟩ hI H11 hI' hI => ⟨c.book, ld H11 hI.pres 9 4 _ (by kernel_rfl), fun h hI => ⟨c.sheet, ld H11 hI.pres 9 5 _ (by kernel_rfl), fun hI => ⟨ld H11 hI.pres 9 5 _ (by kernel_rfl), ld H11 hI.pres 9 4 _ (by kernel_rfl), rfl, fun hI => ⟨?_, hI.pres⟩⟩⟩, fun h hI => ⟨ld H11 hI.pres 9 4 _ (by kernel_rfl), rfl, fun hI => ⟨?_, hI.pres⟩⟩⟩⟩⟩⟩
  all_goals
    have : x = atP r p := by
      cases x
      simp only [PlaceC.lv, PlaceC.cs, LV.agg.injEq, List.cons.injEq, LV.str.injEq, LV.int.injEq, true_and, and_true] at e
      obtain ⟨a, b, c, d⟩ := e
      simp [a, b, c, d]
    subst this
    simp [ofP, h]

theorem s272 (i : Nat) (x : TurnC) (H : LHeap) (hI : Inv [i] H [⟨i, x.cs, 194⟩] H) :
    CallL cfg 272 [.ptr (some ⟨i, 14, 0⟩)] H (fun v H' => v = goneN.lv ∧ PresX [i] H H' ∧ H'.get i = some (Slot.obj ⟨i, ({ x with any := true } : TurnC).cs, 194⟩)) :=
  e272 _ i x H hI fun i0 H1 H2 H3 hI => ⟨rfl, hI.pres, (hI.slot 0 _ rfl).2.1⟩
end Go.Proofs.YtjihhflffkoffaaGreatDoor.Z
