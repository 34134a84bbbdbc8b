/- Contracts of functions of the program; no condition. -/
import Derived.Test.YtjihhflffkoffaaGreatDoorWe
set_option linter.unusedSimpArgs false
set_option linter.unusedVariables false
set_option linter.unusedSectionVars false
set_option linter.unnecessarySimpa false
namespace Go.Proofs.YtjihhflffkoffaaGreatDoor.Z
open Go Go.Lm
set_option maxRecDepth 100000

theorem _root_.Go.Lm.Inv.of1 {H : LHeap} {i : Nat} {cs : List LV} {e : TypeId} (hi : i < H.next) (hg : H.get i = some (Slot.obj ⟨i, cs, e⟩)) : Inv [i] H [⟨i, cs, e⟩] H := by
  refine ⟨.refl _ _, fun k s hs => ?_, fun j k s t hs ht hjk => ?_⟩
  · cases k with
    | zero => cases hs; exact ⟨hi, hg, .inl (by simp)⟩
    | succ k => simp [nth] at hs
  · cases j <;> cases k <;> simp [nth] at hs ht hjk

def refOf (n : NdC) : RefC := ⟨n.refBook, n.refSheet, n.refRow, n.refCol, n.refFixRow, n.refFixCol⟩
def refNd (r : RefC) : NdC := ⟨2, [], 0, 0, [], r.book, r.sheet, r.row, r.col, r.fixRow, r.fixCol, [], [], 0, 0, false, false, none, 0, .exact 0⟩
def eqRf (a b : RefC) : Bool := (a.book == b.book) && ((a.sheet == b.sheet) && ((a.row == b.row) && ((a.col == b.col) && ((a.fixRow == b.fixRow) && (a.fixCol == b.fixCol)))))
def cellN (n : NdC) (c : ChangeC) : NdC := if (refR (refOf n) c).2 then refNd (refR (refOf n) c).1 else goneN
def anyC (n : NdC) (c : ChangeC) : Bool := !(refR (refOf n) c).2 || !eqRf (refR (refOf n) c).1 (refOf n)

/-- What a call of the turner leaves. -/
def Turned (i : Nat) (p : PlaceC) (c : ChangeC) (q : LAddr) (b : Bool) (n : NdC) (H : LHeap) : LV → LHeap → Prop :=
  fun v H' => v = n.lv ∧ PresX [i] H H' ∧ H'.get i = some (Slot.obj ⟨i, (turn p c q b).cs, 194⟩)

theorem obj_inj {i : Nat} {a b : List LV} {e : TypeId} {o : Option LObj} (h : o = some (Slot.obj ⟨i, a, e⟩)) (k : o = some (Slot.obj ⟨i, b, e⟩)) : a = b := by
  rw [h] at k
  simp only [Slot.obj, Option.some.injEq, LObj.cells.injEq] at k
  exact k.1

/-- The call of gone within a turner's method. -/
theorem gone_part {i : Nat} {p : PlaceC} {c : ChangeC} {q : LAddr} {b : Bool} {X : List Nat} {H0 H : LHeap} {kn : List Slot} (hI : Inv X H0 (⟨i, (turn p c q b).cs, 194⟩ :: kn) H) :
    CallL cfg 272 [.ptr (some ⟨i, 14, 0⟩)] H (fun v H' => v = goneN.lv ∧ PresX [i] H H' ∧ H'.get i = some (Slot.obj ⟨i, (turn p c q true).cs, 194⟩)) := by
  have h := hI.slot 0 _ rfl
  exact s272 i (turn p c q b) H (.of1 h.1 h.2.1)

theorem gone_sh {i : Nat} {p : PlaceC} {c : ChangeC} {q : LAddr} {H : LHeap} : ∀ v H', (v = goneN.lv ∧ PresX [i] H H' ∧ H'.get i = some (Slot.obj ⟨i, (turn p c q true).cs, 194⟩)) → PresX [i] H H' ∧ hasSh (.cust NdC NdC.lv) v ∧ ∃ cs, hasSh (.cust TurnC TurnC.lv) (.agg cs) ∧ List.length cs = 14 ∧ H'.get i = some (Slot.obj ⟨i, cs, 194⟩) :=
  fun v H' ⟨e, h1, h2⟩ => ⟨h1, ⟨_, e⟩, _, ⟨turn p c q true, rfl⟩, rfl, h2⟩

theorem s218a (i : Nat) (n : NdC) (p : PlaceC) (c : ChangeC) (q : LAddr) (b : Bool) (H : LHeap) (hd : c.drop = false) (hT : TurnAt H i p c q b) : CallL cfg 218 [.ptr (some ⟨i, 14, 0⟩), n.lv] H (Turned i p c q (b || anyC n c) (cellN n c) H) := by
  have hcs : ∀ b, (turn p c q b).cs = [.str p.book, .str p.sheet, .int .i64 p.row, .int .i64 p.col, .str c.book, .str c.sheet, .bool c.drop, .bool c.cols, .int .i64 c.shiftAt, .int .i64 c.shiftN, .int .i64 c.shiftMost, .func (.func 213) [] [.ptr (some q)], .func (.func 214) [] [.ptr (some q)], .bool b] := by
    intro b; simp [turn, hd, TurnC.cs]
  have hI := Inv.of1 hT.lt hT.get
  rw [hcs] at hI
  have ldq : ∀ H', PresX [i] H H' → loadT cfg.P H' 96 ⟨q.id, q.ver, q.off + 4⟩ = some (shiftOf c).lv := fun H' hp => hp.load (a := ⟨q.id, q.ver, q.off + 4⟩) hT.qlt (by simpa using hT.ne) hT.shift
  refine e218a _ i n p c q b H hI fun i0 H1 i2 H3 i4 H5 H6 => ⟨fun hc => ⟨rfl, fun hI => ⟨_, s213 q (shiftOf c) n.refCol H6 (ldq H6 hI.pres), Ret.use ⟨_, _, rfl⟩, fun m ok H11 ⟨e, _⟩ => ?_⟩⟩, fun hc => ⟨rfl, fun hI => ⟨_, s213 q (shiftOf c) n.refRow H6 (ldq H6 hI.pres), Ret.use ⟨_, _, rfl⟩, fun m ok H11 ⟨e, _⟩ => ?_⟩⟩⟩
  all_goals
    simp only [pairL, LV.tuple.injEq, List.cons.injEq, LV.int.injEq, LV.bool.injEq, true_and, and_true] at e
    obtain ⟨e1, e2⟩ := e
    refine ⟨fun ho hI => ?_, fun ho H18 => ⟨fun hb H19 H20 hI => ?_, fun hb H22 H23 hI => ?_⟩⟩
    · rw [← hcs b] at hI
      refine ⟨_, gone_part hI, gone_sh, fun x14 x15 H16 ⟨e3, _, e4⟩ e5 H17 hI => ⟨?_, hI.pres, ?_⟩⟩
      · have h2 : (refR (refOf n) c).2 = false := by simp [refR, refOf, hd, hc, ← e2]; simpa using ho
        simp [cellN, h2]; exact e3
      · have h2 : (refR (refOf n) c).2 = false := by simp [refR, refOf, hd, hc, ← e2]; simpa using ho
        have h3 : anyC n c = true := by simp [anyC, h2]
        rw [h3, Bool.or_true, (hI.slot 0 _ rfl).2.1, obj_inj e4 e5]
    all_goals
      have h2 : (refR (refOf n) c).2 = true := by simp [refR, refOf, hd, hc, ← e2]; simpa using ho
      refine ⟨?_, hI.pres, ?_⟩
      · rw [show cellN n c = refNd (refR (refOf n) c).1 by unfold cellN; rw [if_pos h2]]
        simp [refR, hd, hc, ← e1, refNd, NdC.lv, NdC.cs, refOf]
      · rw [(hI.slot 0 _ rfl).2.1, hcs]
        first
        | (rw [hb, Bool.true_or])
        | (rw [hb, Bool.false_or]; simp only [anyC, h2, Bool.not_true, Bool.false_or, eqRf]; simp only [refR, hd, hc, if_true, Bool.false_eq_true, if_false, refOf, ← e1])
end Go.Proofs.YtjihhflffkoffaaGreatDoor.Z
