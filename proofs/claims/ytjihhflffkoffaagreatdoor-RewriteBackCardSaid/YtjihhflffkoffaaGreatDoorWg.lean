/- Contracts of functions of the program; no condition. -/
import Derived.Test.YtjihhflffkoffaaGreatDoorWf
set_option linter.unusedSimpArgs false
set_option linter.unusedVariables false
set_option linter.unusedSectionVars false
set_option linter.unnecessarySimpa false
namespace Go.Proofs.YtjihhflffkoffaaGreatDoor.Z
open Go Go.Lm
set_option maxRecDepth 100000

theorem RefC.lv_inj {a b : RefC} (h : a.lv = b.lv) : a = b := by
  cases a; cases b
  simp only [RefC.lv, RefC.cs, LV.agg.injEq, List.cons.injEq, LV.str.injEq, LV.int.injEq, LV.bool.injEq, true_and, and_true] at h
  obtain ⟨h1, h2, h3, h4, h5, h6⟩ := h
  simp [h1, h2, h3, h4, h5, h6]

theorem s218b (i : Nat) (n : NdC) (p : PlaceC) (c : ChangeC) (q : LAddr) (b : Bool) (H : LHeap) (hd : c.drop = true) (hT : TurnAt H i p c q b) : CallL cfg 218 [.ptr (some ⟨i, 14, 0⟩), n.lv] H (Turned i p c q (b || anyC n c) (cellN n c) H) := by
  have hcs : ∀ b, (turn p c q b).cs = [.str p.book, .str p.sheet, .int .i64 p.row, .int .i64 p.col, .str c.book, .str c.sheet, .bool c.drop, .bool c.cols, .int .i64 c.shiftAt, .int .i64 c.shiftN, .int .i64 c.shiftMost, .func (.func 216) [] [], .func (.func 217) [] [], .bool b] := by
    intro b; simp [turn, hd, TurnC.cs]
  have hI := Inv.of1 hT.lt hT.get
  rw [hcs] at hI
  have h2 : (refR (refOf n) c).2 = false := by simp [refR, hd]
  have h3 : anyC n c = true := by simp [anyC, h2]
  refine e218b _ i n p c b H hI fun i0 H1 i2 H3 i4 H5 H6 => ⟨fun hc => ⟨rfl, fun hI => ⟨_, s216 n.refCol H6, Ret.use ⟨_, _, rfl⟩, fun m ok H11 ⟨e, _⟩ => ?_⟩⟩, fun hc => ⟨rfl, fun hI => ⟨_, s216 n.refRow H6, Ret.use ⟨_, _, rfl⟩, fun m ok H11 ⟨e, _⟩ => ?_⟩⟩⟩
  all_goals
    simp only [pairL, LV.tuple.injEq, List.cons.injEq, LV.int.injEq, LV.bool.injEq, true_and, and_true] at e
    obtain ⟨e1, e2⟩ := e
    refine ⟨fun ho hI => ?_, fun ho => by rw [e2] at ho; cases ho⟩
    rw [← hcs b] at hI
    refine ⟨_, gone_part hI, gone_sh, fun x14 x15 H16 ⟨e3, _, e4⟩ e5 H17 hI => ⟨?_, hI.pres, ?_⟩⟩
    · simp [cellN, h2]; exact e3
    · rw [h3, Bool.or_true, (hI.slot 0 _ rfl).2.1, obj_inj e4 e5]

def toOf (n : NdC) : RefC := ⟨n.toBook, n.toSheet, n.toRow, n.toCol, n.toFixRow, n.toFixCol⟩
def areaNd (r t : RefC) : NdC := ⟨3, [], 0, 0, [], r.book, r.sheet, r.row, r.col, r.fixRow, r.fixCol, t.book, t.sheet, t.row, t.col, t.fixRow, t.fixCol, none, 0, .exact 0⟩
def areaR (n : NdC) (c : ChangeC) : RefC × RefC × Bool :=
  if c.drop then (cornR (refOf n) (toOf n), cornT (refOf n) (toOf n), false)
  else if c.cols then ({ cornR (refOf n) (toOf n) with col := (spanS (shiftOf c) (cornR (refOf n) (toOf n)).col (cornT (refOf n) (toOf n)).col).1 }, { cornT (refOf n) (toOf n) with col := (spanS (shiftOf c) (cornR (refOf n) (toOf n)).col (cornT (refOf n) (toOf n)).col).2.1 }, (spanS (shiftOf c) (cornR (refOf n) (toOf n)).col (cornT (refOf n) (toOf n)).col).2.2)
  else ({ cornR (refOf n) (toOf n) with row := (spanS (shiftOf c) (cornR (refOf n) (toOf n)).row (cornT (refOf n) (toOf n)).row).1 }, { cornT (refOf n) (toOf n) with row := (spanS (shiftOf c) (cornR (refOf n) (toOf n)).row (cornT (refOf n) (toOf n)).row).2.1 }, (spanS (shiftOf c) (cornR (refOf n) (toOf n)).row (cornT (refOf n) (toOf n)).row).2.2)
def areaN (n : NdC) (c : ChangeC) : NdC := if (areaR n c).2.2 then areaNd (areaR n c).1 (areaR n c).2.1 else goneN
def anyA (n : NdC) (c : ChangeC) : Bool := !(areaR n c).2.2 || (!eqRf (areaR n c).1 (refOf n) || !eqRf (areaR n c).2.1 (toOf n))

theorem s219a (i : Nat) (n : NdC) (p : PlaceC) (c : ChangeC) (q : LAddr) (b : Bool) (H : LHeap) (hd : c.drop = false) (hT : TurnAt H i p c q b) : CallL cfg 219 [.ptr (some ⟨i, 14, 0⟩), n.lv] H (Turned i p c q (b || anyA n c) (areaN n c) H) := by
  have hcs : ∀ b, (turn p c q b).cs = [.str p.book, .str p.sheet, .int .i64 p.row, .int .i64 p.col, .str c.book, .str c.sheet, .bool c.drop, .bool c.cols, .int .i64 c.shiftAt, .int .i64 c.shiftN, .int .i64 c.shiftMost, .func (.func 213) [] [.ptr (some q)], .func (.func 214) [] [.ptr (some q)], .bool b] := by
    intro b; simp [turn, hd, TurnC.cs]
  have hI := Inv.of1 hT.lt hT.get
  rw [hcs] at hI
  have ldq : ∀ H', PresX [i] H H' → loadT cfg.P H' 96 ⟨q.id, q.ver, q.off + 4⟩ = some (shiftOf c).lv := fun H' hp => hp.load (a := ⟨q.id, q.ver, q.off + 4⟩) hT.qlt (by simpa using hT.ne) hT.shift
  refine e219a _ i n p c q b H hI fun i0 H1 i2 H3 hI => ⟨_, s273 (refOf n) (toOf n) H3, Ret.use ⟨_, _, rfl⟩, fun x5 x6 H7 ⟨e, _⟩ i8 H9 i10 H11 H12 H13 => ?_⟩
  simp only [LV.tuple.injEq, List.cons.injEq, and_true] at e
  obtain ⟨ea, eb⟩ := e
  have ea := RefC.lv_inj ea
  have eb := RefC.lv_inj eb
  refine ⟨fun hc => ⟨rfl, fun hI => ⟨_, s214 q (shiftOf c) x5.col x6.col H13 (ldq H13 hI.pres), Ret.use ⟨_, _, _, rfl⟩, fun m k ok H19 ⟨e, _⟩ => ?_⟩⟩, fun hc => ⟨rfl, fun hI => ⟨_, s214 q (shiftOf c) x5.row x6.row H13 (ldq H13 hI.pres), Ret.use ⟨_, _, _, rfl⟩, fun m k ok H19 ⟨e, _⟩ => ?_⟩⟩⟩
  all_goals
    simp only [tripL, LV.tuple.injEq, List.cons.injEq, LV.int.injEq, LV.bool.injEq, true_and, and_true] at e
    obtain ⟨e1, e2, e3⟩ := e
    refine ⟨fun ho hI => ?_, fun ho H26 H27 => ⟨fun hb H28 H29 hI => ?_, fun hb => ⟨fun hq H31 H32 hI => ?_, fun hq H34 H35 hI => ?_⟩⟩⟩
    · rw [← hcs b] at hI
      have h2 : (areaR n c).2.2 = false := by simp [areaR, hd, hc, ← ea, ← eb, ← e3]; simpa using ho
      refine ⟨_, gone_part hI, gone_sh, fun x14 x15 H16 ⟨e3, _, e4⟩ e5 H17 hI => ⟨?_, hI.pres, ?_⟩⟩
      · simp [areaN, h2]; exact e3
      · have h3 : anyA n c = true := by simp [anyA, h2]
        rw [h3, Bool.or_true, (hI.slot 0 _ rfl).2.1, obj_inj e4 e5]
    all_goals
      have h2 : (areaR n c).2.2 = true := by simp [areaR, hd, hc, ← ea, ← eb, ← e3]; simpa using ho
      refine ⟨?_, hI.pres, ?_⟩
      · rw [show areaN n c = areaNd (areaR n c).1 (areaR n c).2.1 by unfold areaN; rw [if_pos h2]]
        simp [areaR, hd, hc, ← ea, ← eb, ← e1, ← e2, areaNd, NdC.lv, NdC.cs]
      · rw [(hI.slot 0 _ rfl).2.1, hcs]
        first
        | (rw [hb, Bool.true_or])
        | (rw [hb, Bool.false_or]; simp only [anyA, h2, Bool.not_true, Bool.false_or, eqRf]; simp only [areaR, hd, hc, if_true, Bool.false_eq_true, if_false, refOf, toOf] at ea eb ⊢; simp only [← ea, ← eb, ← e1, ← e2]; simp only [hq, Bool.true_or, Bool.false_or])

theorem s219b (i : Nat) (n : NdC) (p : PlaceC) (c : ChangeC) (q : LAddr) (b : Bool) (H : LHeap) (hd : c.drop = true) (hT : TurnAt H i p c q b) : CallL cfg 219 [.ptr (some ⟨i, 14, 0⟩), n.lv] H (Turned i p c q (b || anyA n c) (areaN n c) H) := by
  have hcs : ∀ b, (turn p c q b).cs = [.str p.book, .str p.sheet, .int .i64 p.row, .int .i64 p.col, .str c.book, .str c.sheet, .bool c.drop, .bool c.cols, .int .i64 c.shiftAt, .int .i64 c.shiftN, .int .i64 c.shiftMost, .func (.func 216) [] [], .func (.func 217) [] [], .bool b] := by
    intro b; simp [turn, hd, TurnC.cs]
  have hI := Inv.of1 hT.lt hT.get
  rw [hcs] at hI
  have h2 : (areaR n c).2.2 = false := by simp [areaR, hd]
  have h3 : anyA n c = true := by simp [anyA, h2]
  refine e219b _ i n p c b H hI fun i0 H1 i2 H3 hI => ⟨_, s273 (refOf n) (toOf n) H3, Ret.use ⟨_, _, rfl⟩, fun x5 x6 H7 _ i8 H9 i10 H11 H12 H13 => ⟨fun hc => ⟨rfl, fun hI => ⟨_, s217 x5.col x6.col H13, Ret.use ⟨_, _, _, rfl⟩, fun m k ok H19 ⟨e, _⟩ => ?_⟩⟩, fun hc => ⟨rfl, fun hI => ⟨_, s217 x5.row x6.row H13, Ret.use ⟨_, _, _, rfl⟩, fun m k ok H19 ⟨e, _⟩ => ?_⟩⟩⟩⟩
  all_goals
    simp only [tripL, LV.tuple.injEq, List.cons.injEq, LV.int.injEq, LV.bool.injEq, true_and, and_true] at e
    obtain ⟨e1, e2, e3⟩ := e
    refine ⟨fun ho hI => ?_, fun ho => by rw [e3] at ho; cases ho⟩
    rw [← hcs b] at hI
    refine ⟨_, gone_part hI, gone_sh, fun x14 x15 H16 ⟨e3, _, e4⟩ e5 H17 hI => ⟨?_, hI.pres, ?_⟩⟩
    · simp [areaN, h2]; exact e3
    · rw [h3, Bool.or_true, (hI.slot 0 _ rfl).2.1, obj_inj e4 e5]

theorem s218 (i : Nat) (n : NdC) (p : PlaceC) (c : ChangeC) (q : LAddr) (b : Bool) (H : LHeap) (hT : TurnAt H i p c q b) : CallL cfg 218 [.ptr (some ⟨i, 14, 0⟩), n.lv] H (Turned i p c q (b || anyC n c) (cellN n c) H) := by
  cases hd : c.drop
  · exact s218a i n p c q b H hd hT
  · exact s218b i n p c q b H hd hT
theorem s219 (i : Nat) (n : NdC) (p : PlaceC) (c : ChangeC) (q : LAddr) (b : Bool) (H : LHeap) (hT : TurnAt H i p c q b) : CallL cfg 219 [.ptr (some ⟨i, 14, 0⟩), n.lv] H (Turned i p c q (b || anyA n c) (areaN n c) H) := by
  cases hd : c.drop
  · exact s219a i n p c q b H hd hT
  · exact s219b i n p c q b H hd hT

theorem turned_sh {i : Nat} {p : PlaceC} {c : ChangeC} {q : LAddr} {b : Bool} {n : NdC} {H : LHeap} : ∀ v H', Turned i p c q b n H v H' → PresX [i] H H' ∧ hasSh (.cust NdC NdC.lv) v ∧ ∃ cs, hasSh (.cust TurnC TurnC.lv) (.agg cs) ∧ List.length cs = 14 ∧ H'.get i = some (Slot.obj ⟨i, cs, 194⟩) :=
  fun v H' ⟨e, h1, h2⟩ => ⟨h1, ⟨_, e⟩, _, ⟨turn p c q b, rfl⟩, rfl, h2⟩

/-- The turner is kept, but for what it has seen. -/
theorem TurnAt.on {H H' : LHeap} {i : Nat} {p : PlaceC} {c : ChangeC} {q : LAddr} {b b' : Bool} (h : TurnAt H i p c q b) (hp : PresX [i] H H') (hg : H'.get i = some (Slot.obj ⟨i, (turn p c q b').cs, 194⟩)) : TurnAt H' i p c q b' :=
  ⟨Nat.lt_of_lt_of_le h.lt hp.next, hg, Nat.lt_of_lt_of_le h.qlt hp.next, h.ne, hp.load (a := ⟨q.id, q.ver, q.off + 4⟩) h.qlt (by simpa using h.ne) h.shift⟩
end Go.Proofs.YtjihhflffkoffaaGreatDoor.Z
