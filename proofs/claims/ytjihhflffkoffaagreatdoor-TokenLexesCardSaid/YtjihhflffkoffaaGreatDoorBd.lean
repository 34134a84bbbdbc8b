/- Contracts of functions of the program; no condition. -/
import Derived.Test.YtjihhflffkoffaaGreatDoorT7
import Derived.Test.YtjihhflffkoffaaGreatDoorTj
set_option linter.unusedSimpArgs false
set_option linter.unusedVariables false
set_option linter.unusedSectionVars false
set_option linter.unnecessarySimpa false
namespace Go.Proofs.YtjihhflffkoffaaGreatDoor.Z
open Go Go.Lm
set_option maxRecDepth 100000

/-! strings.Builder -/
theorem rowTB : RowT cfg.P 155 5 1 1 := ⟨by kernel_rfl, by kernel_rfl, by decide, by kernel_rfl, by kernel_rfl, by kernel_rfl, ⟨.int .u8 0, by kernel_rfl, rfl⟩⟩

theorem inv_box {H : LHeap} {i : Nat} {cs : List LV} {e : TypeId} {X : List Nat} (hi : i < H.next) (hg : H.get i = some (Slot.obj ⟨i, cs, e⟩)) (hX : i ∈ X) : Inv X H [⟨i, cs, e⟩] H := by
  refine ⟨.refl _ _, fun k s hs => ?_, fun j k s t hs ht hjk => ?_⟩
  · cases k with
    | zero => cases hs; exact ⟨hi, hg, .inl hX⟩
    | succ k => simp [nth] at hs
  · cases j with
    | succ j => simp [nth] at hs
    | zero => cases k with
      | zero => exact absurd rfl hjk
      | succ k => simp [nth] at ht

theorem okId_box {X : List Nat} {H0 : LHeap} {i : Nat} {cs : List LV} {e : TypeId} {j : Nat} (h : j ∈ X ∨ H0.next ≤ j) (hn : j ≠ i) : okId X H0 [⟨i, cs, e⟩] j := by
  refine ⟨h, fun k s hs => ?_⟩
  cases k with
  | zero => cases hs; exact fun e => hn e.symm
  | succ k => simp [nth] at hs

def BldS (i : Nat) (a : Option LAddr) (k : Nat) (q : Cap) (H : LHeap) : LV → LHeap → Prop := fun v H' => PresX [i] H H' ∧ v = .tuple [] ∧ H'.get i = some (Slot.obj ⟨i, [.ptr (some ⟨i, 2, 0⟩), .slice a k q], 162⟩)

theorem s244 (i : Nat) (p a : Option LAddr) (k : Nat) (q : Cap) (H : LHeap) (hi : i < H.next) (hg : H.get i = some (Slot.obj ⟨i, [.ptr p, .slice a k q], 162⟩)) (hp : p = none ∨ p = some ⟨i, 2, 0⟩) :
    CallL cfg 244 [.ptr (some ⟨i, 2, 0⟩)] H (BldS i a k q H) := by
  rcases hp with rfl | rfl
  · refine e244a _ [i] i a k q H (inv_box hi hg (by simp)) fun _ => ⟨some ⟨i, 2, 0⟩, [], H, ⟨?_, .refl _ _, fun j hj => by cases hj⟩, fun _ => ⟨some ⟨i, 2, 0⟩, [], H, ⟨?_, .refl _ _, fun j hj => by cases hj⟩, fun H4 p4 hI => ⟨hI.pres, rfl, ?_⟩⟩⟩
    · show (match convertL cfg.P H 160 290 (.ptr (some ⟨i, 2, 0⟩)) with | some (x, H') => some [(LNext.value x, H')] | none => none) = _
      have : convertL cfg.P H 160 290 (.ptr (some ⟨i, 2, 0⟩)) = some (.ptr (some ⟨i, 2, 0⟩), H) := by
        unfold convertL
        rw [show cfg.P.underlying 160 = some (.pointer 162) by kernel_rfl, show cfg.P.underlying 290 = some .unsafePointer by kernel_rfl]
        simp only [hg, Slot.obj, show sizeOfT cfg.P 162 = some 2 by kernel_rfl]
        rfl
      rw [this]
    · show (match convertL cfg.P H 290 160 (.ptr (some ⟨i, 2, 0⟩)) with | some (x, H') => some [(LNext.value x, H')] | none => none) = _
      have : convertL cfg.P H 290 160 (.ptr (some ⟨i, 2, 0⟩)) = some (.ptr (some ⟨i, 2, 0⟩), H) := by
        unfold convertL
        rw [show cfg.P.underlying 160 = some (.pointer 162) by kernel_rfl, show cfg.P.underlying 290 = some .unsafePointer by kernel_rfl]
        simp only [hg, Slot.obj, show sizeOfT cfg.P 162 = some 2 by kernel_rfl, List.length_cons, List.length_nil]
        rw [if_pos (show (Nat.beq 2 2 && liesAt cfg.P cfg.P.depth 162 (2 / cfg.P.cellsOf 162) 0 162 1) = true by kernel_rfl)]
      rw [this]
    · exact (hI.slot 0 _ rfl).2.1
  · refine e244b _ [i] i a k q H (inv_box hi hg (by simp)) fun _ => ⟨false, [], H, ⟨?_, .refl _ _, fun j hj => by cases hj⟩, fun h => (by cases h), fun _ hI => ⟨hI.pres, rfl, (hI.slot 0 _ rfl).2.1⟩⟩
    have he : eqL cfg.P 50 160 (.ptr (some ⟨i, 2, 0⟩)) (.ptr (some ⟨i, 2, 0⟩)) = some true := by
      unfold eqL
      rw [show cfg.P.underlying 160 = some (.pointer 162) by kernel_rfl]
      simp only [show sizeOfT cfg.P 162 = some 2 by kernel_rfl, Nat.beq_refl, Bool.and_self, if_true]
    have hb : binL cfg.P .neq 160 (.ptr (some ⟨i, 2, 0⟩)) (.ptr (some ⟨i, 2, 0⟩)) false false = some (.bool false) := by
      unfold binL
      simp only [he, show aggOk cfg.P 160 (.ptr (some ⟨i, 2, 0⟩)) (.ptr (some ⟨i, 2, 0⟩)) false false = true from rfl, if_true, Option.map_some, Bool.not_true]
    show (match binL cfg.P .neq 160 (.ptr (some ⟨i, 2, 0⟩)) (.ptr (some ⟨i, 2, 0⟩)) false false with | some x => some [(LNext.value x, H)] | none => none) = _
    rw [hb]

structure Bld (H : LHeap) (i : Nat) (p a : Option LAddr) (n : Nat) (q : Cap) (s : List UInt8) : Prop where
  lt : i < H.next
  get : H.get i = some (Slot.obj ⟨i, [.ptr p, .slice a n q], 162⟩)
  row : RowAt H 5 1 a n q (bcs s)
  me : p = none ∨ p = some ⟨i, 2, 0⟩
  ne : ∀ ad, a = some ad → ad.id ≠ i
  pos : ∀ ad, a = some ad → 0 < n ∧ q = .free 1

theorem Bld.len {H : LHeap} {i : Nat} {p a : Option LAddr} {n : Nat} {q : Cap} {s : List UInt8} (h : Bld H i p a n q s) : n = s.length := by
  have := h.row.len
  rw [bcs_len] at this; omega

def idl : Option LAddr → List Nat
  | some ad => [ad.id]
  | none => []

/-- What is kept of a Builder by what is done elsewhere. -/
theorem Bld.on {H H' : LHeap} {i : Nat} {p a : Option LAddr} {n : Nat} {q : Cap} {s : List UInt8} (h : Bld H i p a n q s) {X : List Nat} (k : PresX X H H') (h1 : i ∉ X) (h2 : ∀ ad, a = some ad → ad.id ∉ X) : Bld H' i p a n q s :=
  ⟨Nat.lt_of_lt_of_le h.lt k.next, by rw [(k.keep i h.lt h1).get]; exact h.get,
   h.row.on k.next (fun ad e => by subst e; exact k.keep _ h.row.id (h2 _ rfl)) (fun ad e _ => by subst e; exact (k.keep _ h.row.id (h2 _ rfl)).get), h.me, h.ne, h.pos⟩

/-- Behind a write. -/
def BldW (i : Nat) (a : Option LAddr) (t : List UInt8) (v : LV) (H : LHeap) : LV → LHeap → Prop := fun w H' => w = v ∧ PresX (i :: idl a) H H' ∧ ∃ a' n' q', Bld H' i (some ⟨i, 2, 0⟩) a' n' q' t ∧ ∀ ad', a' = some ad' → (∃ ad, a = some ad ∧ ad.id = ad'.id) ∨ H.next ≤ ad'.id

theorem BldW.use {i : Nat} {a : Option LAddr} {t : List UInt8} {v : LV} {H : LHeap} {sh : Sh} (h : hasSh sh v) : ∀ w H', BldW i a t v H w H' → PresX (i :: idl a) H H' ∧ hasSh sh w ∧ ∃ cs, hasSh (.agg [.ptr, .slice]) (.agg cs) ∧ List.length cs = 2 ∧ H'.get i = some (Slot.obj ⟨i, cs, 162⟩) := by
  rintro w H' ⟨rfl, hp, a', n', q', hb, _⟩
  exact ⟨hp, h, _, ⟨_, _, _, _, rfl⟩, rfl, hb.get⟩

theorem app_str {H : LHeap} {a : Option LAddr} {n : Nat} {q : Cap} {t : List UInt8} {r : LV} : appendL cfg.P H [155, 9] [.slice a n q, .str t] = appendL cfg.P H [155, 155] [.slice a n q, .str t] := by
  unfold appendL
  simp only [show isIntT cfg.P 9 = false by kernel_rfl, show isIntT cfg.P 155 = false by kernel_rfl, show (cfg.P.underlying 9).isNone = false by kernel_rfl, show (cfg.P.underlying 155).isNone = false by kernel_rfl]

theorem takeN_all {α : Type} (l : List α) : takeN l.length l = some l := by rw [takeN_of _ _ (Nat.le_refl _), List.take_length]

theorem app_nil {H : LHeap} {a : Option LAddr} {n : Nat} {q : Cap} : appendL cfg.P H [155, 155] [.slice a n q, .str []] = some (.slice a n q, H) := by
  unfold appendL
  simp only [rowTB.elem, rowTB.sized, rowTB.bytes, rowTB.noInt, rowTB.und, Bool.false_eq_true, if_false]
  rfl

/-- A text is written behind a row. -/
theorem row_str {H : LHeap} {a : Option LAddr} {n : Nat} {q : Cap} {s : List UInt8} (h : RowAt H 5 1 a n q (bcs s)) (hp : ∀ ad, a = some ad → 0 < n ∧ q = .free 1) (t : List UInt8) (hb : n + t.length ≤ 100000) :
    ∃ Y a' q' H', appendL cfg.P H [155, 155] [.slice a n q, .str t] = some (.slice a' (n + t.length) q', H') ∧ PresX Y H H' ∧ RowAt H' 5 1 a' (n + t.length) q' (bcs (s ++ t)) ∧ (∀ i ∈ Y, ∃ ad, a = some ad ∧ ad.id = i) ∧
      (∀ ad', a' = some ad' → (∃ ad, a = some ad ∧ ad.id = ad'.id) ∨ H.next ≤ ad'.id) ∧ (∀ ad', a' = some ad' → 0 < n + t.length ∧ q' = .free 1) := by
  cases t with
  | nil => exact ⟨[], a, q, H, app_nil, .refl _ _, by simpa using h, (fun i hi => by cases hi), fun ad' h => .inl ⟨ad', h, rfl⟩, fun ad h => hp ad h⟩
  | cons b t =>
    have hnc : ∀ l : List UInt8, allCells (bcs l) = true := by
      intro l
      unfold bcs
      induction l with
      | nil => rfl
      | cons b l ih => exact ih
    obtain ⟨Y, a', q', H9, e9, p9, r9, hY, ha, hq⟩ := h.append2 rowTB (x := .str (b :: t)) (m := (b :: t).length) (new := bcs (b :: t)) rfl (by unfold firstCellsL; simp only [Nat.beq_refl, if_true, takeN_all, Option.map_some]; rfl) (by rw [bcs_len]; omega) (hnc _) (by omega)
    exact ⟨Y, a', q', H9, e9, p9, by rw [bcs_app]; exact r9, hY, ha, fun _ _ => ⟨by simp; omega, hq (by simp)⟩⟩

theorem s161 (i : Nat) {p a : Option LAddr} {n : Nat} {q : Cap} {s : List UInt8} (t : List UInt8) (H : LHeap) (h : Bld H i p a n q s) (hl : s.length + t.length ≤ 100000) :
    CallL cfg 161 [.ptr (some ⟨i, 2, 0⟩), .str t] H (BldW i a (s ++ t) (.tuple [.int .i64 ((t.length : Nat) : Int), .nilIface]) H) := by
  refine e161t _ (i :: idl a) i p a n q t H (inv_box h.lt h.get (by simp)) fun _ => ⟨_, s244 i p a n q H h.lt h.get h.me, fun v H' ⟨h1, h2, h3⟩ => ⟨h1, by rw [h2]; exact rfl, _, ⟨_, _, _, _, rfl⟩, rfl, h3⟩, fun p1 a2 l3 c4 H5 ⟨p5, _, g5⟩ g5' hI5 => ?_⟩
  rw [g5'] at g5
  simp only [Option.some.injEq, Slot.obj, LObj.cells.injEq, List.cons.injEq, LV.ptr.injEq, LV.slice.injEq, and_true] at g5
  obtain ⟨⟨rfl, rfl, rfl, rfl⟩, _⟩ := g5
  have r5 : RowAt H5 5 1 a2 l3 c4 (bcs s) := h.row.on p5.next (fun ad e => by subst e; exact p5.keep _ h.row.id (by simpa using h.ne _ rfl)) (fun ad e _ => by subst e; exact (p5.keep _ h.row.id (by simpa using h.ne _ rfl)).get)
  have hn := h.len
  obtain ⟨Y, a', q', H9, e9, p9, r9, hY, ha, hpos⟩ := row_str r5 h.pos t (by omega)
  have ne9 : ∀ ad', a' = some ad' → ad'.id ≠ i := by
    intro ad' e
    rcases ha ad' e with ⟨ad, e1, e2⟩ | e1
    · rw [← e2]; exact h.ne _ e1
    · exact fun e => Nat.lt_irrefl _ (Nat.lt_of_lt_of_le (by rw [e]; exact Nat.lt_of_lt_of_le h.lt p5.next) e1)
  refine ⟨Y, a', l3 + t.length, q', H9, ⟨by rw [app_str (r := .undef)]; exact e9, p9, fun j hj => ?_⟩, fun H10 p10 hI => ⟨rfl, hI.pres, a', l3 + t.length, q', ⟨Nat.lt_of_lt_of_le h.lt hI.pres.next, (hI.slot 0 _ rfl).2.1, ?_, .inr rfl, ne9, hpos⟩, fun ad' e => ?_⟩⟩
  · obtain ⟨ad, e1, e2⟩ := hY j hj
    subst e1
    exact okId_box (.inl (by simp [idl, e2])) (by rw [← e2]; exact h.ne _ rfl)
  · exact r9.on p10.next (fun ad e => by subst e; exact p10.keep _ r9.id (by simpa using ne9 _ rfl)) (fun ad e _ => by subst e; exact (p10.keep _ r9.id (by simpa using ne9 _ rfl)).get)
  · rcases ha ad' e with e1 | e1
    · exact .inl e1
    · exact .inr (Nat.le_trans p5.next e1)

theorem s160 (i : Nat) {p a : Option LAddr} {n : Nat} {q : Cap} {s : List UInt8} (c : UInt8) (H : LHeap) (h : Bld H i p a n q s) (hl : s.length ≤ 100000) :
    CallL cfg 160 [.ptr (some ⟨i, 2, 0⟩), .int .u8 (c.toNat : Int)] H (BldW i a (s ++ [c]) .nilIface H) := by
  refine e160t _ (i :: idl a) i p a n q _ H (inv_box h.lt h.get (by simp)) fun _ => ⟨_, s244 i p a n q H h.lt h.get h.me, fun v H' ⟨h1, h2, h3⟩ => ⟨h1, by rw [h2]; exact rfl, _, ⟨_, _, _, _, rfl⟩, rfl, h3⟩, fun p1 a2 l3 c4 H5 ⟨p5, _, g5⟩ g5' H6 e6 hI6 => ?_⟩
  rw [g5'] at g5
  simp only [Option.some.injEq, Slot.obj, LObj.cells.injEq, List.cons.injEq, LV.ptr.injEq, LV.slice.injEq, and_true] at g5
  obtain ⟨⟨rfl, rfl, rfl, rfl⟩, _⟩ := g5
  have p6 : PresX [] H5 H6 := by rw [e6]; exact .push _ _ _
  have p56 : PresX [i] H H6 := p5.trans p6 (fun j hj => by cases hj)
  have r5 : RowAt H6 5 1 a2 l3 c4 (bcs s) := h.row.on p56.next (fun ad e => by subst e; exact p56.keep _ h.row.id (by simpa using h.ne _ rfl)) (fun ad e _ => by subst e; exact (p56.keep _ h.row.id (by simpa using h.ne _ rfl)).get)
  have hn := h.len
  have hload : loadN H6 ⟨H5.next, 1, 0⟩ 1 = some [.int .u8 (c.toNat : Int)] := by
    unfold loadN
    rw [e6, LHeap.get_push, if_pos rfl]
    rfl
  obtain ⟨Y, a', q', H9, e9, p9, r9, hY, ha, hq⟩ := r5.append2 rowTB (x := .slice (some ⟨H5.next, 1, 0⟩) 1 (.exact 1)) (m := 1) (new := bcs [c]) rfl (by unfold firstCellsL; exact hload) rfl rfl (by omega)
  have ne9 : ∀ ad', a' = some ad' → ad'.id ≠ i := by
    intro ad' e
    rcases ha ad' e with ⟨ad, e1, e2⟩ | e1
    · rw [← e2]; exact h.ne _ e1
    · exact fun e => Nat.lt_irrefl _ (Nat.lt_of_lt_of_le (by rw [e]; exact Nat.lt_of_lt_of_le h.lt (Nat.le_of_lt (by rw [e6]; exact Nat.lt_of_le_of_lt p5.next (Nat.lt_succ_self _)))) e1)
  refine ⟨Y, a', l3 + 1, q', H9, ⟨e9, p9, fun j hj => ?_⟩, fun H10 p10 hI => ⟨rfl, hI.pres, a', l3 + 1, q', ⟨Nat.lt_of_lt_of_le h.lt hI.pres.next, (hI.slot 0 _ rfl).2.1, ?_, .inr rfl, ne9, fun _ _ => ⟨by omega, hq (by omega)⟩⟩, fun ad' e => ?_⟩⟩
  · obtain ⟨ad, e1, e2⟩ := hY j hj
    subst e1
    exact okId_box (.inl (by simp [idl, e2])) (by rw [← e2]; exact h.ne _ rfl)
  · rw [bcs_app]
    exact r9.on p10.next (fun ad e => by subst e; exact p10.keep _ r9.id (by simpa using ne9 _ rfl)) (fun ad e _ => by subst e; exact (p10.keep _ r9.id (by simpa using ne9 _ rfl)).get)
  · rcases ha ad' e with e1 | e1
    · exact .inl e1
    · exact .inr (Nat.le_trans p56.next e1)

/-- The text. -/
theorem s112 (i : Nat) {p a : Option LAddr} {n : Nat} {q : Cap} {s : List UInt8} (H : LHeap) (h : Bld H i p a n q s) (hl : s.length ≤ 100000) :
    CallL cfg 112 [.ptr (some ⟨i, 2, 0⟩)] H (fun v H' => PresX (idl a) H H' ∧ v = .str s) := by
  have hn := h.len
  have hg := h.get
  have hrow := h.row
  cases a with
  | none =>
    have h0 : n = 0 ∧ q = .exact 0 := by
      generalize bcs s = cs at hrow
      cases hrow; exact ⟨rfl, rfl⟩
    obtain ⟨rfl, rfl⟩ := h0
    have hs : s = [] := List.eq_nil_of_length_eq_zero (by omega)
    subst hs
    refine e112n _ [i] i p H (inv_box h.lt hg (by simp)) fun _ => ⟨none, [], H, ⟨rfl, .refl _ _, fun j hj => by cases hj⟩, rfl, fun _ => ⟨[], [], H, ⟨rfl, .refl _ _, fun j hj => by cases hj⟩, fun hI => ⟨.refl _ _, rfl⟩⟩⟩
  | some ad =>
    obtain ⟨hpos, rfl⟩ := h.pos ad rfl
    obtain ⟨k, rfl⟩ : ∃ k, n = k + 1 := ⟨n - 1, by omega⟩
    have hload : loadN H ad (k + 1) = some (bcs s) := by
      have := hrow.loadAll
      unfold firstCellsL at this
      simpa using this
    have hobj : ∃ m, H.get ad.id = some (.cells (bcs s) 5 (k + 1) m .none false false) ∧ ad.ver = k + 1 := by
      generalize bcs s = cs at hrow
      cases hrow with
      | free r n m cs hi h1 h2 h3 h4 => exact ⟨m, by simpa using h1, by simp⟩
    obtain ⟨m, hobj, hver⟩ := hobj
    have hfz : freezeL H ad (k + 1) = some (H.put ad.id (.cells (bcs s) 5 (k + 1) m (.range ad.off (ad.off + (k + 1))) false false)) := by
      unfold freezeL
      simp only [hobj, hver, Nat.beq_refl, Bool.not_false, Bool.and_self, if_true]
    refine e112s _ [i, ad.id] i p ad k (.free 1) H (inv_box h.lt hg (by simp)) fun _ => ⟨some ad, [], H, ⟨rfl, .refl _ _, fun j hj => by cases hj⟩, rfl, fun _ => ⟨s, [ad.id], H.put ad.id (.cells (bcs s) 5 (k + 1) m (.range ad.off (ad.off + (k + 1))) false false), ⟨?_, .put _ _ _, fun j hj => ?_⟩, fun hI => ⟨.put _ _ _, rfl⟩⟩⟩
    · show (match builtinL cfg H .unsafeString [250, 3] [.ptr (some ad), .int .i64 (Int.ofNat (k + 1))] with | some x => some [x] | none => none) = _
      have hbr : byteRow cfg.P 5 [250, 3] = true := by kernel_rfl
      have hble : Nat.ble (k + 1) 9223372036854775807 = true := by rw [Nat.ble_eq]; omega
      have : builtinL cfg H .unsafeString [250, 3] [.ptr (some ad), .int .i64 (Int.ofNat (k + 1))] = some (.value (.str s), H.put ad.id (.cells (bcs s) 5 (k + 1) m (.range ad.off (ad.off + (k + 1))) false false)) := by
        unfold builtinL
        simp only [hobj, hbr, hble, Bool.and_self, hload, bytes_bcs, hfz]
      rw [this]
    · rw [List.mem_singleton.1 hj]
      exact okId_box (.inl (by simp)) (h.ne ad rfl)
end Go.Proofs.YtjihhflffkoffaaGreatDoor.Z
