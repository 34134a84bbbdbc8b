/- Contracts of functions of the program; no condition. -/
import Derived.Test.YtjihhflffkoffaaGreatDoorTh
set_option linter.unusedSimpArgs false
set_option linter.unusedVariables false
set_option linter.unusedSectionVars false
set_option linter.unnecessarySimpa false
namespace Go.Proofs.YtjihhflffkoffaaGreatDoor.Z
open Go Go.Lm
set_option maxRecDepth 100000

def zeroT : TokC := ⟨0, 0, [], [], [], 0, 0, false, false⟩
def tokL : Option (TokC × Nat) → LV
  | some (t, n) => .tuple [t.lv, .int .i64 (n : Int)]
  | none => .tuple [zeroT.lv, .int .i64 0]
theorem tokL_sh (o : Option (TokC × Nat)) : hasSh (.tuple [(.cust TokC TokC.lv), .int .i64]) (tokL o) := by
  cases o with
  | none => exact ⟨_, _, rfl⟩
  | some r => exact ⟨_, _, rfl⟩

/-! How many letters, digits, _ and $ a text begins with -/
theorem loop240 (s : List UInt8) (hs : s.length ≤ 1000) (H0 : LHeap) (r : Nat) : ∀ (C A : List UInt8) (d : Nat → LV) (H : LHeap), A ++ C = s → A.length + spanF wordB C = r →
    GoesT cfg 240 (Ret (.int .i64 (r : Int)) H0) [] H0 [] (L240t_0 d (A.length : Int) s) (loopAt cfg 240 0) H
  | [], A, d, H, hA, hr => by
    intro hin hI
    have hrl : r = s.length := by rw [← hr, ← hA]; simp [spanF]
    rw [List.append_nil] at hA
    subst hA
    exact g240t_0 _ H0 d A.length A H ⟨fun h => (by simp at h), fun _ hI => ⟨by rw [hrl], hI.pres⟩⟩ hin hI
  | b :: C, A, d, H, hA, hr => by
    intro hin hI
    have hb : byteAt s (A.length : Int) = (b.toNat : Int) := by rw [← hA]; exact byteAt_app A b C
    have hl : A.length + (C.length + 1) = s.length := by rw [← hA]; simp
    have rg : (0 : Int) ≤ (A.length : Int) ∧ (A.length : Int) < ((s.length : Nat) : Int) := by omega
    unfold spanF at hr
    have yes : wordB (b.toNat : Int) = true → ∀ (d : Nat → LV) (H : LHeap), GoesT cfg 240 (Ret (.int .i64 (r : Int)) H0) [] H0 [] (L240t_0 d (lwrap .i64 ((A.length : Int) + 1)) s) (loopAt cfg 240 0) H := by
      intro hw d H
      rw [hw, if_pos rfl] at hr
      rw [lwrap_small (by omega) (by omega), show (A.length : Int) + 1 = (((A ++ [b]).length : Nat) : Int) by simp]
      exact loop240 s hs H0 r C (A ++ [b]) d H (by rw [← hA]; simp) (by simp; omega)
    have no : wordB (b.toNat : Int) = false → r = A.length := by
      intro hw
      rw [hw, if_neg (by simp)] at hr
      omega
    have c157 : CallL cfg 157 [.int .u8 (byteAt s (A.length : Int))] H (Ret (.bool (letF (b.toNat : Int))) H) := by rw [hb]; exact x157 _ H
    have c153 : ∀ H, CallL cfg 153 [.int .u8 (byteAt s (A.length : Int))] H (Ret (.bool (digF (b.toNat : Int))) H) := by intro H; rw [hb]; exact x153 _ H
    refine g240t_0 _ H0 d A.length s H ⟨fun _ => ⟨rg, fun hI => ⟨_, c157, Ret.use ⟨_, rfl⟩, fun b4 H5 ⟨e4, _⟩ => ⟨fun h4 d6 => yes ?_ d6 H5, fun h4 => ⟨rg, fun hI => ⟨_, c153 H5, Ret.use ⟨_, rfl⟩, fun b9 H10 ⟨e9, _⟩ => ⟨fun h9 d11 => yes ?_ d11 H10, fun h9 => ⟨rg, fun h95 d13 => yes ?_ d13 H10, fun h95 => ⟨rg, fun h36 d15 => yes ?_ d15 H10, fun h36 hI => ⟨?_, hI.pres⟩⟩⟩⟩⟩⟩⟩⟩⟩, fun h => (by simp at h; omega)⟩ hin hI
    · cases e4; unfold wordB; rw [h4]; rfl
    · cases e4; cases e9; unfold wordB; rw [h4, h9]; rfl
    · rw [hb] at h95; unfold wordB; rw [h95]; simp
    · rw [hb] at h36; unfold wordB; rw [h36]; simp
    · cases e4; cases e9
      rw [hb] at h95 h36
      rw [no (by unfold wordB; rw [h4, h9, h95, h36]; rfl)]
theorem s240 (s : List UInt8) (hs : s.length ≤ 1000) (H : LHeap) : CallL cfg 240 [.str s] H (Ret (.int .i64 ((spanF wordB s : Nat) : Int)) H) :=
  e240t _ s H fun d => loop240 s hs H _ s [] d H rfl (by simp)

theorem s243 (s : List UInt8) (hs : s.length ≤ 1000) (b : Bool) (H : LHeap) : CallL cfg 243 [.str s, .bool b] H (Ret (.bool (nameF s || (!b && decide (0 ≤ truthF s)))) H) := by
  refine e243t _ s b H fun hI => ⟨_, x97 s H, Ret.use ⟨_, rfl⟩, fun b3 H4 ⟨e3, _⟩ => ⟨fun h3 hI => ⟨?_, hI.pres⟩, fun h3 => ⟨fun hb hI => ⟨_, x182 s hs H4, Ret.use ⟨_, rfl⟩, fun n6 H7 ⟨e6, _⟩ hI => ⟨?_, hI.pres⟩⟩, fun hb hI => ⟨?_, hI.pres⟩⟩⟩⟩
  · cases e3; rw [h3]; rfl
  · cases e3; cases e6; rw [h3, hb]; rfl
  · cases e3; rw [h3, hb]; rfl

def refT (r : RefC) : TokC := ⟨3, 0, [], r.book, r.sheet, r.row, r.col, r.fixRow, r.fixCol⟩
def wordT (b w : List UInt8) : TokC := ⟨4, 0, w, b, [], 0, 0, false, false⟩
def wordF (b w : List UInt8) (n : Nat) : Option (TokC × Nat) := match (if b = [] then cellF w else none) with
  | some r => some (refT r, n)
  | none => if nameF w || (b == [] && decide (0 ≤ truthF w)) then some (wordT b w, n) else none
theorem word_cell {b w : List UInt8} {n : Nat} {r : RefC} (hb : b = []) (h : cellF w = some r) : wordF b w n = some (refT r, n) := by
  unfold wordF; rw [if_pos hb, h]
theorem word_none {b w : List UInt8} {n : Nat} (h : b = [] → cellF w = none) : wordF b w n = if nameF w || (b == [] && decide (0 ≤ truthF w)) then some (wordT b w, n) else none := by
  unfold wordF
  by_cases hb : b = []
  · rw [if_pos hb, h hb]
  · rw [if_neg hb]
def endN (k : Nat) (s : List UInt8) : Nat := k + spanF wordB (s.drop k)
def endM (k : Nat) (s : List UInt8) : Nat := endN k s + (1 + spanF wordB (s.drop (endN k s + 1)))
def bangB (k : Nat) (s : List UInt8) : Bool := (s.drop (endN k s)).take 1 == [33]
def endF (b : List UInt8) (k : Nat) (s : List UInt8) : Option (TokC × Nat) :=
  if bangB k s then (refTF (s.take (endM k s))).map fun r => (refT r, endM k s)
  else wordF b ((s.drop k).take (endN k s - k)) (endN k s)
/-- A ref or a word that a text begins with. -/
def namedF : List UInt8 → Option (TokC × Nat)
  | [] => none
  | c :: t => if c == 91 then match cutF 93 t with
      | some (b, _) => if nameF b then endF b (b.length + 2) (c :: t) else none
      | none => none
    else endF [] 0 (c :: t)

theorem endN_le {k : Nat} {s : List UInt8} (h : k ≤ s.length) : k ≤ endN k s ∧ endN k s ≤ s.length := by
  unfold endN
  have := spanF_le wordB (s.drop k)
  rw [List.length_drop] at this
  omega
theorem bang_lt {k : Nat} {s : List UInt8} (h : bangB k s = true) : endN k s < s.length := by
  apply Classical.byContradiction
  intro hn
  unfold bangB at h
  rw [List.drop_eq_nil_of_le (by omega)] at h
  cases h
theorem endM_le {k : Nat} {s : List UInt8} (hk : k ≤ s.length) (h : bangB k s = true) : endN k s + 1 ≤ endM k s ∧ endM k s ≤ s.length := by
  have h1 := bang_lt h
  unfold endM
  have := spanF_le wordB (s.drop (endN k s + 1))
  rw [List.length_drop] at this
  omega
theorem byte_drop {s : List UInt8} {n : Nat} (h : n < s.length) : ∃ b t, s.drop n = b :: t ∧ byteAt s (n : Int) = (b.toNat : Int) := by
  have h1 : s.drop n = s[n] :: s.drop (n + 1) := List.drop_eq_getElem_cons h
  refine ⟨_, _, h1, ?_⟩
  have := byteAt_app (s.take n) s[n] (s.drop (n + 1))
  rw [← h1, List.take_append_drop, List.length_take, Nat.min_eq_left (by omega)] at this
  exact this
theorem bang_byte {k : Nat} {s : List UInt8} (h : endN k s < s.length) : bangB k s = (byteAt s ((endN k s : Nat) : Int) == 33) := by
  obtain ⟨b, t, h1, h2⟩ := byte_drop h
  unfold bangB
  rw [h1, h2]
  rw [Bool.eq_iff_iff]
  simp only [List.take_succ_cons, List.take_zero, beq_iff_eq, List.cons.injEq, and_true]
  constructor
  · intro e; rw [e]; rfl
  · intro e; exact UInt8.toNat_inj.1 (by show b.toNat = 33; omega)
theorem bang_end {k : Nat} {s : List UInt8} (h : ¬ endN k s < s.length) : bangB k s = false := by
  cases hb : bangB k s with
  | false => rfl
  | true => exact absurd (bang_lt hb) h
theorem sub_part (s : List UInt8) (k n : Nat) : subStr s (k : Int) (n : Int) = (s.drop k).take (n - k) := by unfold subStr; simp
theorem truth_up (w : List UInt8) : decide (0 ≤ truthF w) = (w.map upB == [84, 82, 85, 69] || w.map upB == [70, 65, 76, 83, 69]) := by
  unfold truthF
  cases h : (w.map upB == [84, 82, 85, 69]) with
  | true => rfl
  | false =>
    cases h2 : (w.map upB == [70, 65, 76, 83, 69]) with
    | true => rfl
    | false => rfl
theorem name_ne {s : List UInt8} (h : nameF s = true) : s ≠ [] := by
  intro e; subst e; cases h

/-- The program's. -/
theorem s151 (c : UInt8) (t : List UInt8) (hs : (c :: t).length ≤ 1000) (H : LHeap) : CallL cfg 151 [.str (c :: t)] H (Ret (tokL (namedF (c :: t))) H) := by
  have h0 : byteAt (c :: t) 0 = (c.toNat : Int) := byteAt_app [] c t
  have hnf : namedF (c :: t) = if c == 91 then (match cutF 93 t with
      | some (b, _) => if nameF b then endF b (b.length + 2) (c :: t) else none
      | none => none) else endF [] 0 (c :: t) := rfl
  have hlen : (c :: t).length = t.length + 1 := rfl
  have hd1 : (c :: t).drop 1 = t := rfl
  generalize hst : c :: t = s at *
  have bad : ∀ {H' : LHeap}, namedF s = none → PresX [] H H' → Ret (tokL (namedF s)) H (.tuple [.agg [.int .i64 0, .int .i64 0, .str [], .str [], .str [], .int .i64 0, .int .i64 0, .bool false, .bool false], .int .i64 0]) H' := fun h p => ⟨by rw [h]; rfl, p⟩
  have good : ∀ {H' : LHeap} {t : TokC} {n : Nat}, namedF s = some (t, n) → PresX [] H H' → Ret (tokL (namedF s)) H (.tuple [.agg t.cs, .int .i64 (n : Int)]) H' := fun h p => ⟨by rw [h]; rfl, p⟩
  refine e151t _ s H fun i1 H2 _ _ => ⟨by omega, fun h91 => ?book, fun h91 => ?plain⟩
  case book =>
    have hc : c = 91 := by rw [h0] at h91; exact UInt8.toNat_inj.1 (by show c.toNat = 91; have := eq_of_beq h91; omega)
    rw [hc, beq_self_eq_true, if_pos rfl] at hnf
    rw [sub_drop1, hd1]
    refine ⟨by omega, fun hI => ⟨_, s231 t 93 _ (by omega), Ret.use (cutL_sh _ _), fun s6 s7 b8 H9 ⟨e8, _⟩ => ?_⟩⟩
    have q1 := cut_inv e8
    rw [q1] at hnf
    refine ⟨fun h8 H10 _ hI => bad ?_ hI.pres, fun h8 hI => ⟨_, s90 s6 _, Ret.use ⟨_, rfl⟩, fun b12 H13 ⟨e12, _⟩ => ⟨fun h12 H14 _ hI => bad ?_ hI.pres, fun h12 => ?_⟩⟩⟩
    · have : b8 = false := by simpa using h8
      rw [hnf, this]; rfl
    · have hb8 : b8 = true := by simpa using h8
      cases e12
      have : nameF s6 = false := by simpa using h12
      rw [hnf, hb8]; simp [this]
    · have hb8 : b8 = true := by simpa using h8
      cases e12
      have hn6 : nameF s6 = true := by simpa using h12
      have hbne := name_ne hn6
      have F0 : namedF s = endF s6 (s6.length + 2) s := by rw [hnf, hb8]; simp [hn6]
      rw [hb8] at q1
      have hl6 := cutF_len q1
      have hk : s6.length + 2 ≤ s.length := by omega
      have w1 : lwrap .i64 (((s6.length : Nat) : Int) + 2) = ((s6.length + 2 : Nat) : Int) := by rw [lwrap_small (by omega) (by omega)]; simp
      rw [w1, sub_drop]
      have w2 : lwrap .i64 ((((s6.length + 2) : Nat) : Int) + ((spanF wordB (s.drop (s6.length + 2)) : Nat) : Int)) = ((endN (s6.length + 2) s : Nat) : Int) := by
        have := endN_le hk
        unfold endN at this ⊢
        skip
        rw [lwrap_small (by omega) (by omega)]; simp
      refine ⟨by omega, fun hI => ⟨_, s234 _ _, Ret.use ⟨_, rfl⟩, fun n17 H18 ⟨e17, _⟩ => ?_⟩⟩
      cases e17
      rw [w2, sub_drop]
      have hN := endN_le hk
      generalize hn : endN (s6.length + 2) s = n at *
      refine ⟨by omega, fun hI => ⟨_, s232 _ [33] _, Ret.use ⟨_, rfl⟩, fun b21 H22 ⟨e21, _⟩ => ⟨fun h21 => ?_, fun h21 => ?_⟩⟩⟩
      · have hbang : bangB (s6.length + 2) s = true := by rw [h21] at e21; unfold bangB; rw [hn]; exact (LV.bool.inj e21).symm
        have hM := endM_le hk hbang
        have hlt := bang_lt hbang
        rw [hn] at hM hlt
        have w3 : lwrap .i64 (((n : Nat) : Int) + 1) = ((n + 1 : Nat) : Int) := by rw [lwrap_small (by omega) (by omega)]; simp
        have w4 : lwrap .i64 (((n : Nat) : Int) + lwrap .i64 (1 + ((spanF wordB (s.drop (n + 1)) : Nat) : Int))) = ((endM (s6.length + 2) s : Nat) : Int) := by
          unfold endM at hM ⊢
          rw [hn] at hM ⊢
          rw [lwrap_small (n := 1 + ((spanF wordB (s.drop (n + 1)) : Nat) : Int)) (by omega) (by omega), lwrap_small (by omega) (by omega)]; simp
        rw [w3, sub_drop]
        refine ⟨by omega, fun hI => ⟨_, s234 _ _, Ret.use ⟨_, rfl⟩, fun n25 H26 ⟨e25, _⟩ => ?_⟩⟩
        cases e25
        rw [w4, sub_take]
        have F1 : namedF s = (refTF (s.take (endM (s6.length + 2) s))).map fun r => (refT r, endM (s6.length + 2) s) := by rw [F0]; unfold endF; rw [hbang, if_pos rfl]
        refine ⟨by omega, fun hI => ⟨_, s235 _ (by rw [List.length_take]; omega) _, Ret.use (cellL_sh _), fun x29 b30 H31 ⟨e30, _⟩ i32 H33 _ _ H34 _ => ⟨fun h H35 _ hI => bad ?_ hI.pres, fun h H36 _ hI => good (t := refT x29) ?_ hI.pres⟩⟩⟩
        · have hb : b30 = false := by simpa using h
          rw [F1, cellL_inv e30, hb]; rfl
        · have hb : b30 = true := by simpa using h
          rw [F1, cellL_inv e30, hb]; rfl
      · have hbang : bangB (s6.length + 2) s = false := by rw [h21] at e21; unfold bangB; rw [hn]; exact (LV.bool.inj e21).symm
        rw [sub_part]
        generalize hw : (s.drop (s6.length + 2)).take (n - (s6.length + 2)) = w at *
        have hwl : w.length ≤ 1000 := by rw [← hw, List.length_take]; first | omega | (rw [List.length_drop]; omega)
        have F1 : namedF s = wordF s6 w n := by rw [F0]; unfold endF; rw [hbang, hn, hw]; rfl
        refine ⟨by omega, fun h6 => absurd (eq_of_beq h6) hbne, fun h6 hI => ⟨_, s175 w _ (by omega), Ret.use ⟨_, rfl⟩, fun s58 H59 ⟨e58, _⟩ hI => ⟨_, s90 w _, Ret.use ⟨_, rfl⟩, fun b61 H62 ⟨e61, _⟩ => ⟨fun h61 => ⟨fun h6' H63 _ hI => bad ?_ hI.pres, fun h6' => ?_⟩, fun h61 H67 _ hI => good (t := wordT s6 w) ?_ hI.pres⟩⟩⟩⟩
        · cases e61
          have hnm : nameF w = false := by simpa using h61
          rw [F1, word_none (fun e => absurd e hbne), hnm, h6]; rfl
        · rw [h6] at h6'; cases h6'
        · cases e61
          have hnm : nameF w = true := by simpa using h61
          rw [F1, word_none (fun e => absurd e hbne), hnm]; rfl

  case plain =>
    have hc : (c == 91) = false := by
      rw [h0] at h91
      rw [beq_eq_false_iff_ne] at h91 ⊢
      intro e; subst e; exact h91 rfl
    rw [hc, if_neg (by simp)] at hnf
    have F0 : namedF s = endF [] 0 s := hnf
    have hk : 0 ≤ s.length := by omega
    rw [sub_all]
    have w2 : lwrap .i64 ((0 : Int) + ((spanF wordB (s) : Nat) : Int)) = ((endN 0 s : Nat) : Int) := by
      have := endN_le hk
      unfold endN at this ⊢
      rw [List.drop_zero] at this ⊢
      rw [lwrap_small (by omega) (by omega)]; simp
    refine ⟨by omega, fun hI => ⟨_, s234 _ _, Ret.use ⟨_, rfl⟩, fun n17 H18 ⟨e17, _⟩ => ?_⟩⟩
    cases e17
    rw [w2, sub_drop]
    have hN := endN_le hk
    generalize hn : endN 0 s = n at *
    refine ⟨by omega, fun hI => ⟨_, s232 _ [33] _, Ret.use ⟨_, rfl⟩, fun b21 H22 ⟨e21, _⟩ => ⟨fun h21 => ?_, fun h21 => ?_⟩⟩⟩
    · have hbang : bangB 0 s = true := by rw [h21] at e21; unfold bangB; rw [hn]; exact (LV.bool.inj e21).symm
      have hM := endM_le hk hbang
      have hlt := bang_lt hbang
      rw [hn] at hM hlt
      have w3 : lwrap .i64 (((n : Nat) : Int) + 1) = ((n + 1 : Nat) : Int) := by rw [lwrap_small (by omega) (by omega)]; simp
      have w4 : lwrap .i64 (((n : Nat) : Int) + lwrap .i64 (1 + ((spanF wordB (s.drop (n + 1)) : Nat) : Int))) = ((endM 0 s : Nat) : Int) := by
        unfold endM at hM ⊢
        rw [hn] at hM ⊢
        rw [lwrap_small (n := 1 + ((spanF wordB (s.drop (n + 1)) : Nat) : Int)) (by omega) (by omega), lwrap_small (by omega) (by omega)]; simp
      rw [w3, sub_drop]
      refine ⟨by omega, fun hI => ⟨_, s234 _ _, Ret.use ⟨_, rfl⟩, fun n25 H26 ⟨e25, _⟩ => ?_⟩⟩
      cases e25
      rw [w4, sub_take]
      have F1 : namedF s = (refTF (s.take (endM 0 s))).map fun r => (refT r, endM 0 s) := by rw [F0]; unfold endF; rw [hbang, if_pos rfl]
      refine ⟨by omega, fun hI => ⟨_, s235 _ (by rw [List.length_take]; omega) _, Ret.use (cellL_sh _), fun x29 b30 H31 ⟨e30, _⟩ i32 H33 _ _ H34 _ => ⟨fun h H35 _ hI => bad ?_ hI.pres, fun h H36 _ hI => good (t := refT x29) ?_ hI.pres⟩⟩⟩
      · have hb : b30 = false := by simpa using h
        rw [F1, cellL_inv e30, hb]; rfl
      · have hb : b30 = true := by simpa using h
        rw [F1, cellL_inv e30, hb]; rfl
    · have hbang : bangB 0 s = false := by rw [h21] at e21; unfold bangB; rw [hn]; exact (LV.bool.inj e21).symm
      rw [sub_take]
      generalize hw : s.take n = w at *
      have hwl : w.length ≤ 1000 := by rw [← hw, List.length_take]; first | omega | (rw [List.length_drop]; omega)
      have F1 : namedF s = wordF [] w n := by rw [F0]; unfold endF; rw [hbang, hn, List.drop_zero, Nat.sub_zero, hw]; rfl
      refine ⟨by omega, fun hI => ⟨_, s236 w hwl _, Ret.use (cellL_sh _), fun x92 b93 H94 ⟨e93, _⟩ i95 H96 _ _ H97 _ => ⟨fun h93 H98 _ hI => good (t := refT x92) ?_ hI.pres, fun h93 hI => ⟨_, s175 w _ (by omega), Ret.use ⟨_, rfl⟩, fun s58 H59 ⟨e58, _⟩ hI => ⟨_, s90 w _, Ret.use ⟨_, rfl⟩, fun b61 H62 ⟨e61, _⟩ => ?_⟩⟩⟩⟩⟩
      · have := cellL_inv e93
        rw [h93] at this
        rw [F1, word_cell rfl this]
      · have := cellL_inv e93
        rw [h93] at this
        rw [word_none (fun _ => this), truth_up] at F1
        cases e61; cases e58
        refine ⟨fun h61 => ⟨fun h1 => ⟨fun h2 H _ hI => bad ?_ hI.pres, fun h2 H _ hI => good (t := wordT [] w) ?_ hI.pres⟩, fun h1 H _ hI => good (t := wordT [] w) ?_ hI.pres⟩, fun h61 H _ hI => good (t := wordT [] w) ?_ hI.pres⟩
        · simp only [Bool.not_eq_true'] at h61 h1 h2
          rw [F1, h61, h1, h2]; rfl
        · simp only [Bool.not_eq_true', Bool.not_eq_false'] at h61 h1 h2
          rw [F1, h61, h1, h2]; rfl
        · simp only [Bool.not_eq_true', Bool.not_eq_false'] at h61 h1
          rw [F1, h61, h1]; rfl
        · simp only [Bool.not_eq_false'] at h61
          rw [F1, h61]; rfl

end Go.Proofs.YtjihhflffkoffaaGreatDoor.Z
