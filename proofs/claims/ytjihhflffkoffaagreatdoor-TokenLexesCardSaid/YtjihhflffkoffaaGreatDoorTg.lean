/- Contracts of functions of the program; no condition. -/
import Derived.Test.YtjihhflffkoffaaGreatDoorTf
set_option linter.unusedSimpArgs false
set_option linter.unusedVariables false
set_option linter.unusedSectionVars false
set_option linter.unnecessarySimpa false
namespace Go.Proofs.YtjihhflffkoffaaGreatDoor.Z
open Go Go.Lm
set_option maxRecDepth 100000

theorem colF_up (c : UInt8) (h : letF (c.toNat : Int) = true) : lwrap .i64 (lwrap .i64 (lwrap .u8 (((upB c).toNat : Int) - 65)) + 1) = colF c := by
  have hu : ((upB c).toNat : Int) - 64 = colF c ∧ 65 ≤ (upB c).toNat ∧ (upB c).toNat ≤ 90 := by
    unfold letF at h
    simp at h
    have h256 := u8_lt256 c
    unfold colF upB
    by_cases h97 : 97 ≤ c.toNat
    · rw [if_pos h97, if_pos (by omega), UInt8.toNat_ofNat']
      omega
    · rw [if_neg h97, if_neg (by omega)]
      omega
  have e1 : lwrap .u8 (((upB c).toNat : Int) - 65) = ((upB c).toNat : Int) - 65 := by
    rw [lwrap_eq]
    simp only [IntKind.wrap, IntKind.signed, IntKind.bits, Bool.false_and, Bool.false_eq_true, if_false]
    omega
  rw [e1, lwrap_small (n := ((upB c).toNat : Int) - 65) (by omega) (by omega), lwrap_small (by omega) (by omega)]
  omega

theorem head36 (w : UInt8) (v : List UInt8) : ((w.toNat : Int) = 36 → cutP (w :: v) [36] = (v, true)) ∧ (¬ (w.toNat : Int) = 36 → cutP (w :: v) [36] = (w :: v, false)) := by
  refine ⟨fun h => ?_, fun h => ?_⟩
  · have : w = 36 := UInt8.toNat_inj.1 (by show w.toNat = 36; omega)
    subst this
    rfl
  · refine cutP_no ?_
    simp
    intro e
    subst e
    exact h rfl

theorem rest_short {col : Int} {fc fr : Bool} {s : List UInt8} (h : s.length = 0) : restF col fc s fr = none := by
  have : s = [] := List.eq_nil_of_length_eq_zero h
  subst this
  unfold restF okRow inF
  simp [decF, digs]
theorem rest_long {col : Int} {fc fr : Bool} {s : List UInt8} (h : 2 < s.length) : restF col fc s fr = none := by
  unfold restF okRow
  rw [decide_eq_false (show ¬ s.length ≤ 2 by omega)]
  simp
theorem head48 {s : List UInt8} (h : 0 < s.length) : (byteAt s 0 == 48) = (s.head? == some 48) := by
  cases s with
  | nil => simp at h
  | cons c t =>
    rw [show byteAt (c :: t) 0 = (c.toNat : Int) from byteAt_app [] c t]
    rw [Bool.eq_iff_iff]
    simp only [List.head?_cons, beq_iff_eq, Option.some.injEq]
    constructor
    · intro h; exact UInt8.toNat_inj.1 (by show c.toNat = 48; omega)
    · intro h; rw [h]; rfl
theorem rest_48 {col : Int} {fc fr : Bool} {s : List UInt8} (h : 0 < s.length) (k : (byteAt s 0 == 48) = true) : restF col fc s fr = none := by
  rw [head48 h] at k
  unfold restF okRow
  rw [k]
  simp
theorem h48_of {s : List UInt8} (h : 0 < s.length) (k : (byteAt s 0 == 48) = false) : (s.head? == some 48) = false := by
  rw [← head48 h]; exact k

theorem x285 (n m : Int) (H : LHeap) : CallL cfg 285 [.int .i64 n, .int .i64 m] H (Ret (.bool (inF n m)) H) := by
  have out : ∀ {H' : LHeap}, ¬ (1 ≤ n ∧ n ≤ 64 ∧ 1 ≤ m ∧ m ≤ 26) → PresX [] H H' → Ret (.bool (inF n m)) H (.bool false) H' := fun h p => ⟨by unfold inF; rw [decide_eq_false h], p⟩
  refine e285t _ n m H ⟨fun h1 => ⟨fun h2 => ⟨fun h3 hI => ⟨?_, hI.pres⟩, fun h hI => out (by simp at h; omega) hI.pres⟩, fun h hI => out (by simp at h; omega) hI.pres⟩, fun h hI => out (by simp at h; omega) hI.pres⟩
  simp only [decide_eq_true_eq, ge_iff_le] at h1 h2 h3
  congr 1
  unfold inF
  exact decide_eq_decide.2 (by omega)

theorem loop242 (s : List UInt8) (hs : 1 ≤ s.length ∧ s.length ≤ 2) (col : Int) (fc fr : Bool) (H0 : LHeap) (i1 i3 : Nat) (x3 : RefC) (h48 : (s.head? == some 48) = false) : ∀ (C A : List UInt8) (d : Nat → LV) (H : LHeap), A ++ C = s → digs A = true →
    GoesT cfg 242 (Ret (cellL (restF col fc s fr)) H0) [] H0 [⟨i1, x3.cs, 69⟩, ⟨i3, (⟨[], [], (decF A 0 : Int), col, fr, fc⟩ : RefC).cs, 69⟩] (L242t_0 d (A.length : Int) s) (loopAt cfg 242 0) H
  | [], A, d, H, hA, hd => by
    intro hin hI
    rw [List.append_nil] at hA
    subst hA
    have hok : okRow A = true := by unfold okRow; rw [hd, decide_eq_true hs.2, h48]; rfl
    refine g242t_0 _ H0 d A.length A i1 x3 i3 ⟨[], [], (decF A 0 : Int), col, fr, fc⟩ H ⟨fun h => ?_, fun _ hI => ⟨_, x285 (decF A 0) col H, Ret.use ⟨_, rfl⟩, fun b17 H18 ⟨e, _⟩ => ⟨fun h H19 _ hI => ⟨?_, hI.pres⟩, fun h H20 _ hI => ⟨?_, hI.pres⟩⟩⟩⟩ hin hI
    · simp at h
    · cases e
      have : inF (decF A 0 : Int) col = false := by simpa using h
      unfold restF; rw [this, Bool.and_false]; rfl
    · cases e
      have : inF (decF A 0 : Int) col = true := by simpa using h
      unfold restF; rw [this, hok]; rfl
  | b :: C, A, d, H, hA, hd => by
    intro hin hI
    have hb : byteAt s (A.length : Int) = (b.toNat : Int) := by rw [← hA]; exact byteAt_app A b C
    have hl : A.length + (C.length + 1) = s.length := by rw [← hA]; simp
    have rg : (0 : Int) ≤ (A.length : Int) ∧ (A.length : Int) < ((s.length : Nat) : Int) := by omega
    have c153 : CallL cfg 153 [.int .u8 (byteAt s (A.length : Int))] H (Ret (.bool (digF (b.toNat : Int))) H) := by rw [hb]; exact x153 _ H
    refine g242t_0 _ H0 d A.length s i1 x3 i3 ⟨[], [], (decF A 0 : Int), col, fr, fc⟩ H ⟨fun h => ⟨rg, fun hI => ⟨_, c153, Ret.use ⟨_, rfl⟩, fun b8 H9 ⟨e, _⟩ => ⟨fun h8 H10 _ hI => ⟨?_, hI.pres⟩, fun h8 => ⟨rg, rfl, fun H13 _ d15 => ?_⟩⟩⟩⟩, fun h => ?ge⟩ hin hI
    case ge => simp at h; omega
    · cases e
      have h1 : digF (b.toNat : Int) = false := by simpa using h8
      have : digs s = false := by rw [← hA, digs_app]; simp [digs, h1]
      unfold restF okRow; rw [this]; rfl
    · cases e
      have hdb : digF (b.toNat : Int) = true := by simpa using h8
      have hb2 : 48 ≤ b.toNat ∧ b.toNat ≤ 57 := by simp [digF] at hdb; omega
      have hlt := decF_lt A 0 hd
      have hp : 10 ^ A.length ≤ 10 ^ 2 := Nat.pow_le_pow_right (by omega) (by omega)
      have e1 : lwrap .u8 ((b.toNat : Int) - 48) = (b.toNat : Int) - 48 := by
        rw [lwrap_eq]
        simp only [IntKind.wrap, IntKind.signed, IntKind.bits, Bool.false_and, Bool.false_eq_true, if_false]
        omega
      have hdec : (10 : Int) * (decF A 0 : Int) + ((b.toNat : Int) - 48) = (decF (A ++ [b]) 0 : Int) := by
        rw [decF_app]
        show _ = ((10 * decF A 0 + (b.toNat - 48) : Nat) : Int)
        omega
      have e5 : lwrap .i64 (lwrap .i64 ((10 : Int) * (decF A 0 : Int)) + lwrap .i64 (lwrap .u8 (byteAt s (A.length : Int) - 48))) = (decF (A ++ [b]) 0 : Int) := by
        rw [hb, e1, lwrap_small (n := (10 : Int) * (decF A 0 : Int)) (by omega) (by omega), lwrap_small (n := (b.toNat : Int) - 48) (by omega) (by omega), lwrap_small (by omega) (by omega), hdec]
      rw [lwrap_small (n := (A.length : Int) + 1) (by omega) (by omega), show (A.length : Int) + 1 = (((A ++ [b]).length : Nat) : Int) by simp]
      have := loop242 s hs col fc fr H0 i1 i3 x3 h48 C (A ++ [b]) d15 H13 (by rw [← hA]; simp) (by rw [digs_app, hd]; simp [digs, hdb])
      rw [← e5] at this
      exact this

/-- The document's ParseCell. -/
theorem s242 (s : List UInt8) (hs : s.length ≤ 1000) (H : LHeap) : CallL cfg 242 [.str s] H (Ret (cellL (cellF s)) H) := by
  have bad : ∀ {H' : LHeap}, cellF s = none → PresX [] H H' → Ret (cellL (cellF s)) H (.tuple [.agg [.str [], .str [], .int .i64 0, .int .i64 0, .bool false, .bool false], .bool false]) H' := fun h p => ⟨by rw [h]; rfl, p⟩
  refine e242t _ s H fun i1 H2 _ _ i3 H4 _ _ => ⟨fun h0 => ⟨⟨by omega, by simp at h0; omega⟩, fun h36 H6 _ => ⟨⟨by omega, by simp at h0; omega, by omega⟩, ?dollar⟩, fun h36 => ?plain⟩, fun h0 => ?empty⟩
  case dollar =>
    obtain ⟨u, hu⟩ : ∃ u, s = 36 :: u := by
      cases s with
      | nil => simp at h0
      | cons b t =>
        rw [show byteAt (b :: t) 0 = (b.toNat : Int) from byteAt_app [] b t] at h36
        simp at h36
        exact ⟨t, by rw [show b = 36 from UInt8.toNat_inj.1 (by show b.toNat = 36; omega)]⟩
    have HC0 : cutP s [36] = (u, true) := by rw [hu]; rfl
    have hd : subStr s 1 ((s.length : Nat) : Int) = u := by rw [sub_drop1, hu]; rfl
    rw [hd]
    clear hd
    refine ⟨fun h2 H8 _ hI => bad ?_ hI.pres, fun h2 => ?_⟩
    · -- too short
      simp at h2
      unfold cellF
      rw [HC0]
      cases u with
      | nil => rfl
      | cons c v =>
        have : v = [] := List.eq_nil_of_length_eq_zero (by simp at h2; omega)
        subst this
        simp only
        split
        · unfold restF okRow inF; simp [cutP, decF, digs]
        · rfl
    · cases u with
      | nil => simp at h2
      | cons c v =>
        cases v with
        | nil => simp at h2
        | cons w v =>
          have hb : byteAt (c :: w :: v) 0 = (c.toNat : Int) := byteAt_app [] c (w :: v)
          have hw : byteAt (w :: v) 0 = (w.toNat : Int) := byteAt_app [] w v
          have e1 : subStr (c :: w :: v) 0 1 = [c] := by rw [show (1 : Int) = ((1 : Nat) : Int) from rfl, sub_take]; rfl
          rw [hb, e1]
          simp only [sub_drop1, List.drop_succ_cons, List.drop_zero]
          refine ⟨⟨by omega, by first | (simp; done) | (simp; omega)⟩, fun hI => ⟨_, x157 _ _, Ret.use ⟨_, rfl⟩, fun b11 H12 ⟨e11, _⟩ => ⟨fun h11 H13 _ hI => bad ?_ hI.pres, fun h11 => ⟨⟨by omega, by omega, by first | (simp; done) | (simp; omega)⟩, fun hI => ⟨_, s252 [c] H12 (by simp), Ret.use ⟨_, rfl⟩, fun s16 H17 ⟨e16, _⟩ => ?_⟩⟩⟩⟩⟩
          · cases e11
            have : letF (c.toNat : Int) = false := by simpa using h11
            unfold cellF
            rw [HC0]
            simp only
            rw [this]; rfl
          · cases e11
            have hlet : letF (c.toNat : Int) = true := by simpa using h11
            cases e16
            have hu : byteAt ([c].map upB) 0 = ((upB c).toNat : Int) := byteAt_app [] (upB c) []
            rw [hu, colF_up c hlet]
            have hcell : ∀ fr z, cutP (w :: v) [36] = (z, fr) → cellF s = restF (colF c) true z fr := by
              intro fr z hz
              unfold cellF
              rw [HC0]
              simp only
              rw [hlet, if_pos rfl, hz]
            have h36 := head36 w v
            refine ⟨⟨by omega, by simp⟩, fun H19 _ => ⟨⟨by omega, by first | (simp; done) | (simp; omega), by omega⟩, ⟨by omega, by first | (simp; done) | (simp; omega)⟩, fun hd2 H22 _ => ?_, fun hd2 => ?_⟩⟩
            · rw [hw] at hd2
              have hz : cutP (w :: v) [36] = (v, true) := h36.1 (by simpa using hd2)
              refine ⟨⟨by omega, by first | (simp; done) | (simp; omega), by omega⟩, fun h1 H24 _ hI => bad ?_ hI.pres, fun h1 => ⟨fun h3 H25 _ hI => bad ?_ hI.pres, fun h3 => ⟨⟨by omega, by simp at h1; omega⟩, fun h48 H27 _ hI => bad ?_ hI.pres, fun h48 d28 => ?_⟩⟩⟩
              · rw [hcell _ _ hz]; exact rest_short (by simp at h1; omega)
              · rw [hcell _ _ hz]; exact rest_long (by simp at h3; omega)
              · rw [hcell _ _ hz]; exact rest_48 (by simp at h1; omega) h48
              · rw [hcell _ _ hz]
                exact loop242 v (by simp at h1 h3; omega) (colF c) true true H i1 i3 zeroR (h48_of (by simp at h1; omega) h48) v [] d28 H22 rfl rfl
            · rw [hw] at hd2
              have hz : cutP (w :: v) [36] = (w :: v, false) := h36.2 (by simpa using hd2)
              refine ⟨fun h1 H24 _ hI => bad ?_ hI.pres, fun h1 => ⟨fun h3 H25 _ hI => bad ?_ hI.pres, fun h3 => ⟨⟨by omega, by simp⟩, fun h48 H27 _ hI => bad ?_ hI.pres, fun h48 d28 => ?_⟩⟩⟩
              · rw [hcell _ _ hz]; exact rest_short (by simp at h1; omega)
              · rw [hcell _ _ hz]; exact rest_long (by simp at h3 ⊢; omega)
              · rw [hcell _ _ hz]; exact rest_48 (by simp) h48
              · rw [hcell _ _ hz]
                exact loop242 (w :: v) (by simp at h1 h3 ⊢; omega) (colF c) true false H i1 i3 zeroR (h48_of (by simp) h48) (w :: v) [] d28 _ rfl rfl
  case plain =>
    have HC0 : cutP s [36] = (s, false) := by
      cases s with
      | nil => simp at h0
      | cons b t =>
        rw [show byteAt (b :: t) 0 = (b.toNat : Int) from byteAt_app [] b t] at h36
        exact (head36 b t).2 (by simpa using h36)
    refine ⟨fun h2 H8 _ hI => bad ?_ hI.pres, fun h2 => ?_⟩
    · -- too short
      simp at h2
      unfold cellF
      rw [HC0]
      cases s with
      | nil => rfl
      | cons c v =>
        have : v = [] := List.eq_nil_of_length_eq_zero (by simp at h2; omega)
        subst this
        simp only
        split
        · unfold restF okRow inF; simp [cutP, decF, digs]
        · rfl
    · cases s with
      | nil => simp at h2
      | cons c v =>
        cases v with
        | nil => simp at h2
        | cons w v =>
          have hb : byteAt (c :: w :: v) 0 = (c.toNat : Int) := byteAt_app [] c (w :: v)
          have hw : byteAt (w :: v) 0 = (w.toNat : Int) := byteAt_app [] w v
          have e1 : subStr (c :: w :: v) 0 1 = [c] := by rw [show (1 : Int) = ((1 : Nat) : Int) from rfl, sub_take]; rfl
          rw [hb, e1]
          simp only [sub_drop1, List.drop_succ_cons, List.drop_zero]
          refine ⟨⟨by omega, by first | (simp; done) | (simp; omega)⟩, fun hI => ⟨_, x157 _ _, Ret.use ⟨_, rfl⟩, fun b11 H12 ⟨e11, _⟩ => ⟨fun h11 H13 _ hI => bad ?_ hI.pres, fun h11 => ⟨⟨by omega, by omega, by first | (simp; done) | (simp; omega)⟩, fun hI => ⟨_, s252 [c] H12 (by simp), Ret.use ⟨_, rfl⟩, fun s16 H17 ⟨e16, _⟩ => ?_⟩⟩⟩⟩⟩
          · cases e11
            have : letF (c.toNat : Int) = false := by simpa using h11
            unfold cellF
            rw [HC0]
            simp only
            rw [this]; rfl
          · cases e11
            have hlet : letF (c.toNat : Int) = true := by simpa using h11
            cases e16
            have hu : byteAt ([c].map upB) 0 = ((upB c).toNat : Int) := byteAt_app [] (upB c) []
            rw [hu, colF_up c hlet]
            have hcell : ∀ fr z, cutP (w :: v) [36] = (z, fr) → cellF (c :: w :: v) = restF (colF c) false z fr := by
              intro fr z hz
              unfold cellF
              rw [HC0]
              simp only
              rw [hlet, if_pos rfl, hz]
            have h36 := head36 w v
            refine ⟨⟨by omega, by simp⟩, fun H19 _ => ⟨⟨by omega, by first | (simp; done) | (simp; omega), by omega⟩, ⟨by omega, by first | (simp; done) | (simp; omega)⟩, fun hd2 H22 _ => ?_, fun hd2 => ?_⟩⟩
            · rw [hw] at hd2
              have hz : cutP (w :: v) [36] = (v, true) := h36.1 (by simpa using hd2)
              refine ⟨⟨by omega, by first | (simp; done) | (simp; omega), by omega⟩, fun h1 H24 _ hI => bad ?_ hI.pres, fun h1 => ⟨fun h3 H25 _ hI => bad ?_ hI.pres, fun h3 => ⟨⟨by omega, by simp at h1; omega⟩, fun h48 H27 _ hI => bad ?_ hI.pres, fun h48 d28 => ?_⟩⟩⟩
              · rw [hcell _ _ hz]; exact rest_short (by simp at h1; omega)
              · rw [hcell _ _ hz]; exact rest_long (by simp at h3; omega)
              · rw [hcell _ _ hz]; exact rest_48 (by simp at h1; omega) h48
              · rw [hcell _ _ hz]
                exact loop242 v (by simp at h1 h3; omega) (colF c) false true H i1 i3 zeroR (h48_of (by simp at h1; omega) h48) v [] d28 H22 rfl rfl
            · rw [hw] at hd2
              have hz : cutP (w :: v) [36] = (w :: v, false) := h36.2 (by simpa using hd2)
              refine ⟨fun h1 H24 _ hI => bad ?_ hI.pres, fun h1 => ⟨fun h3 H25 _ hI => bad ?_ hI.pres, fun h3 => ⟨⟨by omega, by simp⟩, fun h48 H27 _ hI => bad ?_ hI.pres, fun h48 d28 => ?_⟩⟩⟩
              · rw [hcell _ _ hz]; exact rest_short (by simp at h1; omega)
              · rw [hcell _ _ hz]; exact rest_long (by simp at h3 ⊢; omega)
              · rw [hcell _ _ hz]; exact rest_48 (by simp) h48
              · rw [hcell _ _ hz]
                exact loop242 (w :: v) (by simp at h1 h3 ⊢; omega) (colF c) false false H i1 i3 zeroR (h48_of (by simp) h48) (w :: v) [] d28 _ rfl rfl
  case empty =>
    have : s = [] := by simpa using h0
    subst this
    exact ⟨fun _ H8 _ hI => bad rfl hI.pres, fun h => by simp at h⟩
end Go.Proofs.YtjihhflffkoffaaGreatDoor.Z
