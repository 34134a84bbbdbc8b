/- Contracts of functions of the program; no condition. -/
import Derived.Test.YtjihhflffkoffaaGreatDoorTe
set_option linter.unusedSimpArgs false
set_option linter.unusedVariables false
set_option linter.unusedSectionVars false
set_option linter.unnecessarySimpa false
namespace Go.Proofs.YtjihhflffkoffaaGreatDoor.Z
open Go Go.Lm
set_option maxRecDepth 100000

def zeroR : RefC := ⟨[], [], 0, 0, false, false⟩
def cellL : Option RefC → LV
  | some r => .tuple [r.lv, .bool true]
  | none => .tuple [zeroR.lv, .bool false]
theorem cellL_sh (o : Option RefC) : hasSh (.tuple [(.cust RefC RefC.lv), .bool]) (cellL o) := by
  cases o with
  | none => exact ⟨_, _, rfl⟩
  | some r => exact ⟨_, _, rfl⟩

def colF (c : UInt8) : Int := if 97 ≤ c.toNat then (c.toNat : Int) - 96 else (c.toNat : Int) - 64
def okRow (s : List UInt8) : Bool := digs s && (decide (s.length ≤ 2) && !(s.head? == some 48))
def restF (col : Int) (fc : Bool) (s : List UInt8) (fr : Bool) : Option RefC := if okRow s && inF (decF s 0 : Int) col then some ⟨[], [], (decF s 0 : Int), col, fr, fc⟩ else none
/-- A cell of its name. -/
def cellF (s : List UInt8) : Option RefC :=
  match (cutP s [36]).1 with
  | [] => none
  | c :: t => if letF (c.toNat : Int) then restF (colF c) (cutP s [36]).2 (cutP t [36]).1 (cutP t [36]).2 else none

theorem s280 (s : List UInt8) (H : LHeap) : CallL cfg 280 [.str s] H (Ret (.tuple [.str (cutP s [36]).1, .bool (cutP s [36]).2]) H) :=
  e280t _ s H fun hI => ⟨_, s130 s [36] H, Ret.use ⟨_, _, rfl⟩, fun s2 b H3 ⟨e, _⟩ hI => ⟨e, hI.pres⟩⟩

theorem cutP_le (s p : List UInt8) : (cutP s p).1.length ≤ s.length := by
  unfold cutP
  split
  · simp
  · exact Nat.le_refl _

theorem colF_or (c : UInt8) (h : letF (c.toNat : Int) = true) : lwrap .i64 (lwrap .i64 (lwrap .u8 ((IntKind.wrap .u8 (((BitVec.toNat (HOr.hOr (BitVec.ofInt 8 (c.toNat : Int)) (BitVec.ofInt 8 (32 : Int)))) : Nat) : Int)) - (97 : Int))) + 1) = colF c := by
  have key : ∀ n : Fin 256, letF ((n.val : Nat) : Int) = true → lwrap .i64 (lwrap .i64 (lwrap .u8 ((IntKind.wrap .u8 (((BitVec.toNat (HOr.hOr (BitVec.ofInt 8 ((n.val : Nat) : Int)) (BitVec.ofInt 8 (32 : Int)))) : Nat) : Int)) - (97 : Int))) + 1) = (if 97 ≤ n.val then ((n.val : Nat) : Int) - 96 else ((n.val : Nat) : Int) - 64) := by decide +kernel
  exact key ⟨c.toNat, u8_lt256 c⟩ h

theorem loop236 (s : List UInt8) (hs : s.length ≤ 1000) (col : Int) (fr fc : Bool) (H0 : LHeap) (i7 : Nat) (x8 : RefC) : ∀ (C A : List UInt8) (d : Nat → LV) (H : LHeap), A ++ C = s → digs A = true → A.length ≤ 2 → (A = [] ∨ s.head? ≠ some 48) →
    GoesT cfg 236 (Ret (cellL (restF col fc s fr)) H0) [] H0 [⟨i7, x8.cs, 69⟩] (L236t_0 d (A.length : Int) (decF A 0 : Int) s col fr fc ((s.length : Nat) : Int)) (loopAt cfg 236 0) H
  | [], A, d, H, hA, hd, h2, h48 => by
    intro hin hI
    rw [List.append_nil] at hA
    subst hA
    refine g236t_0 _ H0 d A.length (decF A 0) A col fr fc A.length i7 x8 H ⟨fun h => ?_, fun _ i19 H20 _ _ H21 _ hI => ⟨_, s281 (decF A 0) col H21, Ret.use ⟨_, rfl⟩, fun b23 H24 ⟨e, _⟩ => ⟨fun h H25 _ hI => ⟨?_, hI.pres⟩, fun h H26 _ hI => ⟨?_, hI.pres⟩⟩⟩⟩ hin hI
    · simp at h
    · cases e
      have : inF (decF A 0 : Int) col = false := by simpa using h
      unfold restF; rw [this, Bool.and_false]; rfl
    · cases e
      have hin' : inF (decF A 0 : Int) col = true := by simpa using h
      have hok : okRow A = true := by
        rcases h48 with h | h
        · subst h
          exfalso
          revert hin'
          unfold inF
          simp [decF]
        · unfold okRow; rw [hd, decide_eq_true h2]; simpa using h
      unfold restF; rw [hin', hok]; rfl
  | b :: C, A, d, H, hA, hd, h2, h48 => by
    intro hin hI
    have hb : byteAt s (A.length : Int) = (b.toNat : Int) := by rw [← hA]; exact byteAt_app A b C
    have hl : A.length + (C.length + 1) = s.length := by rw [← hA]; simp
    have rg : (0 : Int) ≤ (A.length : Int) ∧ (A.length : Int) < ((s.length : Nat) : Int) := by omega
    have bad : ∀ {H' : LHeap}, okRow s = false → PresX [] H0 H' → Ret (cellL (restF col fc s fr)) H0 (.tuple [.agg [.str [], .str [], .int .i64 0, .int .i64 0, .bool false, .bool false], .bool false]) H' := fun h p => ⟨by unfold restF; rw [h]; rfl, p⟩
    have h0 : (byteAt s 0 == 48) = (s.head? == some 48) := by
      cases s with
      | nil => simp at hl
      | cons c t =>
        rw [show byteAt (c :: t) 0 = (c.toNat : Int) from byteAt_app [] c t]
        rw [Bool.eq_iff_iff]
        simp only [List.head?_cons, beq_iff_eq, Option.some.injEq]
        constructor
        · intro h; exact UInt8.toNat_inj.1 (by show c.toNat = 48; omega)
        · intro h; rw [h]; rfl
    have c174 : CallL cfg 174 [.int .u8 (byteAt s (A.length : Int))] H (Ret (.bool (digF (b.toNat : Int))) H) := by rw [hb]; exact s174 _ H
    refine g236t_0 _ H0 d A.length (decF A 0) s col fr fc s.length i7 x8 H ⟨fun h => ⟨rg, fun hI => ⟨_, c174, Ret.use ⟨_, rfl⟩, fun b11 H12 ⟨e, _⟩ => ⟨fun h11 H13 _ hI => bad ?_ hI.pres, fun h11 => ⟨fun h1 H14 _ hI => bad ?_ hI.pres, fun h1 => ⟨⟨by omega, by omega⟩, fun h48' H16 _ hI => bad ?_ hI.pres, fun h48' => ⟨rg, fun d18 => ?_⟩⟩⟩⟩⟩⟩, fun h => ?ge⟩ hin hI
    case ge => simp at h; omega
    · cases e
      have : digF (b.toNat : Int) = false := by simpa using h11
      unfold okRow
      have : digs s = false := by rw [← hA, digs_app]; simp [digs, this]
      rw [this]; rfl
    · simp at h1
      unfold okRow
      rw [decide_eq_false (show ¬ s.length ≤ 2 by omega)]
      simp
    · rw [h0] at h48'
      unfold okRow; rw [h48']; simp
    · cases e
      have hdb : digF (b.toNat : Int) = true := by simpa using h11
      simp at h1
      have hb2 : 48 ≤ b.toNat ∧ b.toNat ≤ 57 := by simp [digF] at hdb; omega
      have hlt := decF_lt A 0 hd
      have hp : 10 ^ A.length ≤ 10 ^ 2 := Nat.pow_le_pow_right (by omega) h2
      have e1 : lwrap .u8 ((b.toNat : Int) - 48) = (b.toNat : Int) - 48 := by
        rw [lwrap_eq]
        simp only [IntKind.wrap, IntKind.signed, IntKind.bits, Bool.false_and, Bool.false_eq_true, if_false]
        omega
      rw [hb, e1, lwrap_small (n := (10 : Int) * (decF A 0 : Int)) (by omega) (by omega), lwrap_small (n := (b.toNat : Int) - 48) (by omega) (by omega), lwrap_small (n := (10 : Int) * (decF A 0 : Int) + ((b.toNat : Int) - 48)) (by omega) (by omega), lwrap_small (n := (A.length : Int) + 1) (by omega) (by omega)]
      have hdec : (10 : Int) * (decF A 0 : Int) + ((b.toNat : Int) - 48) = (decF (A ++ [b]) 0 : Int) := by
        rw [decF_app]
        show _ = ((10 * decF A 0 + (b.toNat - 48) : Nat) : Int)
        omega
      rw [hdec, show (A.length : Int) + 1 = (((A ++ [b]).length : Nat) : Int) by simp]
      exact loop236 s hs col fr fc H0 i7 x8 C (A ++ [b]) d18 H12 (by rw [← hA]; simp) (by rw [digs_app, hd]; simp [digs, hdb]) (by simp; omega) (.inr (by rw [h0] at h48'; simpa using h48'))

/-- ParseCell. -/
theorem s236 (s : List UInt8) (hs : s.length ≤ 1000) (H : LHeap) : CallL cfg 236 [.str s] H (Ret (cellL (cellF s)) H) := by
  have bad : ∀ {H' : LHeap}, cellF s = none → PresX [] H H' → Ret (cellL (cellF s)) H (.tuple [.agg [.str [], .str [], .int .i64 0, .int .i64 0, .bool false, .bool false], .bool false]) H' := fun h p => ⟨by rw [h]; rfl, p⟩
  refine e236t _ s H fun i1 H2 _ _ hI => ⟨_, s280 s H2, Ret.use ⟨_, _, rfl⟩, fun s4 b5 H6 ⟨e, _⟩ => ?_⟩
  simp only [LV.tuple.injEq, List.cons.injEq, LV.str.injEq, LV.bool.injEq, and_true] at e
  obtain ⟨e1, e2⟩ := e
  have hl := cutP_le s [36]
  rw [← e1] at hl
  refine ⟨fun h H7 _ hI => bad ?_ hI.pres, fun h => ?_⟩
  · have : s4 = [] := by simpa using h
    unfold cellF; rw [← e1, this]
  · cases s4 with
    | nil => cases h
    | cons c t =>
      have hb : byteAt (c :: t) 0 = (c.toNat : Int) := byteAt_app [] c t
      rw [hb]
      rw [List.length_cons] at hl
      refine ⟨⟨by omega, by simp⟩, fun hI => ⟨_, s173 _ H6, Ret.use ⟨_, rfl⟩, fun b10 H11 ⟨e10, _⟩ => ⟨fun h10 H12 _ hI => bad ?_ hI.pres, fun h10 => ⟨⟨by omega, by simp⟩, ⟨by omega, by simp; omega, by omega⟩, fun hI => ⟨_, s280 _ H11, Ret.use ⟨_, _, rfl⟩, fun s16 b17 H18 ⟨e16, _⟩ d19 => ?_⟩⟩⟩⟩⟩
      · cases e10
        have : letF (c.toNat : Int) = false := by simpa using h10
        unfold cellF; rw [← e1]; simp only; rw [this]; rfl
      · cases e10
        have hlet : letF (c.toNat : Int) = true := by simpa using h10
        simp only [LV.tuple.injEq, List.cons.injEq, LV.str.injEq, LV.bool.injEq, and_true] at e16
        obtain ⟨e3, e4⟩ := e16
        rw [sub_drop1] at e3 e4
        simp only [List.drop_succ_cons, List.drop_zero] at e3 e4
        have hc : cellF s = restF (colF c) b5 s16 b17 := by
          unfold cellF; rw [← e1]; simp only; rw [hlet, if_pos rfl, ← e2, e3, e4]
        rw [hc, colF_or c hlet]
        have hl2 := cutP_le t [36]
        rw [← e3] at hl2
        exact loop236 s16 (by omega) (colF c) b17 b5 H i1 zeroR s16 [] d19 H18 rfl rfl (by simp) (.inl rfl)
end Go.Proofs.YtjihhflffkoffaaGreatDoor.Z
