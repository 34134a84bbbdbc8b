/- Contracts of functions of the program; no condition. -/
import Derived.Test.YtjihhflffkoffaaGreatDoorTd
import Derived.Test.YtjihhflffkoffaaGreatDoorGu
set_option linter.unusedSimpArgs false
set_option linter.unusedVariables false
set_option linter.unusedSectionVars false
set_option linter.unnecessarySimpa false
namespace Go.Proofs.YtjihhflffkoffaaGreatDoor.Z
open Go Go.Lm
set_option maxRecDepth 100000

/-! The document's numbers, the end -/
theorem loop154_0 (s : List UInt8) (hs : s.length ≤ 1000) (H0 : LHeap) : ∀ (C A : List UInt8) (d : Nat → LV) (H : LHeap), A ++ C = s → cutF 46 s = (match cutF 46 C with | some (x, y) => some (A ++ x, y) | none => none) →
    GoesT cfg 154 (Ret (parseL s) H0) [] H0 [] (L154t_0 d false s (A.length : Int) [] s false) (loopAt cfg 154 0) H
  | [], A, d, H, hA, hc => by
    intro hin hI
    rw [List.append_nil] at hA
    subst hA
    have hp : partsF A = (A, [], false) := by unfold partsF; rw [hc]; rfl
    have ok : parseOk A = digitsF A 1 12 := by unfold parseOk; rw [hp]; simp [digitsF]
    refine g154t_0 _ H0 d false A A.length [] A false H ⟨fun h => ?_, fun _ hI => ⟨_, s238 A hs 1 12 H, Ret.use ⟨_, rfl⟩, fun b H20 ⟨e, _⟩ => ⟨fun h hI => ⟨?_, hI.pres⟩, fun h => ⟨fun h => (by cases h), fun _ d25 => ?_⟩⟩⟩⟩ hin hI
    · simp at h
    · cases e
      have : digitsF A 1 12 = false := by simpa using h
      unfold parseL; rw [ok, this]; rfl
    · cases e
      have h1 : digitsF A 1 12 = true := by simpa using h
      have h2 : digs A = true ∧ A.length ≤ 12 := by
        unfold digitsF at h1
        simp only [Bool.and_eq_true, decide_eq_true_eq] at h1
        exact ⟨h1.1, by omega⟩
      have hv : parseL A = toldL ((decF A 0 : Int) * 10000 + (decF ([] : List UInt8) 0 : Int) * 10 ^ (4 - ([] : List UInt8).length)) := by
        unfold parseL parseV; rw [ok, h1, hp]; rfl
      exact loop154_1 A [] h2 ⟨rfl, by simp⟩ H0 _ hv.symm 4 0 (by simp) d25 H20
  | b :: C, A, d, H, hA, hc => by
    intro hin hI
    have hb : byteAt s (A.length : Int) = (b.toNat : Int) := by rw [← hA]; exact byteAt_app A b C
    have hl : A.length + (C.length + 1) = s.length := by rw [← hA]; simp
    have rg : (0 : Int) ≤ (A.length : Int) ∧ (A.length : Int) < ((s.length : Nat) : Int) := by omega
    have hw : lwrap .i64 ((A.length : Int) + 1) = ((A.length + 1 : Nat) : Int) := by rw [lwrap_small (by omega) (by omega)]; simp
    have hpt : (b == (46 : UInt8)) = ((byteAt s (A.length : Int)) == (46 : Int)) := by
      rw [hb]
      rw [Bool.eq_iff_iff]
      simp only [beq_iff_eq]
      constructor
      · intro h; rw [h]; rfl
      · intro h; exact UInt8.toNat_inj.1 (by show b.toNat = 46; omega)
    refine g154t_0 _ H0 d false s A.length [] s false H ⟨fun h => ⟨rg, fun hdot => ⟨⟨by omega, by omega, by omega⟩, ⟨by rw [hw]; omega, by rw [hw]; omega, by omega⟩, ?dot⟩, fun hdot d17 => ?go⟩, fun h => ?ge⟩ hin hI
    case ge => simp at h; omega
    case go =>
      rw [hw, show ((A.length + 1 : Nat) : Int) = (((A ++ [b]).length : Nat) : Int) by simp]
      refine loop154_0 s hs H0 C (A ++ [b]) d17 H (by rw [← hA]; simp) ?_
      have e : cutF 46 (b :: C) = (match cutF 46 C with | some (x, y) => some (b :: x, y) | none => none) := by
        conv => lhs; unfold cutF
        rw [hpt, hdot]
        rfl
      rw [hc, e]
      cases cutF 46 C with
      | none => rfl
      | some p => simp
    case dot =>
      have hcut : cutF 46 s = some (A, C) := by
        rw [hc]
        unfold cutF
        rw [hpt, hdot]
        simp
      have e1 : subStr s 0 (A.length : Int) = A := by rw [sub_take, ← hA]; simp
      have e2 : subStr s (lwrap .i64 ((A.length : Int) + 1)) ((s.length : Nat) : Int) = C := by rw [hw, sub_drop, ← hA]; simp
      have hp : partsF s = (A, C, true) := by unfold partsF; rw [hcut]
      have ok : parseOk s = (digitsF A 1 12 && digitsF C 1 4) := by unfold parseOk; rw [hp]; simp [digitsF]
      rw [e1, e2]
      refine fun hI => ⟨_, s238 A (by omega) 1 12 H, Ret.use ⟨_, rfl⟩, fun b11 H12 ⟨e11, _⟩ => ⟨fun h hI => ⟨?_, hI.pres⟩, fun h1 hI => ⟨_, s238 C (by omega) 1 4 H12, Ret.use ⟨_, rfl⟩, fun b14 H15 ⟨e14, _⟩ => ⟨fun h hI => ⟨?_, hI.pres⟩, fun h2 d16 => ?_⟩⟩⟩⟩
      · cases e11
        have : digitsF A 1 12 = false := by simpa using h
        unfold parseL; rw [ok, this]; rfl
      · cases e11; cases e14
        have : digitsF C 1 4 = false := by simpa using h
        unfold parseL; rw [ok, this, Bool.and_false]; rfl
      · cases e11; cases e14
        have k1 : digitsF A 1 12 = true := by simpa using h1
        have k2 : digitsF C 1 4 = true := by simpa using h2
        have hv : parseL s = toldL ((decF A 0 : Int) * 10000 + (decF C 0 : Int) * 10 ^ (4 - C.length)) := by
          unfold parseL parseV; rw [ok, k1, k2, hp]; rfl
        have j1 : digs A = true ∧ A.length ≤ 12 := by
          unfold digitsF at k1
          simp only [Bool.and_eq_true, decide_eq_true_eq] at k1
          exact ⟨k1.1, by omega⟩
        have j2 : digs C = true ∧ C.length ≤ 4 := by
          unfold digitsF at k2
          simp only [Bool.and_eq_true, decide_eq_true_eq] at k2
          exact ⟨k2.1, by omega⟩
        have := loop154_1 A C j1 j2 H0 _ hv.symm (4 - C.length) 0 (by omega) d16 H15
        simpa using this

/-- The document's Parse of a text without a sign. -/
theorem s154 (s : List UInt8) (hs : s.length ≤ 1000) (hh : s.head? ≠ some 45) (H : LHeap) : CallL cfg 154 [.str s] H (Ret (parseL s) H) := by
  have start : ∀ d H', GoesT cfg 154 (Ret (parseL s) H) [] H [] (L154t_0 d false s 0 [] s false) (loopAt cfg 154 0) H' := fun d H' => by
    have := loop154_0 s hs H s [] d H' rfl (by cases cutF 46 s with | none => rfl | some p => simp)
    simpa using this
  refine e154t _ s H ⟨fun h => ⟨⟨by omega, by simp at h; omega⟩, fun h45 => ?_, fun h45 d4 => ?_⟩, fun h d5 => start d5 H⟩
  · cases s with
    | nil => simp at h
    | cons b t =>
      have : b = 45 := by
        have h2 : byteAt (b :: t) 0 = (b.toNat : Int) := byteAt_app [] b t
        rw [h2] at h45
        simp at h45
        exact UInt8.toNat_inj.1 (by show b.toNat = 45; omega)
      rw [this] at hh
      simp at hh
  · rw [h45]; exact start d4 H

/-! The document's names -/
theorem x157 (n : Int) (H : LHeap) : CallL cfg 157 [.int .u8 n] H (Ret (.bool (letF n)) H) := by
  refine e157t _ n H ⟨fun h1 => ⟨fun h2 hI => ⟨?_, hI.pres⟩, fun h2 => ⟨fun h3 hI => ⟨?_, hI.pres⟩, fun h3 hI => ⟨?_, hI.pres⟩⟩⟩, fun h1 => ⟨fun h3 hI => ⟨?_, hI.pres⟩, fun h3 hI => ⟨?_, hI.pres⟩⟩⟩
  all_goals
    simp only [ge_iff_le] at *
    simp [letF, *]
theorem x153 (n : Int) (H : LHeap) : CallL cfg 153 [.int .u8 n] H (Ret (.bool (digF n)) H) := by
  refine e153t _ n H ⟨fun h1 hI => ⟨?_, hI.pres⟩, fun h1 hI => ⟨?_, hI.pres⟩⟩
  all_goals
    simp only [ge_iff_le] at *
    simp [digF, *]
def truthF (s : List UInt8) : Int := if s.map upB == [84, 82, 85, 69] then 1 else if s.map upB == [70, 65, 76, 83, 69] then 0 else -1
theorem x182 (s : List UInt8) (hs : s.length ≤ 1000) (H : LHeap) : CallL cfg 182 [.str s] H (Ret (.int .i64 (truthF s)) H) := by
  refine e182t _ s H fun hI => ⟨_, s252 s H (by omega), Ret.use ⟨_, rfl⟩, fun s2 H3 ⟨e, _⟩ => ⟨fun h hI => ⟨?_, hI.pres⟩, fun h => ⟨fun h2 hI => ⟨?_, hI.pres⟩, fun h2 hI => ⟨?_, hI.pres⟩⟩⟩⟩
  all_goals cases e; simp only [truthF, *, if_true, Bool.false_eq_true, if_false]

/-- How many digits stand in a text of letters, digits and _. -/
theorem scanF_start : ∀ (s : List UInt8) (k : Nat), scanF s k = (scanF s 0).map (· + k)
  | [], k => by simp [scanF]
  | b :: s, k => by
    unfold scanF
    split
    · rw [scanF_start s (k + 1), scanF_start s (0 + 1)]
      cases scanF s 0 <;> simp; omega
    · split
      · rw [scanF_start s k]
      · rfl
theorem scanF_le : ∀ (s : List UInt8) (k : Nat), scanF s 0 = some k → k ≤ s.length
  | [], k, h => by simp [scanF] at h; omega
  | b :: s, k, h => by
    unfold scanF at h
    rw [List.length_cons]
    split at h
    · rw [scanF_start] at h
      cases hs : scanF s 0 with
      | none => rw [hs] at h; simp at h
      | some j =>
        rw [hs] at h
        simp at h
        have := scanF_le s j hs
        omega
    · split at h
      · have := scanF_le s k h; omega
      · cases h

/-- What the document's loop over a name comes to. -/
def othF : List UInt8 → Bool → Bool
  | [], o => o
  | b :: s, o => if letF (b.toNat : Int) || digF (b.toNat : Int) || (b.toNat : Int) == 95 then othF s (o || !digF (b.toNat : Int)) else false
theorem othF_scan : ∀ (s : List UInt8) (o : Bool), othF s o = (match scanF s 0 with | none => false | some k => o || decide (k < s.length))
  | [], o => by simp [othF, scanF]
  | b :: s, o => by
    unfold othF scanF
    cases hd : digF (b.toNat : Int) with
    | true =>
      simp only [Bool.or_true, Bool.true_or, if_true, Bool.not_true, Bool.or_false]
      rw [othF_scan s o, scanF_start s (0 + 1)]
      cases scanF s 0 <;> simp
    | false =>
      simp only [Bool.or_false, Bool.not_false, Bool.or_true, Bool.false_eq_true, if_false]
      split
      · rw [othF_scan s true]
        cases hk : scanF s 0 with
        | none => rfl
        | some k =>
          have := scanF_le s k hk
          simp; omega
      · rfl

theorem letF_dig {n : Int} (h : letF n = true) : digF n = false := by
  unfold letF at h
  unfold digF
  simp at h
  simp; omega

theorem nameF_oth (b : UInt8) (t : List UInt8) (h16 : (b :: t).length ≤ 16) (hl : letF (b.toNat : Int) = true) (ht : truthF (b :: t) < 0) : nameF (b :: t) = othF t ((((b :: t).length : Nat) : Int) == 1) := by
  unfold nameF
  simp only
  rw [if_neg (by omega), hl, if_pos rfl, othF_scan]
  have hd := letF_dig hl
  have hsc : scanF (b :: t) 0 = scanF t 0 := by
    conv => lhs; unfold scanF
    rw [hd, hl]
    simp
  rw [hsc]
  cases hk : scanF t 0 with
  | none => rfl
  | some k =>
    have hkl := scanF_le t k hk
    have t1 : ((b :: t).map upB == [84, 82, 85, 69]) = false := by
      cases h : ((b :: t).map upB == [84, 82, 85, 69]) with
      | false => rfl
      | true => unfold truthF at ht; rw [h] at ht; simp at ht
    have t2 : ((b :: t).map upB == [70, 65, 76, 83, 69]) = false := by
      cases h : ((b :: t).map upB == [70, 65, 76, 83, 69]) with
      | false => rfl
      | true => unfold truthF at ht; rw [t1, h] at ht; simp at ht
    simp only [t1, t2]
    rw [List.length_cons] at h16
    rw [lwrap_small (by rw [List.length_cons]; omega) (by rw [List.length_cons]; omega)]
    simp only [Bool.not_false, Bool.true_and, List.length_cons]
    rw [Bool.eq_iff_iff]
    simp
    omega

theorem nameF_truth {s : List UInt8} (h : 0 ≤ truthF s) : nameF s = false := by
  unfold nameF
  cases s with
  | nil => rfl
  | cons b t =>
    simp only
    split
    · rfl
    · split
      · split
        · rfl
        · unfold truthF at h
          split at h
          · rename_i h1; rw [h1]; rfl
          · split at h
            · rename_i h1; rw [h1]; simp
            · omega
      · rfl

theorem loop97x (s : List UInt8) (hs : s.length ≤ 16) (H0 : LHeap) (r : Bool) : ∀ (C A : List UInt8) (o : Bool) (d : Nat → LV) (H : LHeap), A ++ C = s → othF C o = r →
    GoesT cfg 97 (Ret (.bool r) H0) [] H0 [] (L97t_0 d (A.length : Int) o s) (loopAt cfg 97 0) H
  | [], A, o, d, H, hA, hr => by
    intro hin hI
    rw [List.append_nil] at hA
    subst hA
    unfold othF at hr
    refine g97t_0 _ H0 d A.length o A H ⟨fun h => ?_, fun _ hI => ⟨by rw [hr], hI.pres⟩⟩ hin hI
    simp at h
  | b :: C, A, o, d, H, hA, hr => by
    intro hin hI
    have hl : A.length + (C.length + 1) = s.length := by rw [← hA]; simp
    have hb : byteAt s (A.length : Int) = (b.toNat : Int) := by rw [← hA]; exact byteAt_app A b C
    have hi : lwrap .i64 ((A.length : Int) + 1) = (((A ++ [b]).length : Nat) : Int) := by rw [lwrap_small (by omega) (by omega)]; simp
    have rg : (0 : Int) ≤ (A.length : Int) ∧ (A.length : Int) < ((s.length : Nat) : Int) := by omega
    have c157 : ∀ H', CallL cfg 157 [.int .u8 (byteAt s (A.length : Int))] H' (Ret (.bool (letF (b.toNat : Int))) H') := fun H' => by rw [hb]; exact x157 _ H'
    have c153 : ∀ H', CallL cfg 153 [.int .u8 (byteAt s (A.length : Int))] H' (Ret (.bool (digF (b.toNat : Int))) H') := fun H' => by rw [hb]; exact x153 _ H'
    have next : (letF (b.toNat : Int) || digF (b.toNat : Int) || (b.toNat : Int) == 95) = true → ∀ (o' : Bool) (d' : Nat → LV) (H' : LHeap), o' = (o || !digF (b.toNat : Int)) → GoesT cfg 97 (Ret (.bool r) H0) [] H0 [] (L97t_0 d' (lwrap .i64 ((A.length : Int) + 1)) o' s) (loopAt cfg 97 0) H' := by
      intro hok o' d' H' ho
      unfold othF at hr
      rw [if_pos hok] at hr
      rw [hi]
      exact loop97x s hs H0 r C (A ++ [b]) o' d' H' (by rw [← hA]; simp) (by rw [ho]; exact hr)
    refine g97t_0 _ H0 d A.length o s H ⟨fun h => ⟨rg, fun hI => ⟨_, c157 H, Ret.use ⟨_, rfl⟩, fun b5 H6 ⟨e5, _⟩ => ⟨fun h5 => ⟨rg, fun hI => ⟨_, c153 H6, Ret.use ⟨_, rfl⟩, fun b9 H10 ⟨e9, _⟩ => ⟨fun h9 => ⟨rg, fun h95 hI => ⟨?bad, hI.pres⟩, fun h95 => ⟨fun ho d => ?a1, fun ho => ⟨rg, fun hI => ⟨_, c153 H10, Ret.use ⟨_, rfl⟩, fun b15 H16 ⟨e15, _⟩ d => ?a2⟩⟩⟩⟩, fun h9 => ⟨fun ho d => ?a3, fun ho => ⟨rg, fun hI => ⟨_, c153 H10, Ret.use ⟨_, rfl⟩, fun b15 H16 ⟨e15, _⟩ d => ?a4⟩⟩⟩⟩⟩⟩, fun h5 => ⟨fun ho d => ?a5, fun ho => ⟨rg, fun hI => ⟨_, c153 H6, Ret.use ⟨_, rfl⟩, fun b15 H16 ⟨e15, _⟩ d => ?a6⟩⟩⟩⟩⟩⟩, fun h => ?ge⟩ hin hI
    case ge => simp at h; omega
    all_goals cases e5
    case bad =>
      cases e9
      rw [hb] at h95
      simp at h5 h9 h95
      unfold othF at hr
      rw [if_neg (by simp [h5, h9]; exact h95)] at hr
      rw [← hr]
    case a1 => cases e9; rw [hb] at h95; simp at h95; refine next (by simp [h95]) _ d _ (by rw [ho]; rfl)
    case a2 => cases e9; cases e15; rw [hb] at h95; simp at h95; refine next (by simp [h95]) _ d _ (by rw [ho]; rfl)
    case a3 => cases e9; simp at h9; refine next (by simp [h9]) _ d _ (by rw [ho]; rfl)
    case a4 => cases e9; cases e15; simp at h9; refine next (by simp [h9]) _ d _ (by rw [ho]; rfl)
    case a5 => simp at h5; refine next (by simp [h5]) _ d _ (by rw [ho]; rfl)
    case a6 => cases e15; simp at h5; refine next (by simp [h5]) _ d _ (by rw [ho]; rfl)

theorem x97 (s : List UInt8) (H : LHeap) : CallL cfg 97 [.str s] H (Ret (.bool (nameF s)) H) := by
  have no : ∀ {H' : LHeap}, nameF s = false → PresX [] H H' → Ret (.bool (nameF s)) H (.bool false) H' := fun h p => ⟨by rw [h], p⟩
  refine e97t _ s H ⟨fun h hI => no ?_ hI.pres, fun h1 => ⟨fun h hI => no ?_ hI.pres, fun h16 => ⟨⟨by omega, by simp at h1; omega⟩, fun hI => ?_⟩⟩⟩
  · cases s with
    | nil => rfl
    | cons b t => simp at h; omega
  · cases s with
    | nil => simp at h
    | cons b t => unfold nameF; simp only; rw [if_pos (by simp at h ⊢; omega)]
  · cases s with
    | nil => simp at h1
    | cons b t =>
      have hs16 : (b :: t).length ≤ 16 := by simp at h16 ⊢; omega
      have hb : byteAt (b :: t) 0 = (b.toNat : Int) := byteAt_app [] b t
      rw [hb]
      refine ⟨_, x157 _ H, Ret.use ⟨_, rfl⟩, fun b3 H4 ⟨e, _⟩ => ⟨fun h3 hI => no ?_ hI.pres, fun h3 hI => ⟨_, x182 (b :: t) (by omega) H4, Ret.use ⟨_, rfl⟩, fun n6 H7 ⟨e6, _⟩ => ⟨fun h6 hI => no ?_ hI.pres, fun h6 d8 => ?_⟩⟩⟩⟩
      · cases e
        have h3' : letF (b.toNat : Int) = false := by simpa using h3
        unfold nameF
        simp only
        rw [if_neg (by omega), h3']
        rfl
      · cases e6
        exact nameF_truth (by simpa using h6)
      · cases e; cases e6
        have h3' : letF (b.toNat : Int) = true := by simpa using h3
        rw [nameF_oth b t hs16 h3' (by simpa using h6)]
        exact loop97x (b :: t) hs16 H _ t [b] _ d8 H7 rfl rfl
end Go.Proofs.YtjihhflffkoffaaGreatDoor.Z
