/- Contracts of functions of the program; no condition. -/
import Derived.Test.YtjihhflffkoffaaGreatDoorTa
set_option linter.unusedSimpArgs false
set_option linter.unusedVariables false
set_option linter.unusedSectionVars false
set_option linter.unnecessarySimpa false
namespace Go.Proofs.YtjihhflffkoffaaGreatDoor.Z
open Go Go.Lm
set_option maxRecDepth 100000

theorem loop228b (s : List UInt8) (H0 : LHeap) (r : Nat) : ∀ (C A : List UInt8) (p : Option LAddr) (d : Nat → LV) (H : LHeap), A ++ C = s → A.length + spanF wordB C = r → IterAt H p s A.length → (∀ q, p = some q → H0.next ≤ q.id) →
    GoesT cfg 228 (Ret (.int .i64 (r : Int)) H0) [] H0 [] (L228b_0 d s p) (loopAt cfg 228 0) H
  | [], A, p, d, H, hA, hr, hit, hp => by
    intro hin hI
    have hl : s.drop A.length = [] := by rw [← hA]; simp
    have hrl : r = s.length := by rw [← hr, ← hA]; simp [spanF]
    refine g228b_0 _ H0 d s p H (.inr fun hI => ⟨(), [], H, ⟨?_, .refl _ _, fun i hi => by cases hi⟩, fun hI => ⟨by rw [hrl], hI.pres⟩⟩) hin hI
    show (match nextL H (.ptr p) true with | some l => some (l.map fun ((x, H') : LV × LHeap) => (LNext.value x, H')) | none => none) = _
    rw [next_none hit hl]
    rfl
  | b :: C, A, p, d, H, hA, hr, hit, hp => by
    intro hin hI
    have hd : s.drop A.length = b :: C := by rw [← hA]; simp
    obtain ⟨q, H', rfl, hn, pq, hit'⟩ := next_some hit hd
    have hq : H0.next ≤ q := hp _ rfl
    refine g228b_0 _ H0 d s _ H (.inl fun hI => ⟨((A.length : Int), (((decodeL (b :: C)).1 : Nat) : Int)), [q], H', ⟨?_, pq, fun i hi => by rw [List.mem_singleton.1 hi]; exact ⟨.inr hq, fun k s hs => by simp [nth] at hs⟩⟩, fun hI => ⟨_, s279 _ H', Ret.use ⟨_, rfl⟩, fun b5 H6 ⟨e5, p6⟩ => ⟨fun h hI => ⟨?_, hI.pres⟩, fun h d7 => ?_⟩⟩⟩) hin hI
    · show (match nextL H (.ptr (some ⟨q, 0, 0⟩)) true with | some l => some (l.map fun ((x, H') : LV × LHeap) => (LNext.value x, H')) | none => none) = _
      rw [hn]
      rfl
    · cases e5
      have hso : wordB (b.toNat : Int) = false := by
        by_cases hb : b.toNat < 128
        · rw [decL_ascii b C hb] at h; simpa using h
        · exact wordB_high (by omega)
      unfold spanF at hr
      rw [hso] at hr
      simp at hr
      rw [← hr]
    · cases e5
      have hb : b.toNat < 128 := by
        apply Classical.byContradiction
        intro hb
        have := decL_high b C (by omega)
        rw [wordB_high (by omega)] at h
        cases h
      rw [decL_ascii b C hb] at h hit'
      have hso : wordB (b.toNat : Int) = true := by simpa using h
      unfold spanF at hr
      rw [hso, if_pos rfl] at hr
      exact loop228b s H0 r C (A ++ [b]) _ d7 H6 (by rw [← hA]; simp) (by simp; omega) (by simpa using hit'.on p6) hp

theorem s228a (s : List UInt8) (H : LHeap) : CallL cfg 228 [.str s, .func (.func 229) [] []] H (Ret (.int .i64 ((spanF numB s : Nat) : Int)) H) := by
  obtain ⟨h1, h2⟩ := range_new s H
  refine e228a _ s H fun hI => ⟨some ⟨H.next, 0, 0⟩, [], H.push (.stringIter s 0), ⟨?_, .push _ _ _, fun i hi => by cases hi⟩, fun d => loop228a s H _ s [] _ d _ rfl (by simp) h2 (fun q e => by cases e; exact Nat.le_refl _)⟩
  show (match rangeL cfg.P H 9 (.str s) with | some (x, H') => some [(LNext.value x, H')] | none => none) = _
  rw [h1]

theorem s228b (s : List UInt8) (H : LHeap) : CallL cfg 228 [.str s, .func (.func 279) [] []] H (Ret (.int .i64 ((spanF wordB s : Nat) : Int)) H) := by
  obtain ⟨h1, h2⟩ := range_new s H
  refine e228b _ s H fun hI => ⟨some ⟨H.next, 0, 0⟩, [], H.push (.stringIter s 0), ⟨?_, .push _ _ _, fun i hi => by cases hi⟩, fun d => loop228b s H _ s [] _ d _ rfl (by simp) h2 (fun q e => by cases e; exact Nat.le_refl _)⟩
  show (match rangeL cfg.P H 9 (.str s) with | some (x, H') => some [(LNext.value x, H')] | none => none) = _
  rw [h1]

theorem s234 (s : List UInt8) (H : LHeap) : CallL cfg 234 [.str s] H (Ret (.int .i64 ((spanF wordB s : Nat) : Int)) H) := by
  refine e234t _ s H fun hI => ⟨_, s228b s H, Ret.use ⟨_, rfl⟩, fun n H3 ⟨e, _⟩ hI => ⟨e, hI.pres⟩⟩

/-! Parts of texts -/
theorem sub_all (s : List UInt8) : subStr s 0 ((s.length : Nat) : Int) = s := by unfold subStr; simp
theorem sub_take (s : List UInt8) (n : Nat) : subStr s 0 (n : Int) = s.take n := by unfold subStr; simp
theorem sub_drop (s : List UInt8) (n : Nat) : subStr s (n : Int) ((s.length : Nat) : Int) = s.drop n := by
  unfold subStr
  simp only [Int.toNat_natCast]
  rw [List.take_of_length_le (by rw [List.length_drop]; omega)]
theorem sub_drop1 (s : List UInt8) : subStr s 1 ((s.length : Nat) : Int) = s.drop 1 := sub_drop s 1

theorem s270 (s p : List UInt8) (H : LHeap) : CallL cfg 270 [.str s, .str p] H (Ret (.bool (s.take p.length == p)) H) := by
  refine e270t _ s p H ⟨fun h => ⟨⟨by omega, by omega, by simp at h; omega⟩, fun hI => ⟨by rw [sub_take], hI.pres⟩⟩, fun h hI => ⟨?_, hI.pres⟩⟩
  simp at h
  congr 1
  symm
  rw [beq_eq_false_iff_ne]
  intro e
  have := congrArg List.length e
  rw [List.length_take] at this
  omega
theorem s232 (s p : List UInt8) (H : LHeap) : CallL cfg 232 [.str s, .str p] H (Ret (.bool (s.take p.length == p)) H) :=
  e232t _ s p H fun hI => ⟨_, s270 s p H, Ret.use ⟨_, rfl⟩, fun b H3 ⟨e, _⟩ hI => ⟨e, hI.pres⟩⟩

/-- A text without what it begins with. -/
def cutP (s p : List UInt8) : List UInt8 × Bool := if s.take p.length == p then (s.drop p.length, true) else (s, false)
theorem s212 (s p : List UInt8) (H : LHeap) : CallL cfg 212 [.str s, .str p] H (Ret (.tuple [.str (cutP s p).1, .bool (cutP s p).2]) H) := by
  refine e212t _ s p H fun hI => ⟨_, s270 s p H, Ret.use ⟨_, rfl⟩, fun b H3 ⟨e, _⟩ => ⟨fun h hI => ⟨?_, hI.pres⟩, fun h => ⟨?_, fun hI => ⟨?_, hI.pres⟩⟩⟩⟩
  · cases e
    have : (s.take p.length == p) = false := by simpa using h
    unfold cutP
    rw [this]; rfl
  · cases e
    have : s.take p.length = p := by simpa using h
    have := congrArg List.length this
    rw [List.length_take] at this
    omega
  · cases e
    have : (s.take p.length == p) = true := by simpa using h
    unfold cutP
    rw [this, sub_drop]; rfl
theorem s130 (s p : List UInt8) (H : LHeap) : CallL cfg 130 [.str s, .str p] H (Ret (.tuple [.str (cutP s p).1, .bool (cutP s p).2]) H) :=
  e130t _ s p H fun hI => ⟨_, s212 s p H, Ret.use ⟨_, _, rfl⟩, fun s2 b H3 ⟨e, _⟩ hI => ⟨e, hI.pres⟩⟩

/-- Where a byte first stands. -/
def cutF (c : UInt8) : List UInt8 → Option (List UInt8 × List UInt8)
  | [] => none
  | b :: s => if b == c then some ([], s) else match cutF c s with
    | some (x, y) => some (b :: x, y)
    | none => none
theorem cutF_eq {c : UInt8} : ∀ {s x y : List UInt8}, cutF c s = some (x, y) → s = x ++ c :: y
  | [], x, y, h => by cases h
  | b :: s, x, y, h => by
    unfold cutF at h
    split at h
    · rename_i hb
      cases h
      rw [eq_of_beq hb]; rfl
    · split at h
      · rename_i x' y' h'
        cases h
        rw [cutF_eq h']; rfl
      · cases h
theorem find_cut (c : UInt8) : ∀ (s : List UInt8) (i : Nat), findByte c s i = (match cutF c s with | some (x, _) => ((i + x.length : Nat) : Int) | none => -1)
  | [], i => rfl
  | b :: s, i => by
    unfold findByte cutF
    split
    · simp
    · rw [find_cut c s (i + 1)]
      cases cutF c s with
      | none => rfl
      | some p => simp; omega

theorem s316 (s : List UInt8) (c : UInt8) (H : LHeap) : CallL cfg 316 [.str s, .int .u8 ((c.toNat : Nat) : Int)] H (Ret (.int .i64 (findByte c s 0)) H) := by
  refine e316t _ s _ H fun hI => ⟨?_, hI.pres⟩
  congr 2
  simp

theorem s309 (s : List UInt8) (c : UInt8) (H : LHeap) : CallL cfg 309 [.str s, .str [c]] H (Ret (.int .i64 (findByte c s 0)) H) := by
  refine e309t _ s c H ⟨fun h hI => ⟨?_, hI.pres⟩, fun h hI => ⟨_, s316 s c H, Ret.use ⟨_, rfl⟩, fun n H2 ⟨e, _⟩ hI => ⟨e, hI.pres⟩⟩⟩
  have : s = [c] := (eq_of_beq h).symm
  rw [this]
  simp [findByte]
theorem s282 (s : List UInt8) (c : UInt8) (H : LHeap) : CallL cfg 282 [.str s, .str [c]] H (Ret (.int .i64 (findByte c s 0)) H) :=
  e282t _ s c H fun hI => ⟨_, s309 s c H, Ret.use ⟨_, rfl⟩, fun n H2 ⟨e, _⟩ hI => ⟨e, hI.pres⟩⟩
theorem s237 (s : List UInt8) (c : UInt8) (H : LHeap) : CallL cfg 237 [.str s, .str [c]] H (Ret (.bool (cutF c s).isSome) H) := by
  refine e237t _ s c H fun hI => ⟨_, s282 s c H, Ret.use ⟨_, rfl⟩, fun n H2 ⟨e, _⟩ hI => ⟨?_, hI.pres⟩⟩
  cases e
  rw [find_cut]
  congr 1
  cases cutF c s with
  | none => rfl
  | some p => simp

/-- What Cut hands back. -/
def cutL (s : List UInt8) (c : UInt8) : LV := match cutF c s with
  | some (x, y) => .tuple [.str x, .str y, .bool true]
  | none => .tuple [.str s, .str [], .bool false]
theorem cutL_sh (s : List UInt8) (c : UInt8) : hasSh (.tuple [.str, .str, .bool]) (cutL s c) := by
  unfold cutL
  split <;> exact ⟨_, _, _, rfl⟩
theorem s278 (s : List UInt8) (c : UInt8) (H : LHeap) (hs : s.length ≤ 1000) : CallL cfg 278 [.str s, .str [c]] H (Ret (cutL s c) H) := by
  refine e278t _ s c H fun hI => ⟨_, s309 s c H, Ret.use ⟨_, rfl⟩, fun n H2 ⟨e, _⟩ => ?_⟩
  rw [find_cut] at e
  unfold cutL
  cases h : cutF c s with
  | none =>
    rw [h] at e
    cases e
    exact ⟨fun h => (by simp at h), fun _ hI => ⟨rfl, hI.pres⟩⟩
  | some p =>
    obtain ⟨x, y⟩ := p
    rw [h] at e
    simp only [Nat.zero_add] at e
    cases e
    have hse := cutF_eq h
    have hl : s.length = x.length + (y.length + 1) := by rw [hse]; simp
    have hw : lwrap .i64 (((x.length : Nat) : Int) + 1) = ((x.length + 1 : Nat) : Int) := by rw [lwrap_small (by omega) (by omega)]; simp
    refine ⟨fun _ => ⟨⟨by omega, by omega, by omega⟩, ⟨by rw [hw]; omega, by rw [hw]; omega, by omega⟩, rfl, fun hI => ⟨?_, hI.pres⟩⟩, fun h => ?_⟩
    · rw [hw, sub_take, sub_drop, hse]
      simp
    · simp at h
theorem s231 (s : List UInt8) (c : UInt8) (H : LHeap) (hs : s.length ≤ 1000) : CallL cfg 231 [.str s, .str [c]] H (Ret (cutL s c) H) :=
  e231t _ s c H fun hI => ⟨_, s278 s c H hs, Ret.use (cutL_sh s c), fun x y b H3 ⟨e, _⟩ hI => ⟨e, hI.pres⟩⟩

/-! Numbers -/
def digs (s : List UInt8) : Bool := s.all fun b => digF (b.toNat : Int)
def decF (s : List UInt8) (n : Nat) : Nat := s.foldl (fun n b => 10 * n + (b.toNat - 48)) n
theorem decF_lt : ∀ (s : List UInt8) (n : Nat), digs s = true → decF s n < (n + 1) * 10 ^ s.length
  | [], n, _ => by simp [decF]
  | b :: s, n, h => by
    have hb : digF (b.toNat : Int) = true ∧ digs s = true := by simpa [digs] using h
    have h1 := decF_lt s (10 * n + (b.toNat - 48)) hb.2
    have hr : b.toNat ≤ 57 := by have := hb.1; simp [digF] at this; omega
    show decF s (10 * n + (b.toNat - 48)) < _
    rw [List.length_cons, Nat.pow_succ]
    refine Nat.lt_of_lt_of_le h1 ?_
    calc (10 * n + (b.toNat - 48) + 1) * 10 ^ s.length ≤ ((n + 1) * 10) * 10 ^ s.length := Nat.mul_le_mul_right _ (by omega)
      _ = (n + 1) * (10 ^ s.length * 10) := by rw [Nat.mul_assoc, Nat.mul_comm 10]
end Go.Proofs.YtjihhflffkoffaaGreatDoor.Z
