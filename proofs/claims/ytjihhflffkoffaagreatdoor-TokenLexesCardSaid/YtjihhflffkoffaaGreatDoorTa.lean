/- Contracts of functions of the program; no condition. -/
import Derived.Test.YtjihhflffkoffaaGreatDoorT1
import Derived.Test.YtjihhflffkoffaaGreatDoorFa
import Derived.Laws.RangeAny
import Derived.Laws.RangeString
set_option linter.unusedSimpArgs false
set_option linter.unusedVariables false
set_option linter.unusedSectionVars false
set_option linter.unnecessarySimpa false
namespace Go.Proofs.YtjihhflffkoffaaGreatDoor.Z
open Go Go.Lm
set_option maxRecDepth 100000

/-! Runes of a text -/
theorem decL_ascii (b : UInt8) (l : List UInt8) (h : b.toNat < 128) : decodeL (b :: l) = (b.toNat, 1) :=
  decode_ascii ⟨(b :: l).toArray⟩ 0 (by simp [ByteArray.size]) h

theorem decL_high (b : UInt8) (l : List UInt8) (h : 128 ≤ b.toNat) : 128 ≤ (decodeL (b :: l)).1 :=
  (decode_high ⟨(b :: l).toArray⟩ 0 (by simp [ByteArray.size]) h).1

/-- An iterator stands somewhere in a text. -/
def IterAt (H : LHeap) (p : Option LAddr) (s : List UInt8) (n : Nat) : Prop := ∃ r, p = some ⟨r, 0, 0⟩ ∧ r < H.next ∧ H.get r = some (.stringIter s n)

theorem IterAt.on {H H' : LHeap} {p : Option LAddr} {s : List UInt8} {n : Nat} (h : IterAt H p s n) (k : PresX [] H H') : IterAt H' p s n := by
  obtain ⟨r, e, hl, hg⟩ := h
  exact ⟨r, e, Nat.lt_of_lt_of_le hl k.next, by rw [(k.keep r hl (by simp)).get]; exact hg⟩

theorem range_new (s : List UInt8) (H : LHeap) : rangeL cfg.P H 9 (.str s) = some (.ptr (some ⟨H.next, 0, 0⟩), H.push (.stringIter s 0)) ∧ IterAt (H.push (.stringIter s 0)) (some ⟨H.next, 0, 0⟩) s 0 := by
  refine ⟨?_, H.next, rfl, Nat.lt_succ_self _, by rw [LHeap.get_push, if_pos rfl]⟩
  unfold rangeL
  rw [show cfg.P.underlying 9 = some .string by kernel_rfl]

theorem next_some {H : LHeap} {p : Option LAddr} {s : List UInt8} {n : Nat} (h : IterAt H p s n) {b : UInt8} {l : List UInt8} (hd : s.drop n = b :: l) :
    ∃ r H', p = some ⟨r, 0, 0⟩ ∧ nextL H (.ptr p) true = some [(.tuple [.bool true, .int .i64 (n : Int), .int .i32 (((decodeL (b :: l)).1 : Nat) : Int)], H')] ∧ PresX [r] H H' ∧ IterAt H' p s (n + (decodeL (b :: l)).2) := by
  obtain ⟨r, rfl, hl, hg⟩ := h
  refine ⟨r, H.put r (.stringIter s (n + (decodeL (b :: l)).2)), rfl, ?_, .put _ _ _, r, rfl, hl, by rw [LHeap.get_put, if_pos rfl]⟩
  unfold nextL
  simp only [hg]
  rw [dropN_eq, hd]

theorem next_none {H : LHeap} {p : Option LAddr} {s : List UInt8} {n : Nat} (h : IterAt H p s n) (hd : s.drop n = []) : nextL H (.ptr p) true = some [(.tuple [.bool false], H)] := by
  obtain ⟨r, rfl, hl, hg⟩ := h
  unfold nextL
  simp only [hg]
  rw [dropN_eq, hd]

theorem s146 (n : Int) (H : LHeap) : CallL cfg 146 [.int .i32 n] H (Ret (.bool (digF n)) H) := by
  refine e146t _ n H ⟨fun h1 hI => ⟨?_, hI.pres⟩, fun h1 hI => ⟨?_, hI.pres⟩⟩
  all_goals
    simp only [ge_iff_le] at *
    simp [digF, *]

theorem s150 (n : Int) (H : LHeap) : CallL cfg 150 [.int .i32 n] H (Ret (.bool (letF n)) H) := by
  refine e150t _ n H ⟨fun h1 => ⟨fun h2 hI => ⟨?_, hI.pres⟩, fun h2 => ⟨fun h3 hI => ⟨?_, hI.pres⟩, fun h3 hI => ⟨?_, hI.pres⟩⟩⟩, fun h1 => ⟨fun h3 hI => ⟨?_, hI.pres⟩, fun h3 hI => ⟨?_, hI.pres⟩⟩⟩
  all_goals
    simp only [ge_iff_le] at *
    simp [letF, *]

def numB (n : Int) : Bool := digF n || n == 46
def wordB (n : Int) : Bool := letF n || (digF n || (n == 95 || n == 36))

theorem s229 (n : Int) (H : LHeap) : CallL cfg 229 [.int .i32 n] H (Ret (.bool (numB n)) H) := by
  refine e229t _ n H fun hI => ⟨_, s146 n H, Ret.use ⟨_, rfl⟩, fun b H3 ⟨e, _⟩ => ⟨fun h hI => ⟨?_, hI.pres⟩, fun h hI => ⟨?_, hI.pres⟩⟩⟩
  all_goals cases e; simp only [numB, h, Bool.true_or, Bool.false_or]

theorem s279 (n : Int) (H : LHeap) : CallL cfg 279 [.int .i32 n] H (Ret (.bool (wordB n)) H) := by
  refine e279t _ n H fun hI => ⟨_, s150 n H, Ret.use ⟨_, rfl⟩, fun b H3 ⟨e, _⟩ => ⟨fun h hI => ⟨?_, hI.pres⟩, fun h hI => ⟨_, s146 n H3, Ret.use ⟨_, rfl⟩, fun b5 H6 ⟨e2, _⟩ => ⟨fun h2 hI => ⟨?_, hI.pres⟩, fun h2 => ⟨fun h3 hI => ⟨?_, hI.pres⟩, fun h3 hI => ⟨?_, hI.pres⟩⟩⟩⟩⟩⟩
  · cases e; simp only [wordB, h, Bool.true_or]
  · cases e; cases e2; simp only [wordB, h, h2, Bool.true_or, Bool.false_or]
  · cases e; cases e2; simp only [wordB, h, h2, h3, Bool.true_or, Bool.false_or]
  · cases e; cases e2; simp only [wordB, h, h2, h3, Bool.false_or]

/-- How many bytes a text begins with that are so. -/
def spanF (so : Int → Bool) : List UInt8 → Nat
  | [] => 0
  | b :: s => if so (b.toNat : Int) then spanF so s + 1 else 0
theorem spanF_le (so : Int → Bool) : ∀ s, spanF so s ≤ s.length
  | [] => Nat.le_refl _
  | b :: s => by unfold spanF; have := spanF_le so s; split <;> simp <;> omega

theorem numB_high {n : Int} (h : 128 ≤ n) : numB n = false := by
  unfold numB digF
  rw [decide_eq_false (by omega : ¬ n ≤ 57)]
  simp; omega
theorem wordB_high {n : Int} (h : 128 ≤ n) : wordB n = false := by
  unfold wordB digF letF
  rw [decide_eq_false (by omega : ¬ n ≤ 57), decide_eq_false (by omega : ¬ n ≤ 122), decide_eq_false (by omega : ¬ n ≤ 90)]
  simp; omega

theorem loop228a (s : List UInt8) (H0 : LHeap) (r : Nat) : ∀ (C A : List UInt8) (p : Option LAddr) (d : Nat → LV) (H : LHeap), A ++ C = s → A.length + spanF numB C = r → IterAt H p s A.length → (∀ q, p = some q → H0.next ≤ q.id) →
    GoesT cfg 228 (Ret (.int .i64 (r : Int)) H0) [] H0 [] (L228a_0 d s p) (loopAt cfg 228 0) H
  | [], A, p, d, H, hA, hr, hit, hp => by
    intro hin hI
    have hl : s.drop A.length = [] := by rw [← hA]; simp
    have hrl : r = s.length := by rw [← hr, ← hA]; simp [spanF]
    refine g228a_0 _ H0 d s p H (.inr fun hI => ⟨(), [], H, ⟨?_, .refl _ _, fun i hi => by cases hi⟩, fun hI => ⟨by rw [hrl], hI.pres⟩⟩) hin hI
    show (match nextL H (.ptr p) true with | some l => some (l.map fun ((x, H') : LV × LHeap) => (LNext.value x, H')) | none => none) = _
    rw [next_none hit hl]
    rfl
  | b :: C, A, p, d, H, hA, hr, hit, hp => by
    intro hin hI
    have hd : s.drop A.length = b :: C := by rw [← hA]; simp
    obtain ⟨q, H', rfl, hn, pq, hit'⟩ := next_some hit hd
    have hq : H0.next ≤ q := hp _ rfl
    refine g228a_0 _ H0 d s _ H (.inl fun hI => ⟨((A.length : Int), (((decodeL (b :: C)).1 : Nat) : Int)), [q], H', ⟨?_, pq, fun i hi => by rw [List.mem_singleton.1 hi]; exact ⟨.inr hq, fun k s hs => by simp [nth] at hs⟩⟩, fun hI => ⟨_, s229 _ H', Ret.use ⟨_, rfl⟩, fun b5 H6 ⟨e5, p6⟩ => ⟨fun h hI => ⟨?_, hI.pres⟩, fun h d7 => ?_⟩⟩⟩) hin hI
    · show (match nextL H (.ptr (some ⟨q, 0, 0⟩)) true with | some l => some (l.map fun ((x, H') : LV × LHeap) => (LNext.value x, H')) | none => none) = _
      rw [hn]
      rfl
    · cases e5
      have hso : numB (b.toNat : Int) = false := by
        by_cases hb : b.toNat < 128
        · rw [decL_ascii b C hb] at h; simpa using h
        · exact numB_high (by omega)
      unfold spanF at hr
      rw [hso] at hr
      simp at hr
      rw [← hr]
    · cases e5
      have hb : b.toNat < 128 := by
        apply Classical.byContradiction
        intro hb
        have := decL_high b C (by omega)
        rw [numB_high (by omega)] at h
        cases h
      rw [decL_ascii b C hb] at h hit'
      have hso : numB (b.toNat : Int) = true := by simpa using h
      unfold spanF at hr
      rw [hso, if_pos rfl] at hr
      exact loop228a s H0 r C (A ++ [b]) _ d7 H6 (by rw [← hA]; simp) (by simp; omega) (by simpa using hit'.on p6) hp
end Go.Proofs.YtjihhflffkoffaaGreatDoor.Z
