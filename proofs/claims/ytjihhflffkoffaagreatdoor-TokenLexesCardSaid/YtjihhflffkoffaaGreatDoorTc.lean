/- Contracts of functions of the program; no condition. -/
import Derived.Test.YtjihhflffkoffaaGreatDoorTb
set_option linter.unusedSimpArgs false
set_option linter.unusedVariables false
set_option linter.unusedSectionVars false
set_option linter.unnecessarySimpa false
namespace Go.Proofs.YtjihhflffkoffaaGreatDoor.Z
open Go Go.Lm
set_option maxRecDepth 100000

/-- What count hands back. -/
def CountR (s : List UInt8) (least most : Int) (H : LHeap) : LV → LHeap → Prop := fun v H' => PresX [] H H' ∧ ∃ (n : Int) (b : Bool), v = .tuple [.int .i64 n, .bool b] ∧ b = (digs s && (decide (least ≤ (s.length : Int)) && decide ((s.length : Int) ≤ most))) ∧ (digs s = true → s.length ≤ 12 → n = (decF s 0 : Int)) ∧ 0 ≤ n ∧ n ≤ 1125899906842624

theorem digs_app (A C : List UInt8) : digs (A ++ C) = (digs A && digs C) := by unfold digs; rw [List.all_append]
theorem decF_app (A C : List UInt8) (n : Nat) : decF (A ++ C) n = decF C (decF A n) := by unfold decF; rw [List.foldl_append]

theorem decF_12 {A : List UInt8} (h : digs A = true) (hl : A.length ≤ 12) : decF A 0 < 1000000000000 := by
  have := decF_lt A 0 h
  have h2 : 10 ^ A.length ≤ 10 ^ 12 := Nat.pow_le_pow_right (by omega) hl
  omega

theorem loop276 (s : List UInt8) (hs : s.length ≤ 1000) (least most : Int) (H0 : LHeap) : ∀ (C A : List UInt8) (p : Option LAddr) (n : Int) (d : Nat → LV) (H : LHeap), A ++ C = s → digs A = true → 0 ≤ n → n ≤ 1125899906842624 → (A.length ≤ 12 → n = (decF A 0 : Int)) → IterAt H p s A.length → (∀ q, p = some q → H0.next ≤ q.id) →
    GoesT cfg 276 (CountR s least most H0) [] H0 [] (L276t_0 d n s least most p) (loopAt cfg 276 0) H
  | [], A, p, n, d, H, hA, hdig, h0, h1, hn, hit, hp => by
    intro hin hI
    rw [List.append_nil] at hA
    subst hA
    have hl : A.drop A.length = [] := by simp
    refine g276t_0 _ H0 d n A least most p H (.inr fun hI => ⟨(), [], H, ⟨?_, .refl _ _, fun i hi => by cases hi⟩, fun h hI => ⟨hI.pres, n, _, rfl, ?_, fun _ h12 => hn h12, h0, h1⟩, fun h hI => ⟨hI.pres, n, _, rfl, ?_, fun _ h12 => hn h12, h0, h1⟩⟩) hin hI
    · show (match nextL H (.ptr p) true with | some l => some (l.map fun ((x, H') : LV × LHeap) => (LNext.value x, H')) | none => none) = _
      rw [next_none hit hl]
      rfl
    · rw [hdig]
      have : decide (least ≤ (A.length : Int)) = true := by simpa using h
      rw [this]; rfl
    · rw [hdig]
      have : decide (least ≤ (A.length : Int)) = false := by simpa using h
      rw [this]; rfl
  | b :: C, A, p, n, d, H, hA, hdig, h0, h1, hn, hit, hp => by
    intro hin hI
    have hd : s.drop A.length = b :: C := by rw [← hA]; simp
    obtain ⟨q, H', rfl, hnx, pq, hit'⟩ := next_some hit hd
    have hq : H0.next ≤ q := hp _ rfl
    have bad : ∀ {H1 : LHeap}, digF (b.toNat : Int) = false → PresX [] H0 H1 → CountR s least most H0 (.tuple [.int .i64 0, .bool false]) H1 := by
      intro H1 hb p1
      have : digs s = false := by rw [← hA, digs_app]; simp [digs, hb]
      exact ⟨p1, 0, false, rfl, by rw [this]; rfl, (fun h => by rw [this] at h; cases h), by omega, by omega⟩
    have hi8 := u8_lt256 b
    refine g276t_0 _ H0 d n s least most _ H (.inl fun hI => ⟨((A.length : Int), (((decodeL (b :: C)).1 : Nat) : Int)), [q], H', ⟨?_, pq, fun i hi => by rw [List.mem_singleton.1 hi]; exact ⟨.inr hq, fun k s hs => by simp [nth] at hs⟩⟩, fun hlow hI => bad ?_ hI.pres, fun hlow => ⟨fun hhigh hI => bad ?_ hI.pres, fun hhigh => ?_⟩⟩) hin hI
    · show (match nextL H (.ptr (some ⟨q, 0, 0⟩)) true with | some l => some (l.map fun ((x, H') : LV × LHeap) => (LNext.value x, H')) | none => none) = _
      rw [hnx]
      rfl
    · simp at hlow
      by_cases hb : b.toNat < 128
      · rw [decL_ascii b C hb] at hlow
        simp [digF]; simp at hlow; omega
      · have := decL_high b C (by omega); omega
    · simp at hhigh
      by_cases hb : b.toNat < 128
      · rw [decL_ascii b C hb] at hhigh
        simp [digF]; simp at hhigh; omega
      · simp [digF]; omega
    · simp at hlow hhigh
      have hb : b.toNat < 128 := by
        apply Classical.byContradiction
        intro hb
        have := decL_high b C (by omega)
        omega
      rw [decL_ascii b C hb] at hlow hhigh hit' ⊢
      simp only at hlow hhigh hit' ⊢
      have hdb : digF (b.toNat : Int) = true := by simp [digF]; omega
      have e1 : lwrap .i32 ((b.toNat : Int) - 48) = (b.toNat : Int) - 48 := by
        have e0 : ((b.toNat : Int) - 48) = Int.ofNat (b.toNat - 48) := by simp; omega
        rw [e0]
        unfold lwrap
        simp only [Nat.ble_eq]
        rw [if_pos (by omega)]
      have e2 : lwrap .i64 ((10 : Int) * n) = 10 * n := lwrap_small (by omega) (by omega)
      have e3 : lwrap .i64 ((b.toNat : Int) - 48) = (b.toNat : Int) - 48 := lwrap_small (by omega) (by omega)
      have e4 : lwrap .i64 (10 * n + ((b.toNat : Int) - 48)) = 10 * n + ((b.toNat : Int) - 48) := lwrap_small (by omega) (by omega)
      rw [e1, e2, e3, e4]
      have hA' : (A ++ [b]) ++ C = s := by rw [← hA]; simp
      have hdig' : digs (A ++ [b]) = true := by rw [digs_app, hdig]; simp [digs, hdb]
      have hdec : A.length + 1 ≤ 12 → 10 * n + ((b.toNat : Int) - 48) = (decF (A ++ [b]) 0 : Int) ∧ decF (A ++ [b]) 0 < 1000000000000 := by
        intro h12
        refine ⟨?_, decF_12 hdig' (by simpa using h12)⟩
        rw [decF_app]
        show _ = ((10 * decF A 0 + (b.toNat - 48) : Nat) : Int)
        have := hn (by omega)
        omega
      have hit6 : IterAt H' (some ⟨q, 0, 0⟩) s (A ++ [b]).length := by simpa using hit'
      refine ⟨fun hc d7 => ?_, fun hc d8 => ?_⟩
      · simp at hc
        exact loop276 s hs least most H0 C (A ++ [b]) _ _ d7 H' hA' hdig' (by omega) (by omega) (fun h12 => by have := hdec (by simpa using h12); omega) hit6 hp
      · simp at hc
        exact loop276 s hs least most H0 C (A ++ [b]) _ _ d8 H' hA' hdig' (by omega) (by omega) (fun h12 => (hdec (by simpa using h12)).1) hit6 hp

theorem s276 (s : List UInt8) (hs : s.length ≤ 1000) (least most : Int) (H : LHeap) : CallL cfg 276 [.str s, .int .i64 least, .int .i64 most] H (CountR s least most H) := by
  obtain ⟨h1, h2⟩ := range_new s H
  refine e276t _ s least most H fun hI => ⟨some ⟨H.next, 0, 0⟩, [], H.push (.stringIter s 0), ⟨?_, .push _ _ _, fun i hi => by cases hi⟩, fun d => loop276 s hs least most H s [] _ 0 d _ rfl rfl (by omega) (by omega) (fun _ => rfl) h2 (fun q e => by cases e; exact Nat.le_refl _)⟩
  show (match rangeL cfg.P H 9 (.str s) with | some (x, H') => some [(LNext.value x, H')] | none => none) = _
  rw [h1]

theorem CountR.sh {s : List UInt8} {l m : Int} {H : LHeap} : ∀ v H', CountR s l m H v H' → PresX [] H H' ∧ hasSh (.tuple [.int .i64, .bool]) v := fun v H' ⟨h1, n, b, e, _⟩ => ⟨h1, by rw [e]; exact ⟨_, _, rfl⟩⟩

def toldL (n : Int) : LV := if numF n then .tuple [.int .i64 n, .bool true] else .tuple [.int .i64 0, .bool false]
theorem toldL_sh (n : Int) : hasSh (.tuple [.int .i64, .bool]) (toldL n) := by unfold toldL; split <;> exact ⟨_, _, rfl⟩
theorem s277 (n : Int) (H : LHeap) : CallL cfg 277 [.int .i64 n] H (Ret (toldL n) H) := by
  refine e277t _ n H fun hI => ⟨_, s294 n H, Ret.use ⟨_, rfl⟩, fun b H3 ⟨e, _⟩ => ⟨fun h hI => ⟨?_, hI.pres⟩, fun h hI => ⟨?_, hI.pres⟩⟩⟩
  · cases e
    have : numF n = false := by simpa using h
    unfold toldL; rw [this]; rfl
  · cases e
    have : numF n = true := by simpa using h
    unfold toldL; rw [this]; rfl

/-- A number's digits, in its parts. -/
def partsF (s : List UInt8) : List UInt8 × List UInt8 × Bool := match cutF 46 s with
  | some (x, y) => (x, y, true)
  | none => (s, [], false)
/-- Is a text without a sign a number? -/
def parseOk (s : List UInt8) : Bool := (digs (partsF s).1 && (decide (1 ≤ ((partsF s).1.length : Int)) && decide (((partsF s).1.length : Int) ≤ 12))) && (!(partsF s).2.2 || (digs (partsF s).2.1 && (decide (1 ≤ ((partsF s).2.1.length : Int)) && decide (((partsF s).2.1.length : Int) ≤ 4))))
def parseV (s : List UInt8) : Int := (decF (partsF s).1 0 : Int) * 10000 + (decF (partsF s).2.1 0 : Int) * 10 ^ (4 - (partsF s).2.1.length)
def parseL (s : List UInt8) : LV := if parseOk s then toldL (parseV s) else .tuple [.int .i64 0, .bool false]
theorem parseL_sh (s : List UInt8) : hasSh (.tuple [.int .i64, .bool]) (parseL s) := by
  unfold parseL
  split
  · exact toldL_sh _
  · exact ⟨_, _, rfl⟩

theorem loop230 (H0 : LHeap) (n : Int) (hn : 0 ≤ n ∧ n < 1000000000000) (k : Nat) (hk : k ≤ 4) (d' : Int) (hd : 0 ≤ d') (hd2 : d' * 10 ^ k < 10000) (r : LV) (hr : toldL (n * 10000 + d' * 10 ^ k) = r) : ∀ (m i : Nat), i + m = k → ∀ (d : Nat → LV) (H : LHeap),
    GoesT cfg 230 (Ret r H0) [] H0 [] (L230t_0 d (i : Int) (d' * 10 ^ i) false n (k : Int)) (loopAt cfg 230 0) H
  | 0, i, hi, d, H => by
    intro hin hI
    have : i = k := by omega
    subst this
    refine g230t_0 _ H0 d i (d' * 10 ^ i) false n i H ⟨fun h => ?_, fun _ => ⟨fun h => (by cases h), fun _ hI => ?_⟩⟩ hin hI
    · simp at h
    · have h0 : 0 ≤ d' * 10 ^ i := Int.mul_nonneg hd (Int.pow_nonneg (by omega))
      rw [lwrap_small (n := n * 10000) (by omega) (by omega), lwrap_small (n := n * 10000 + d' * 10 ^ i) (by omega) (by omega)]
      refine ⟨_, s277 _ H, Ret.use (toldL_sh _), fun n7 b8 H9 ⟨e, _⟩ hI => ⟨by rw [← hr]; exact e, hI.pres⟩⟩
  | m + 1, i, hi, d, H => by
    intro hin hI
    have h0 : 0 ≤ d' * 10 ^ i := Int.mul_nonneg hd (Int.pow_nonneg (by omega))
    have hle : d' * 10 ^ i ≤ d' * 10 ^ k := Int.mul_le_mul_of_nonneg_left (by exact_mod_cast Nat.pow_le_pow_right (by omega) (by omega)) hd
    refine g230t_0 _ H0 d i (d' * 10 ^ i) false n k H ⟨fun _ d5 => ?_, fun h => ?_⟩ hin hI
    · rw [lwrap_small (n := d' * 10 ^ i * 10) (by omega) (by omega), lwrap_small (n := (i : Int) + 1) (by omega) (by omega)]
      have := loop230 H0 n hn k hk d' hd hd2 r hr m (i + 1) (by omega) d5 H
      rw [Int.pow_succ, ← Int.mul_assoc] at this
      exact this
    · simp at h; omega
end Go.Proofs.YtjihhflffkoffaaGreatDoor.Z
