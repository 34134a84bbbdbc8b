/- Contracts of functions of the program; no condition. -/
import Derived.Test.YtjihhflffkoffaaGreatDoorWb
set_option linter.unusedSimpArgs false
set_option linter.unusedVariables false
set_option linter.unusedSectionVars false
set_option linter.unnecessarySimpa false
namespace Go.Proofs.YtjihhflffkoffaaGreatDoor.Z
open Go Go.Lm
set_option maxRecDepth 100000

def ofP (r : RefC) (p : PlaceC) (c : ChangeC) : Bool := (atP r p).book == c.book && (atP r p).sheet == c.sheet

theorem s135 (r : RefC) (p : PlaceC) (c : ChangeC) (H : LHeap) : CallL cfg 135 [r.lv, p.lv, c.lv] H (Ret (.bool (ofP r p c)) H) := by
  refine e135 _ r p c H fun i H1 j H2 k H3 hI => ⟨_, s220 r p H3, Ret.use ⟨_, rfl⟩, fun x H4 ⟨e, _⟩ l H5 H6 => ?_⟩
  have : x = atP r p := by
    cases x
    simp only [PlaceC.lv, PlaceC.cs, LV.agg.injEq, List.cons.injEq, LV.str.injEq, LV.int.injEq, true_and, and_true] at e
    obtain ⟨a, b, c, d⟩ := e
    simp [a, b, c, d]
  subst this
  refine ⟨fun h hI => ⟨?_, hI.pres⟩, fun h hI => ⟨?_, hI.pres⟩⟩
  · simp [ofP, h]
  · simp [ofP, h]

def refR (r : RefC) (c : ChangeC) : RefC × Bool :=
  if c.drop then (⟨[], [], 0, 0, false, false⟩, false)
  else if c.cols then (⟨r.book, r.sheet, r.row, (posS (shiftOf c) r.col).1, r.fixRow, r.fixCol⟩, (posS (shiftOf c) r.col).2)
  else (⟨r.book, r.sheet, (posS (shiftOf c) r.row).1, r.col, r.fixRow, r.fixCol⟩, (posS (shiftOf c) r.row).2)

theorem s136 (r : RefC) (c : ChangeC) (H : LHeap) : CallL cfg 136 [r.lv, c.lv] H (Ret (.tuple [(refR r c).1.lv, .bool (refR r c).2]) H) := by
  refine e136 _ r c H fun i H1 j H2 k H3 => ⟨fun h H4 hI => ⟨?_, hI.pres⟩, fun h => ⟨fun h2 hI => ⟨_, s221 (shiftOf c) r.col H3, Ret.use ⟨_, _, rfl⟩, fun n b H4 ⟨e, _⟩ H5 H6 hI => ⟨?_, hI.pres⟩⟩, fun h2 hI => ⟨_, s221 (shiftOf c) r.row H3, Ret.use ⟨_, _, rfl⟩, fun n b H4 ⟨e, _⟩ H5 H6 hI => ⟨?_, hI.pres⟩⟩⟩⟩
  · simp [refR, h, RefC.lv, RefC.cs]
  · simp only [pairL, LV.tuple.injEq, List.cons.injEq, LV.int.injEq, LV.bool.injEq, true_and, and_true] at e
    obtain ⟨e1, e2⟩ := e
    simp [refR, h, h2, RefC.lv, RefC.cs, e1, e2]
  · simp only [pairL, LV.tuple.injEq, List.cons.injEq, LV.int.injEq, LV.bool.injEq, true_and, and_true] at e
    obtain ⟨e1, e2⟩ := e
    simp [refR, h, h2, RefC.lv, RefC.cs, e1, e2]

/-- Where lines that go down go. -/
def coreS (x : ShiftC) (lo hi : Int) : Int × Int × Bool :=
  if hi < lo then (0, 0, false) else if x.at_ ≤ lo ∧ hi ≤ x.at_ - x.n - 1 then (0, 0, false) else (foldS x lo x.at_, foldS x hi (x.at_ - 1), true)

theorem posS_down {x : ShiftC} (hg : goodS x = true) (hn : x.n ≤ -1) {k : Int} (hk : 1 ≤ k ∧ k ≤ x.most) : posS x k = if k < x.at_ then (k, true) else if k < x.at_ - x.n then (0, false) else (k + x.n, true) := by
  unfold posS
  rw [if_pos hg, if_pos hk]
  split
  · rfl
  · split
    · rw [if_pos (by omega)]
    · rw [if_neg (by omega)]

theorem core_end {x : ShiftC} (hg : goodS x = true) (hn : x.n ≤ -1) {lo hi : Int} (hlo : 1 ≤ lo) (hhi : hi ≤ x.most) (h : lo ≤ hi) (h1 : (posS x lo).2 = true) (h2 : (posS x hi).2 = true) : coreS x lo hi = ((posS x lo).1, (posS x hi).1, true) := by
  rw [posS_down hg hn ⟨hlo, by omega⟩] at h1 ⊢
  rw [posS_down hg hn ⟨by omega, hhi⟩] at h2 ⊢
  unfold coreS foldS
  rw [if_neg (by omega)]
  by_cases a1 : lo < x.at_
  · rw [if_neg (by omega), if_pos a1, if_pos a1]
    by_cases a2 : hi < x.at_
    · rw [if_pos a2, if_pos a2]
    · rw [if_neg a2, if_neg a2]
      rw [if_neg a2] at h2
      by_cases a3 : hi < x.at_ - x.n
      · rw [if_pos a3] at h2; cases h2
      · rw [if_pos (by omega), if_neg a3]
  · rw [if_neg a1] at h1
    by_cases a3 : lo < x.at_ - x.n
    · rw [if_pos a3] at h1; cases h1
    · rw [if_neg (by omega), if_neg a1, if_pos (by omega), if_neg (by omega), if_pos (by omega), if_neg a1, if_neg a3, if_neg (by omega), if_neg (by omega)]

theorem core_lo {x : ShiftC} (hg : goodS x = true) (hn : x.n ≤ -1) {lo hi : Int} (hlo : 1 ≤ lo) (hhi : hi ≤ x.most) (h : lo ≤ hi) (h1 : (posS x lo).2 = false) : coreS x (lo + 1) hi = coreS x lo hi := by
  rw [posS_down hg hn ⟨hlo, by omega⟩] at h1
  have a1 : ¬ lo < x.at_ := by intro a; rw [if_pos a] at h1; cases h1
  rw [if_neg a1] at h1
  have a2 : lo < x.at_ - x.n := by
    by_cases a : lo < x.at_ - x.n
    · exact a
    · rw [if_neg a] at h1; cases h1
  unfold coreS foldS
  (repeat' split) <;> first | rfl | (exfalso; omega) | (congr 1; omega)

theorem core_hi {x : ShiftC} (hg : goodS x = true) (hn : x.n ≤ -1) {lo hi : Int} (hlo : 1 ≤ lo) (hhi : hi ≤ x.most) (h : lo ≤ hi) (h1 : (posS x lo).2 = true) (h2 : (posS x hi).2 = false) : coreS x lo (hi - 1) = coreS x lo hi := by
  rw [posS_down hg hn ⟨hlo, by omega⟩] at h1
  rw [posS_down hg hn ⟨by omega, hhi⟩] at h2
  have a1 : ¬ hi < x.at_ := by intro a; rw [if_pos a] at h2; cases h2
  rw [if_neg a1] at h2
  have a2 : hi < x.at_ - x.n := by
    by_cases a : hi < x.at_ - x.n
    · exact a
    · rw [if_neg a] at h2; cases h2
  have a3 : lo < x.at_ := by
    by_cases a : lo < x.at_
    · exact a
    · rw [if_neg a, if_pos (by omega)] at h1; cases h1
  unfold coreS foldS
  (repeat' split) <;> first | rfl | (exfalso; omega) | (congr 2; omega)

theorem loop139_1 {x : ShiftC} (hg : goodS x = true) (hn : x.n ≤ -1) (H0 : LHeap) (lo : Int) (hlo : 1 ≤ lo) (hlo' : lo ≤ x.most + 1) (h1 : lo ≤ x.most → (posS x lo).2 = true ∨ True) : ∀ (m : Nat) (hi : Int), hi ≤ x.most → lo - 1 ≤ hi → (lo ≤ hi → (posS x lo).2 = true) → hi = lo - 1 + m → ∀ (d : Nat → LV) (i : Nat) (H : LHeap),
    GoesT cfg 139 (Ret (tripL (coreS x lo hi)) H0) [] H0 [⟨i, x.cs, 103⟩] (L139_1 d hi lo) (loopAt cfg 139 1) H
  | 0, hi, hhi, _, hp, hm, d, i, H => by
    intro hin hI
    have hg' := goodS_iff.1 hg
    have hc : coreS x lo hi = (0, 0, false) := by unfold coreS; rw [if_pos (by omega)]
    refine g139_1 _ H0 d hi lo i x H ⟨fun h => ?_, fun h => ⟨fun _ hI => ⟨by rw [hc]; rfl, hI.pres⟩, fun h2 => ?_⟩⟩ hin hI
    · simp at h; omega
    · simp at h2; omega
  | m + 1, hi, hhi, _, hp, hm, d, i, H => by
    intro hin hI
    have hg' := goodS_iff.1 hg
    refine g139_1 _ H0 d hi lo i x H ⟨fun h hI => ⟨_, s221 x hi H, Ret.use ⟨_, _, rfl⟩, fun n b H7 ⟨e, _⟩ => ?_⟩, fun h => ?_⟩ hin hI
    case refine_2 => simp at h; omega
    have hle : lo ≤ hi := by simpa using h
    simp only [pairL, LV.tuple.injEq, List.cons.injEq, LV.int.injEq, LV.bool.injEq, true_and, and_true] at e
    obtain ⟨_, e2⟩ := e
    refine ⟨fun hb => ⟨fun h2 => ?_, fun h2 hI => ⟨_, s221 x lo H7, Ret.use ⟨_, _, rfl⟩, fun n9 b10 H11 ⟨e3, _⟩ hI => ⟨_, s221 x hi H11, Ret.use ⟨_, _, rfl⟩, fun n13 b14 H15 ⟨e4, _⟩ hI => ⟨?_, hI.pres⟩⟩⟩⟩, fun hb d' => ?_⟩
    · simp at h2; omega
    · simp only [pairL, LV.tuple.injEq, List.cons.injEq, LV.int.injEq, LV.bool.injEq, true_and, and_true] at e3 e4
      rw [core_end hg hn hlo hhi hle (hp hle) (by rw [← e2, hb]), e3.1, e4.1]
      rfl
    · rw [lwrap_small (by omega) (by omega), ← core_hi hg hn hlo hhi hle (hp hle) (by rw [← e2, hb])]
      exact loop139_1 hg hn H0 lo hlo hlo' h1 m (hi - 1) (by omega) (by omega) (fun _ => hp hle) (by omega) d' i H7

theorem loop139_0 {x : ShiftC} (hg : goodS x = true) (hn : x.n ≤ -1) (H0 : LHeap) (hi : Int) (hhi : hi ≤ x.most) (hhi' : 0 ≤ hi) : ∀ (m : Nat) (lo : Int), 1 ≤ lo → lo ≤ hi + 1 → lo = hi + 1 - m → ∀ (d : Nat → LV) (i : Nat) (H : LHeap),
    GoesT cfg 139 (Ret (tripL (coreS x lo hi)) H0) [] H0 [⟨i, x.cs, 103⟩] (L139_0 d hi lo) (loopAt cfg 139 0) H
  | 0, lo, hlo, _, hm, d, i, H => by
    intro hin hI
    have hg' := goodS_iff.1 hg
    refine g139_0 _ H0 d hi lo i x H ⟨fun h => ?_, fun h d' => ?_⟩ hin hI
    · simp at h; omega
    · exact loop139_1 hg hn H0 lo hlo (by omega) (fun _ => .inr trivial) 0 hi hhi (by omega) (fun h => by omega) (by omega) d' i H
  | m + 1, lo, hlo, hl, hm, d, i, H => by
    intro hin hI
    have hg' := goodS_iff.1 hg
    refine g139_0 _ H0 d hi lo i x H ⟨fun h hI => ⟨_, s221 x lo H, Ret.use ⟨_, _, rfl⟩, fun n b H7 ⟨e, _⟩ => ?_⟩, fun h => ?_⟩ hin hI
    case refine_2 => simp at h; omega
    have hle : lo ≤ hi := by simpa using h
    simp only [pairL, LV.tuple.injEq, List.cons.injEq, LV.int.injEq, LV.bool.injEq, true_and, and_true] at e
    obtain ⟨_, e2⟩ := e
    refine ⟨fun hb d' => ?_, fun hb d' => ?_⟩
    · exact loop139_1 hg hn H0 lo hlo (by omega) (fun _ => .inr trivial) (m + 1) hi hhi (by omega) (fun _ => by rw [← e2, hb]) (by omega) d' i H7
    · rw [lwrap_small (by omega) (by omega), ← core_lo hg hn hlo hhi hle (by rw [← e2, hb])]
      exact loop139_0 hg hn H0 hi hhi hhi' m (lo + 1) (by omega) (by omega) (by omega) d' i H7
end Go.Proofs.YtjihhflffkoffaaGreatDoor.Z
