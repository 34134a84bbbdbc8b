/- Contracts of functions of the program; no condition. -/
import Derived.Test.YtjihhflffkoffaaGreatDoorWa
import Derived.Test.YtjihhflffkoffaaGreatDoorW3
import Derived.Test.YtjihhflffkoffaaGreatDoorW72
set_option linter.unusedSimpArgs false
set_option linter.unusedVariables false
set_option linter.unusedSectionVars false
set_option linter.unnecessarySimpa false
namespace Go.Proofs.YtjihhflffkoffaaGreatDoor.Z
open Go Go.Lm
set_option maxRecDepth 100000

theorem s66 (x : ShiftC) (H : LHeap) : CallL cfg 66 [x.lv] H (Ret (.bool (goodS x)) H) := by
  refine e66 _ x H ?_
  (repeat' (first | refine And.intro ?_ ?_ | intro _))
  all_goals first | exact Inv.pres (by assumption) | skip
  all_goals simp only [decide_eq_true_eq, decide_eq_false_iff_not, Int.not_lt, ge_iff_le, gt_iff_lt, beq_iff_eq, beq_eq_false_iff_ne, ne_eq] at *
  all_goals unfold goodS
  all_goals (congr 1)
  all_goals (try simp only [lwrap_small (n := x.most - x.at_) (by omega) (by omega)] at *)
  all_goals (try simp only [lwrap_small (n := x.most - x.at_ + 1) (by omega) (by omega)] at *)
  all_goals (try simp only [lwrap_small (n := x.at_ - 1) (by omega) (by omega)] at *)
  all_goals (try simp only [lwrap_small (n := x.at_ - 1 - x.most) (by omega) (by omega)] at *)
  all_goals (first | exact (decide_eq_true (by omega)).symm | exact (decide_eq_false (by omega)).symm | exact decide_eq_decide.2 (by omega))

theorem s216 (n : Int) (H : LHeap) : CallL cfg 216 [.int .i64 n] H (Ret (pairL (0, false)) H) := e216 _ n H fun hI => .mk hI.pres
def tripL (p : Int × Int × Bool) : LV := .tuple [.int .i64 p.1, .int .i64 p.2.1, .bool p.2.2]
theorem s217 (n m : Int) (H : LHeap) : CallL cfg 217 [.int .i64 n, .int .i64 m] H (Ret (tripL (0, 0, false)) H) := e217 _ n m H fun hI => .mk hI.pres

theorem s224 (x : ShiftC) (p q : LAddr) (n : Int) (H : LHeap) (hg : goodS x = true) (h0 : loadT cfg.P H 3 ⟨p.id, p.ver, p.off + 0⟩ = some (.int .i64 x.at_)) (h1 : loadT cfg.P H 3 ⟨p.id, p.ver, p.off + 1⟩ = some (.int .i64 x.n)) (h2 : loadT cfg.P H 3 ⟨p.id, p.ver, p.off + 2⟩ = some (.int .i64 x.most))
    (hq : loadT cfg.P H 3 q = some (.int .i64 (if x.n < 0 then x.at_ - x.n else x.at_))) : CallL cfg 224 [.int .i64 n, .ptr (some p), .ptr (some q)] H (Ret (pairL (posS x n)) H) := by
  have hg' := goodS_iff.1 hg
  refine e224 _ p q n H ⟨?_, fun c1 _ => ⟨x.most, h2, ?_, fun c2 _ => ⟨x.at_, h0, ?_, fun c3 _ => ⟨_, hq, ?_, fun c4 _ => ⟨x.most, h2, fun _ => ⟨x.n, h1, ?_, fun c5 _ => ⟨x.n, h1, ?_⟩⟩⟩⟩⟩⟩⟩
  all_goals intros
  all_goals refine ⟨?_, PresX.refl _ _⟩
  all_goals simp only [decide_eq_true_eq, decide_eq_false_iff_not, Int.not_lt, ge_iff_le, gt_iff_lt, posS, hg, if_true] at *
  all_goals (try simp only [lwrap_small (n := x.most - x.n) (by omega) (by omega)] at *)
  all_goals (try simp only [lwrap_small (n := n + x.n) (by omega) (by omega)] at *)
  all_goals ((repeat' split) <;> first | rfl | (exfalso; (repeat' split at *) <;> omega))

theorem s141 (x : ShiftC) (H : LHeap) (hg : goodS x = true) : CallL cfg 141 [x.lv] H (fun v H' => PresX [] H H' ∧ ∃ p q : LAddr, v = .func (.func 224) [] [.ptr (some p), .ptr (some q)] ∧ loadT cfg.P H' 3 ⟨p.id, p.ver, p.off + 0⟩ = some (.int .i64 x.at_) ∧ loadT cfg.P H' 3 ⟨p.id, p.ver, p.off + 1⟩ = some (.int .i64 x.n) ∧ loadT cfg.P H' 3 ⟨p.id, p.ver, p.off + 2⟩ = some (.int .i64 x.most)
    ∧ loadT cfg.P H' 3 q = some (.int .i64 (if x.n < 0 then x.at_ - x.n else x.at_))) := by
  have hg' := goodS_iff.1 hg
  have e1 : lwrap .i64 (x.at_ - x.n) = x.at_ - x.n := lwrap_small (by omega) (by omega)
  refine e141 _ x H fun i H2 j H4 H5 => ⟨fun h H6 hI => ?_, fun h hI => ?_⟩
  · rw [e1] at hI
    have hn : x.n < 0 := by simpa using h
    refine ⟨hI.pres, _, _, rfl, slotLoad_spec (s := ⟨i, x.cs, 96⟩) (hI.slot 0 _ rfl).2.1 (by kernel_rfl), slotLoad_spec (s := ⟨i, x.cs, 96⟩) (hI.slot 0 _ rfl).2.1 (by kernel_rfl), slotLoad_spec (s := ⟨i, x.cs, 96⟩) (hI.slot 0 _ rfl).2.1 (by kernel_rfl), ?_⟩
    rw [if_pos hn]
    exact slotLoad_spec (s := ⟨j, [.int .i64 (x.at_ - x.n)], 3⟩) (hI.slot 1 _ rfl).2.1 (by kernel_rfl)
  · have hn : ¬ x.n < 0 := by simpa using h
    refine ⟨hI.pres, _, _, rfl, slotLoad_spec (s := ⟨i, x.cs, 96⟩) (hI.slot 0 _ rfl).2.1 (by kernel_rfl), slotLoad_spec (s := ⟨i, x.cs, 96⟩) (hI.slot 0 _ rfl).2.1 (by kernel_rfl), slotLoad_spec (s := ⟨i, x.cs, 96⟩) (hI.slot 0 _ rfl).2.1 (by kernel_rfl), ?_⟩
    rw [if_neg hn]
    exact slotLoad_spec (s := ⟨j, [.int .i64 x.at_], 3⟩) (hI.slot 1 _ rfl).2.1 (by kernel_rfl)

theorem s72 (x : ShiftC) (n : Int) (H : LHeap) : CallL cfg 72 [x.lv, .int .i64 n] H (Ret (pairL (posS x n)) H) := by
  refine e72 _ x n H fun i H1 hI => ⟨_, s66 x H1, Ret.use ⟨_, rfl⟩, fun b H2 ⟨e, p⟩ => ⟨fun h hI => ⟨?_, hI.pres⟩, fun h hI => ⟨_, s141 x H2 ?_, ?_, fun y H3 ⟨p3, a, b, e3, l0, l1, l2, l3⟩ hI => ⟨_, s224 x y.1 y.2 n H3 ?_ ?_ ?_ ?_ ?_, Ret.use ⟨_, _, rfl⟩, fun m c H4 ⟨e4, p4⟩ hI => ⟨e4, hI.pres⟩⟩⟩⟩⟩
  · cases e
    have : goodS x = false := by simpa using h
    simp [posS, this, pairL]
  · cases e; simpa using h
  · rintro v H' ⟨p3, a, b, e3, _⟩
    exact ⟨p3, (a, b), e3⟩
  · cases e; simpa using h
  · cases e3; exact l0
  · cases e3; exact l1
  · cases e3; exact l2
  · cases e3; exact l3

/-- Where lines go. -/
def foldS (x : ShiftC) (n e : Int) : Int := if n < x.at_ then n else if x.at_ - x.n - 1 < n then n + x.n else e
def spanS (x : ShiftC) (lo hi : Int) : Int × Int × Bool :=
  if goodS x = true ∧ 1 ≤ lo ∧ lo ≤ hi ∧ hi ≤ x.most then
    if 0 < x.n then
      if x.most < (if x.at_ ≤ lo then lo + x.n else lo) then (0, 0, false)
      else (if x.at_ ≤ lo then lo + x.n else lo, if x.at_ ≤ hi then (if x.most < hi + x.n then x.most else hi + x.n) else hi, true)
    else if x.at_ ≤ lo ∧ hi ≤ x.at_ - x.n - 1 then (0, 0, false)
    else (foldS x lo x.at_, foldS x hi (x.at_ - 1), true)
  else (0, 0, false)

theorem s271 (x : ShiftC) (p q : LAddr) (n e : Int) (H : LHeap) (hg : goodS x = true) (hb : 1 ≤ n ∧ n ≤ x.most) (h0 : loadT cfg.P H 3 ⟨p.id, p.ver, p.off + 0⟩ = some (.int .i64 x.at_)) (h1 : loadT cfg.P H 3 ⟨p.id, p.ver, p.off + 1⟩ = some (.int .i64 x.n))
    (hq : loadT cfg.P H 3 q = some (.int .i64 (x.at_ - x.n - 1))) : CallL cfg 271 [.int .i64 n, .int .i64 e, .ptr (some p), .ptr (some q)] H (Ret (.int .i64 (foldS x n e)) H) := by
  have hg' := goodS_iff.1 hg
  refine e271 _ p q n e H fun _ => ⟨x.at_, h0, fun c1 _ => ?_, fun c1 _ => ⟨_, hq, fun c2 _ => ⟨x.n, h1, fun _ => ?_⟩, fun c2 _ => ?_⟩⟩
  all_goals refine ⟨?_, PresX.refl _ _⟩
  all_goals simp only [decide_eq_true_eq, decide_eq_false_iff_not, Int.not_lt, ge_iff_le, gt_iff_lt, foldS] at *
  all_goals (try simp only [lwrap_small (n := n + x.n) (by omega) (by omega)] at *)
  all_goals ((repeat' split) <;> first | rfl | (exfalso; omega))

theorem s215 (x : ShiftC) (lo hi : Int) (H : LHeap) : CallL cfg 215 [x.lv, .int .i64 lo, .int .i64 hi] H (Ret (tripL (spanS x lo hi)) H) := by
  refine e215 _ x lo hi H fun i H1 hI => ⟨_, s66 x H1, Ret.use ⟨_, rfl⟩, fun b H2 ⟨e, p⟩ => ?_⟩
  cases e
  cases hg : goodS x with
  | false =>
    refine ⟨fun _ hI => ⟨?_, hI.pres⟩, fun h => by cases h⟩
    simp [spanS, hg, tripL]
  | true =>
    have hg' := goodS_iff.1 hg
    refine ⟨fun h => (by cases h), fun _ => ⟨fun c hI => ⟨?_, hI.pres⟩, fun c1 => ⟨fun c hI => ⟨?_, hI.pres⟩, fun c2 => ⟨fun c hI => ⟨?_, hI.pres⟩, fun c3 => ⟨fun c4 => ?up, fun c4 j H3 H4 => ?down⟩⟩⟩⟩⟩
    case up =>
      have hsp : spanS x lo hi = if x.most < (if x.at_ ≤ lo then lo + x.n else lo) then (0, 0, false)
          else (if x.at_ ≤ lo then lo + x.n else lo, if x.at_ ≤ hi then (if x.most < hi + x.n then x.most else hi + x.n) else hi, true) := by
        unfold spanS
        rw [if_pos (by simp at c1 c2 c3; exact ⟨hg, by omega, by omega, by omega⟩), if_pos (by simpa using c4)]
      rw [hsp]
      (repeat' (first | refine And.intro ?_ ?_ | intro _))
      all_goals first | exact Inv.pres (by assumption) | skip
      all_goals simp only [decide_eq_true_eq, decide_eq_false_iff_not, Int.not_lt, ge_iff_le, gt_iff_lt] at *
      all_goals (try simp only [lwrap_small (n := lo + x.n) (by omega) (by omega)] at *)
      all_goals (try simp only [lwrap_small (n := hi + x.n) (by omega) (by omega)] at *)
      all_goals ((repeat' split) <;> first | rfl | (exfalso; omega))
    case down =>
      have hlo : 1 ≤ lo ∧ lo ≤ x.most := by simp at c1 c2 c3; omega
      have hhi : 1 ≤ hi ∧ hi ≤ x.most := by simp at c1 c2 c3; omega
      have hn : ¬ 0 < x.n := by simpa using c4
      have e1 : lwrap .i64 (x.at_ - x.n) = x.at_ - x.n := lwrap_small (by omega) (by omega)
      have e2 : lwrap .i64 (x.at_ - x.n - 1) = x.at_ - x.n - 1 := lwrap_small (by omega) (by omega)
      have e3 : lwrap .i64 (x.at_ - 1) = x.at_ - 1 := lwrap_small (by omega) (by omega)
      rw [e1, e2, e3]
      have hsp : spanS x lo hi = if x.at_ ≤ lo ∧ hi ≤ x.at_ - x.n - 1 then (0, 0, false) else (foldS x lo x.at_, foldS x hi (x.at_ - 1), true) := by
        unfold spanS
        rw [if_pos (by simp at c1 c2 c3; exact ⟨hg, by omega, by omega, by omega⟩), if_neg hn]
      have fold : ∀ (H : LHeap), Inv [] H1 [⟨i, x.cs, 96⟩, ⟨j, [.int .i64 (x.at_ - x.n - 1)], 3⟩] H → True := fun _ _ => trivial
      have two : ∀ (hne : ¬ (x.at_ ≤ lo ∧ hi ≤ x.at_ - x.n - 1)), (([.int .i64 x.at_, .int .i64 x.at_] : List LV) = [.int .i64 x.at_, .int .i64 x.at_]) ∧ (Inv [] H [⟨i, x.cs, 96⟩, ⟨j, [.int .i64 (x.at_ - x.n - 1)], 3⟩] H4 → ∃ S : LV → LHeap → Prop, CallL cfg 271 [.int .i64 lo, .int .i64 x.at_, .ptr (some ⟨i, 3, 0⟩), .ptr (some ⟨j, 1, 0⟩)] H4 S ∧ (∀ v H', S v H' → PresX [] H4 H' ∧ hasSh (.int .i64) v) ∧
          (∀ (n : Int), ∀ H5 : LHeap, S (.int .i64 n) H5 → (([.int .i64 x.at_] : List LV) = [.int .i64 x.at_]) ∧ (Inv [] H [⟨i, x.cs, 96⟩, ⟨j, [.int .i64 (x.at_ - x.n - 1)], 3⟩] H5 → ∃ S' : LV → LHeap → Prop, CallL cfg 271 [.int .i64 hi, .int .i64 (x.at_ - 1), .ptr (some ⟨i, 3, 0⟩), .ptr (some ⟨j, 1, 0⟩)] H5 S' ∧ (∀ v H', S' v H' → PresX [] H5 H' ∧ hasSh (.int .i64) v) ∧
            (∀ (m : Int), ∀ H6 : LHeap, S' (.int .i64 m) H6 → (Inv [] H [⟨i, x.cs, 96⟩, ⟨j, [.int .i64 (x.at_ - x.n - 1)], 3⟩] H6 → Ret (tripL (spanS x lo hi)) H (.tuple [.int .i64 n, .int .i64 m, .bool true]) H6))))) := by
        intro hne
        refine ⟨rfl, fun hI => ⟨_, s271 x ⟨i, 3, 0⟩ ⟨j, 1, 0⟩ lo x.at_ H4 hg hlo ?_ ?_ ?_, Ret.use ⟨_, rfl⟩, fun n H5 ⟨e4, _⟩ => ⟨rfl, fun hI => ⟨_, s271 x ⟨i, 3, 0⟩ ⟨j, 1, 0⟩ hi (x.at_ - 1) H5 hg hhi ?_ ?_ ?_, Ret.use ⟨_, rfl⟩, fun m H6 ⟨e5, _⟩ hI => ⟨?_, hI.pres⟩⟩⟩⟩⟩
        · exact slotLoad_spec (s := ⟨i, x.cs, 96⟩) (hI.slot 0 _ rfl).2.1 (by kernel_rfl)
        · exact slotLoad_spec (s := ⟨i, x.cs, 96⟩) (hI.slot 0 _ rfl).2.1 (by kernel_rfl)
        · exact slotLoad_spec (s := ⟨j, [.int .i64 (x.at_ - x.n - 1)], 3⟩) (hI.slot 1 _ rfl).2.1 (by kernel_rfl)
        · exact slotLoad_spec (s := ⟨i, x.cs, 96⟩) (hI.slot 0 _ rfl).2.1 (by kernel_rfl)
        · exact slotLoad_spec (s := ⟨i, x.cs, 96⟩) (hI.slot 0 _ rfl).2.1 (by kernel_rfl)
        · exact slotLoad_spec (s := ⟨j, [.int .i64 (x.at_ - x.n - 1)], 3⟩) (hI.slot 1 _ rfl).2.1 (by kernel_rfl)
        · cases e4; cases e5
          rw [hsp, if_neg hne]
          rfl
      refine ⟨fun c5 => ⟨fun c6 hI => ⟨?_, hI.pres⟩, fun c6 => two (by simp at c6; omega)⟩, fun c5 => two (by simp at c5; omega)⟩
      simp at c5 c6
      rw [hsp, if_pos ⟨c5, by omega⟩]
      rfl
    all_goals simp only [decide_eq_true_eq, decide_eq_false_iff_not] at *
    all_goals unfold spanS
    all_goals rw [if_neg (by omega)]
    all_goals rfl

/-- The change's shift. -/
def shiftOf (c : ChangeC) : ShiftC := ⟨c.shiftAt, c.shiftN, c.shiftMost⟩

theorem s213 (p : LAddr) (x : ShiftC) (n : Int) (H : LHeap) (h : loadT cfg.P H 96 ⟨p.id, p.ver, p.off + 4⟩ = some x.lv) : CallL cfg 213 [.int .i64 n, .ptr (some p)] H (Ret (pairL (posS x n)) H) :=
  e213 _ p n H fun _ => ⟨x, h, fun _ => ⟨_, s72 x n H, Ret.use ⟨_, _, rfl⟩, fun m b H5 ⟨e, _⟩ hI => ⟨e, hI.pres⟩⟩⟩
theorem s214 (p : LAddr) (x : ShiftC) (n m : Int) (H : LHeap) (h : loadT cfg.P H 96 ⟨p.id, p.ver, p.off + 4⟩ = some x.lv) : CallL cfg 214 [.int .i64 n, .int .i64 m, .ptr (some p)] H (Ret (tripL (spanS x n m)) H) :=
  e214 _ p n m H fun _ => ⟨x, h, fun _ => ⟨_, s215 x n m H, Ret.use ⟨_, _, _, rfl⟩, fun k l b H5 ⟨e, _⟩ hI => ⟨e, hI.pres⟩⟩⟩
end Go.Proofs.YtjihhflffkoffaaGreatDoor.Z
