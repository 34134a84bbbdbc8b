/- Contracts of functions of the program; no condition. -/
import Derived.Test.YtjihhflffkoffaaGreatDoorW1
import Derived.Test.YtjihhflffkoffaaGreatDoorCt
set_option linter.unusedSimpArgs false
set_option linter.unusedVariables false
set_option linter.unusedSectionVars false
set_option linter.unnecessarySimpa false
namespace Go.Proofs.YtjihhflffkoffaaGreatDoor.Z
open Go Go.Lm
set_option maxRecDepth 100000

def atP (r : RefC) (p : PlaceC) : PlaceC := ⟨if r.book = [] then p.book else r.book, if r.sheet = [] then p.sheet else r.sheet, r.row, r.col⟩


theorem s63 (x : ChangeC) (H : LHeap) : CallL cfg 63 [x.lv] H (Ret x.lv H) :=
  e63 _ x H fun _ _ _ _ _ hI => .mk hI.pres

def goneN : NdC := ⟨1, [], 4, 3, [], [], [], 0, 0, false, false, [], [], 0, 0, false, false, none, 0, .exact 0⟩

theorem s137 (H : LHeap) : CallL cfg 137 [] H (Ret goneN.lv H) :=
  e137 _ H fun _ _ _ hI => .mk hI.pres

/-- The least corner first. -/
def cornR (a b : RefC) : RefC := ⟨a.book, a.sheet, if b.row < a.row then b.row else a.row, if b.col < a.col then b.col else a.col, if b.row < a.row then b.fixRow else a.fixRow, if b.col < a.col then b.fixCol else a.fixCol⟩
def cornT (a b : RefC) : RefC := ⟨b.book, b.sheet, if b.row < a.row then a.row else b.row, if b.col < a.col then a.col else b.col, if b.row < a.row then a.fixRow else b.fixRow, if b.col < a.col then a.fixCol else b.fixCol⟩

theorem s138 (a b : RefC) (H : LHeap) : CallL cfg 138 [a.lv, b.lv] H (Ret (.tuple [(cornR a b).lv, (cornT a b).lv]) H) := by
  refine e138 _ a b H ?_
  (repeat' (first | refine And.intro ?_ ?_ | intro _))
  all_goals (first | exact Inv.pres (by assumption) | (simp_all [cornR, cornT, RefC.lv, RefC.cs]; done) | (simp_all [cornR, cornT, RefC.lv, RefC.cs]; (repeat' (first | apply And.intro | intro _)); all_goals (exfalso; omega)))
theorem s273 (a b : RefC) (H : LHeap) : CallL cfg 273 [a.lv, b.lv] H (Ret (.tuple [(cornR a b).lv, (cornT a b).lv]) H) := by
  refine e273 _ a b H ?_
  (repeat' (first | refine And.intro ?_ ?_ | intro _))
  all_goals (first | exact Inv.pres (by assumption) | (simp_all [cornR, cornT, RefC.lv, RefC.cs]; done) | (simp_all [cornR, cornT, RefC.lv, RefC.cs]; (repeat' (first | apply And.intro | intro _)); all_goals (exfalso; omega)))

theorem s220 (r : RefC) (p : PlaceC) (H : LHeap) : CallL cfg 220 [r.lv, p.lv] H (Ret (atP r p).lv H) := by
  refine e220 _ r p H ?_
  (repeat' (first | refine And.intro ?_ ?_ | intro _))
  all_goals (first | exact Inv.pres (by assumption) | (simp_all [atP, PlaceC.lv, PlaceC.cs]; done) | (simp_all [atP, PlaceC.lv, PlaceC.cs]; (repeat' (first | apply And.intro | intro _)); all_goals (exfalso; omega)))
theorem s223 (r : RefC) (p : PlaceC) (H : LHeap) : CallL cfg 223 [r.lv, p.lv] H (Ret (atP r p).lv H) := by
  refine e223 _ r p H ?_
  (repeat' (first | refine And.intro ?_ ?_ | intro _))
  all_goals (first | exact Inv.pres (by assumption) | (simp_all [atP, PlaceC.lv, PlaceC.cs]; done) | (simp_all [atP, PlaceC.lv, PlaceC.cs]; (repeat' (first | apply And.intro | intro _)); all_goals (exfalso; omega)))

def goodS (x : ShiftC) : Bool := decide (1 ≤ x.most ∧ x.most ≤ 1000 ∧ 1 ≤ x.at_ ∧ x.at_ ≤ x.most ∧ ((1 ≤ x.n ∧ x.n ≤ x.most - x.at_ + 1) ∨ (x.n ≤ -1 ∧ x.at_ - x.most - 1 ≤ x.n)))

theorem goodS_iff {x : ShiftC} : goodS x = true ↔ (1 ≤ x.most ∧ x.most ≤ 1000 ∧ 1 ≤ x.at_ ∧ x.at_ ≤ x.most ∧ ((1 ≤ x.n ∧ x.n ≤ x.most - x.at_ + 1) ∨ (x.n ≤ -1 ∧ x.at_ - x.most - 1 ≤ x.n))) := by
  unfold goodS; simp


theorem s222 (x : ShiftC) (H : LHeap) : CallL cfg 222 [x.lv] H (Ret (.bool (goodS x)) H) := by
  refine e222 _ x H ?_
  (repeat' (first | refine And.intro ?_ ?_ | intro _))
  all_goals first | exact Inv.pres (by assumption) | skip
  all_goals simp only [decide_eq_true_eq, decide_eq_false_iff_not, Int.not_lt, ge_iff_le, gt_iff_lt] at *
  all_goals unfold goodS
  all_goals (congr 1)
  all_goals (try simp only [lwrap_small (n := x.most - x.at_) (by omega) (by omega)] at *)
  all_goals (try simp only [lwrap_small (n := x.most - x.at_ + 1) (by omega) (by omega)] at *)
  all_goals (try simp only [lwrap_small (n := x.at_ - x.most) (by omega) (by omega)] at *)
  all_goals (try simp only [lwrap_small (n := x.at_ - x.most - 1) (by omega) (by omega)] at *)
  all_goals (first | exact (decide_eq_true (by omega)).symm | exact (decide_eq_false (by omega)).symm | exact decide_eq_decide.2 (by omega))

def posS (x : ShiftC) (n : Int) : Int × Bool :=
  if goodS x = true then
    if 1 ≤ n ∧ n ≤ x.most then
      if n < x.at_ then (n, true) else if (x.n < 0 ∧ n < x.at_ - x.n) ∨ x.most < n + x.n then (0, false) else (n + x.n, true)
    else (0, false)
  else (0, false)
def pairL (p : Int × Bool) : LV := .tuple [.int .i64 p.1, .bool p.2]

theorem s221 (x : ShiftC) (n : Int) (H : LHeap) : CallL cfg 221 [x.lv, .int .i64 n] H (Ret (pairL (posS x n)) H) := by
  refine e221 _ x n H fun i H1 hI => ⟨_, s222 x H1, Ret.use ⟨_, rfl⟩, fun b H2 ⟨e, p⟩ => ?_⟩
  cases e
  cases hg : goodS x with
  | false =>
    refine ⟨fun _ hI => ⟨?_, hI.pres⟩, fun h => by cases h⟩
    simp [posS, hg, pairL]
  | true =>
    have hg' := goodS_iff.1 hg
    (repeat' (first | refine And.intro ?_ ?_ | intro _))
    all_goals first | exact Inv.pres (by assumption) | skip
    all_goals (try (exfalso; simp_all; done))
    all_goals simp only [decide_eq_true_eq, decide_eq_false_iff_not, Int.not_lt, ge_iff_le, gt_iff_lt, posS, hg, if_true] at *
    all_goals (try simp only [lwrap_small (n := x.at_ - x.n) (by omega) (by omega)] at *)
    all_goals (try simp only [lwrap_small (n := n + x.n) (by omega) (by omega)] at *)
    all_goals ((repeat' split) <;> first | rfl | (exfalso; omega))
end Go.Proofs.YtjihhflffkoffaaGreatDoor.Z
