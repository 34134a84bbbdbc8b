/- Contracts of functions of the program; no condition. -/
import Derived.Test.YtjihhflffkoffaaGreatDoorWc
set_option linter.unusedSimpArgs false
set_option linter.unusedVariables false
set_option linter.unusedSectionVars false
set_option linter.unnecessarySimpa false
namespace Go.Proofs.YtjihhflffkoffaaGreatDoor.Z
open Go Go.Lm
set_option maxRecDepth 100000

theorem s139 (x : ShiftC) (lo hi : Int) (H : LHeap) : CallL cfg 139 [x.lv, .int .i64 lo, .int .i64 hi] H (Ret (tripL (spanS x lo hi)) H) := by
  refine e139 _ x lo hi H fun i H1 hI => ⟨_, s222 x H1, Ret.use ⟨_, rfl⟩, fun b H2 ⟨e, p⟩ => ?_⟩
  cases e
  cases hg : goodS x with
  | false =>
    refine ⟨fun _ hI => ⟨?_, hI.pres⟩, fun h => by cases h⟩
    simp [spanS, hg, tripL]
  | true =>
    have hg' := goodS_iff.1 hg
    refine ⟨fun h => (by cases h), fun _ => ⟨fun c hI => ⟨?_, hI.pres⟩, fun c1 => ⟨fun c hI => ⟨?_, hI.pres⟩, fun c2 => ⟨fun c hI => ⟨?_, hI.pres⟩, fun c3 => ⟨fun c4 => ?up, fun c4 d => ?down⟩⟩⟩⟩⟩
    case up =>
      have hsp : spanS x lo hi = if x.most < (if x.at_ ≤ lo then lo + x.n else lo) then (0, 0, false)
          else (if x.at_ ≤ lo then lo + x.n else lo, if x.at_ ≤ hi then (if x.most < hi + x.n then x.most else hi + x.n) else hi, true) := by
        unfold spanS
        rw [if_pos (by simp at c1 c2 c3; exact ⟨hg, by omega, by omega, by omega⟩), if_pos (by simpa using c4)]
      rw [hsp]
      (repeat' (first | refine And.intro ?_ ?_ | intro _))
      all_goals first | exact Inv.pres (by assumption) | skip
      all_goals simp only [decide_eq_true_eq, decide_eq_false_iff_not, Int.not_lt, ge_iff_le, gt_iff_lt] at *
      all_goals (try simp only [lwrap_small (n := lo + x.n) (by omega) (by omega)] at *)
      all_goals (try simp only [lwrap_small (n := hi + x.n) (by omega) (by omega)] at *)
      all_goals ((repeat' split) <;> first | rfl | (exfalso; omega))
    case down =>
      have hn : ¬ 0 < x.n := by simpa using c4
      have h1 : 1 ≤ lo ∧ lo ≤ hi ∧ hi ≤ x.most := by simp at c1 c2 c3; omega
      have hsp : spanS x lo hi = coreS x lo hi := by
        unfold spanS coreS
        rw [if_pos ⟨hg, by omega, by omega, by omega⟩, if_neg hn, if_neg (show ¬ hi < lo by omega)]
      rw [hsp]
      obtain ⟨m, hm⟩ : ∃ m : Nat, lo = hi + 1 - m := ⟨(hi + 1 - lo).toNat, by omega⟩
      exact loop139_0 hg (by omega) H hi h1.2.2 (by omega) m lo h1.1 (by omega) hm d i H2
    all_goals simp only [decide_eq_true_eq, decide_eq_false_iff_not] at *
    all_goals unfold spanS
    all_goals rw [if_neg (by omega)]
    all_goals rfl
end Go.Proofs.YtjihhflffkoffaaGreatDoor.Z
