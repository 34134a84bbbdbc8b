/- Contracts of functions of the program; no condition. -/
import Derived.Test.YtjihhflffkoffaaGreatDoorWq
set_option linter.unusedSimpArgs false
set_option linter.unusedVariables false
set_option linter.unusedSectionVars false
set_option linter.unnecessarySimpa false
namespace Go.Proofs.YtjihhflffkoffaaGreatDoor.Z
open Go Go.Lm
set_option maxRecDepth 100000

theorem rwR_leaf {p : PlaceC} {c : ChangeC} {N : Nd} {H H' : LHeap} {m : NdC} {v : LV} {d : Bool} (hp : PresX [] H H') (hv : v = m.lv) (hrw : RwOf p c N (.mk m [])) (hl : m.argsL = 0) (hd : d = anyT p c N) : RwR p c N H (.tuple [v, .bool d]) H' := by
  refine ⟨hp, .mk m [], by rw [hv, hd]; rfl, hrw, ?_, ?_⟩
  · unfold NdAt
    exact ⟨hl.symm, by rw [hl]; exact Nat.zero_le _, by unfold NdsAt; trivial⟩
  · unfold NdIds
    exact ⟨.inl rfl, by unfold NdsIds; trivial⟩

theorem s69 (p : PlaceC) (c : ChangeC) (N : Nd) (H : LHeap) (hN : NdAt H N) (hS : NdSm N) : CallL cfg 69 [N.root.lv, p.lv, c.lv] H (RwR p c N H) := by
  match N, hN, hS with
  | .mk x l, hN, hS =>
    have hN' := hN
    unfold NdAt at hN'
    unfold NdSm at hS
    have hmem : ∀ n ∈ l, NdSm n := by
      have : ∀ l : List Nd, NdsSm l → ∀ n ∈ l, NdSm n := by
        intro l
        induction l with
        | nil => intro _ n hn; cases hn
        | cons a l ih =>
          intro h n hn
          unfold NdsSm at h
          rcases List.mem_cons.1 hn with rfl | hn
          · exact h.1
          · exact ih h.2 n hn
      exact this l hS.2
    have loop : ¬ (x.kind = 2 ∧ ofP (refOf x) p c = true) → ¬ (x.kind = 3 ∧ ofP (refOf x) p c = true) → ∀ (i3 i5 i7 i9 i14 : Nat) (H' : LHeap) (y : NdC) (d : Nat → LV),
        GoesT cfg 69 (RwR p c (.mk x l) H) [] H [⟨i3, x.cs, 72⟩, ⟨i5, p.cs, 94⟩, ⟨i7, c.cs, 105⟩, ⟨i9, y.cs, 72⟩, ⟨i14, ({ x with argsA := none, argsL := 0, argsQ := .exact 0 } : NdC).cs, 72⟩] (L69t_0 d (0 : Int) false x.argsA x.argsL x.argsQ (x.argsL : Int)) (loopAt cfg 69 0) H' := by
      intro h2 h3 i3 i5 i7 i9 i14 H' y d hin hI
      exact loop69 p c l (fun n hn H2 h => s69 p c n H2 h (hmem n hn)) [] [] x x y false H H'.next 0 none (.exact 0) i3 i5 i7 i9 i14 d H' hN hN'.2.2 hS.1 h2 h3 (by simp [anyTs]) (by unfold RwsOf; trivial) rfl rfl ⟨.nil, fun m hm => (by cases hm), fun m hm => (by cases hm), fun ad e => (by cases e)⟩ (Nat.le_refl _) (hI.slot 0 _ rfl).1 (hI.slot 1 _ rfl).1 (hI.slot 2 _ rfl).1 (hI.slot 3 _ rfl).1 (hI.slot 4 _ rfl).1 hI.pres.next hin hI
    let z : NdC := ⟨0, [], 0, 0, [], [], [], 0, 0, false, false, [], [], 0, 0, false, false, none, 0, .exact 0⟩
    have rw2 : x.kind = 2 → ofP (refOf x) p c = true → RwOf p c (.mk x l) (.mk (cellN x c) []) ∧ anyC x c = anyT p c (.mk x l) := by
      intro k2 ho
      unfold RwOf anyT
      rw [if_pos ⟨k2, ho⟩, if_pos ⟨k2, ho⟩]
      exact ⟨⟨rfl, rfl⟩, rfl⟩
    have rw3 : ¬ x.kind = 2 → x.kind = 3 → ofP (refOf x) p c = true → RwOf p c (.mk x l) (.mk (areaN x c) []) ∧ anyA x c = anyT p c (.mk x l) := by
      intro k2 k3 ho
      unfold RwOf anyT
      rw [if_neg (fun h => k2 h.1), if_pos ⟨k3, ho⟩, if_neg (fun h => k2 h.1), if_pos ⟨k3, ho⟩]
      exact ⟨⟨rfl, rfl⟩, rfl⟩
    refine e69t _ x p c H fun i3 H4 _ _ i5 H6 _ _ i7 H8 _ _ i9 H10 _ _ => ⟨fun hk2 hI => ⟨_, s135 (refOf x) p c H10, Ret.use ⟨_, rfl⟩, fun b12 H13 ⟨e12, _⟩ => ⟨fun h12 hI => ⟨_, s136 (refOf x) c H13, Ret.use ⟨_, _, rfl⟩, fun x15 b16 H17 ⟨e16, _⟩ i18 H19 _ _ H20 _ => ⟨fun h16 hI => ⟨_, s137 H20, Ret.use ⟨_, rfl⟩, fun x22 H23 ⟨e22, _⟩ H24 _ hI => ?gone2⟩, fun h16 i25 H26 _ _ H27 _ => ⟨rfl, fun H30 _ => ⟨rfl, fun hI => ?cell⟩⟩⟩⟩, fun h12 => ⟨fun hk3 => ?no, fun hk3 i92 H93 _ _ H94 _ H95 _ d => ?l1⟩⟩⟩,
      fun hk2 => ⟨fun hk3 hI => ⟨_, s135 (refOf x) p c H10, Ret.use ⟨_, rfl⟩, fun b98 H99 ⟨e98, _⟩ => ⟨fun h98 => ⟨fun hd hI => ⟨_, s137 H99, Ret.use ⟨_, rfl⟩, fun x101 H102 ⟨e101, _⟩ H103 _ hI => ?gone3⟩, fun hd hI => ⟨_, s138 (refOf x) (toOf x) H99, Ret.use ⟨_, _, rfl⟩, fun x105 x106 H107 ⟨e107, _⟩ i108 H109 _ _ i110 H111 _ _ H112 _ H113 _ => ?area⟩⟩, fun h98 i H88 _ _ H89 _ H90 _ d => ?l2⟩⟩, fun hk3 i H88 _ _ H89 _ H90 _ d => ?l3⟩⟩
    case no => simp at hk2 hk3; omega
    case l1 =>
      have ho : ¬ ofP (refOf x) p c = true := by cases e12; simp [h12]
      exact loop (fun h => ho h.2) (fun h => ho h.2) i3 i5 i7 i9 i92 H95 z d
    case l2 =>
      have ho : ¬ ofP (refOf x) p c = true := by cases e98; simp [h98]
      exact loop (fun h => ho h.2) (fun h => ho h.2) i3 i5 i7 i9 i H90 z d
    case l3 =>
      have k2 : ¬ x.kind = 2 := by simpa using hk2
      have k3 : ¬ x.kind = 3 := by simpa using hk3
      exact loop (fun h => k2 h.1) (fun h => k3 h.1) i3 i5 i7 i9 i H90 z d
    case gone2 =>
      have k2 : x.kind = 2 := by simpa using hk2
      have ho : ofP (refOf x) p c = true := by cases e12; exact h12
      simp only [LV.tuple.injEq, List.cons.injEq, LV.bool.injEq, and_true] at e16
      have hr : (refR (refOf x) c).2 = false := by rw [← e16.2]; simpa using h16
      have hc : cellN x c = goneN := by unfold cellN; rw [hr]; rfl
      exact rwR_leaf hI.pres (by rw [hc]; exact e22) (rw2 k2 ho).1 (cellN_len x c) (by rw [← (rw2 k2 ho).2]; simp [anyC, hr])
    case cell =>
      have k2 : x.kind = 2 := by simpa using hk2
      have ho : ofP (refOf x) p c = true := by cases e12; exact h12
      simp only [LV.tuple.injEq, List.cons.injEq, LV.bool.injEq, and_true] at e16
      have hr : (refR (refOf x) c).2 = true := by rw [← e16.2]; simpa using h16
      have hx := RefC.lv_inj e16.1
      have hc : cellN x c = refNd (refR (refOf x) c).1 := by unfold cellN; rw [hr]; rfl
      exact rwR_leaf hI.pres (by rw [hc, ← hx]; rfl) (rw2 k2 ho).1 (cellN_len x c) (by rw [← (rw2 k2 ho).2]; unfold anyC; rw [hr, ← hx]; rfl)
    case gone3 =>
      have k2 : ¬ x.kind = 2 := by simpa using hk2
      have k3 : x.kind = 3 := by simpa using hk3
      have ho : ofP (refOf x) p c = true := by cases e98; exact h98
      have hr : (areaR x c).2.2 = false := by simp [areaR, hd]
      have hc : areaN x c = goneN := by unfold areaN; rw [hr]; rfl
      exact rwR_leaf hI.pres (by rw [hc]; exact e101) (rw3 k2 k3 ho).1 (areaN_len x c) (by rw [← (rw3 k2 k3 ho).2]; simp [anyA, hr])
    case area =>
      have k2 : ¬ x.kind = 2 := by simpa using hk2
      have k3 : x.kind = 3 := by simpa using hk3
      have ho : ofP (refOf x) p c = true := by cases e98; exact h98
      simp only [LV.tuple.injEq, List.cons.injEq, and_true] at e107
      have ea := RefC.lv_inj e107.1
      have eb := RefC.lv_inj e107.2
      refine ⟨fun hc hI => ⟨_, s139 (shiftOf c) x105.col x106.col H113, Ret.use ⟨_, _, _, rfl⟩, fun m k ok H53 ⟨e, _⟩ H54 _ H55 _ => ?_⟩, fun hc hI => ⟨_, s139 (shiftOf c) x105.row x106.row H113, Ret.use ⟨_, _, _, rfl⟩, fun m k ok H53 ⟨e, _⟩ H54 _ H55 _ => ?_⟩⟩
      all_goals
        simp only [tripL, LV.tuple.injEq, List.cons.injEq, LV.int.injEq, LV.bool.injEq, true_and, and_true] at e
        obtain ⟨e1, e2, e3⟩ := e
        refine ⟨fun hok hI => ⟨_, s137 H55, Ret.use ⟨_, rfl⟩, fun x57 H58 ⟨e57, _⟩ H59 _ hI => ?_⟩, fun hok => ⟨fun hq _ => ⟨rfl, fun H62 _ hI _ => ?_⟩, fun hq => ⟨rfl, fun H66 _ => ⟨rfl, fun hI => ?_⟩⟩⟩⟩
        · have hr : (areaR x c).2.2 = false := by simp [areaR, hd, hc, ← ea, ← eb, ← e3]; simpa using hok
          have hn : areaN x c = goneN := by unfold areaN; rw [hr]; rfl
          exact rwR_leaf hI.pres (by rw [hn]; exact e57) (rw3 k2 k3 ho).1 (areaN_len x c) (by rw [← (rw3 k2 k3 ho).2]; simp [anyA, hr])
        all_goals
          have hr : (areaR x c).2.2 = true := by simp [areaR, hd, hc, ← ea, ← eb, ← e3]; simpa using hok
          have hn : areaN x c = areaNd (areaR x c).1 (areaR x c).2.1 := by unfold areaN; rw [hr]; rfl
          refine rwR_leaf hI.pres ?_ (rw3 k2 k3 ho).1 (areaN_len x c) ?_
          · rw [hn]
            simp [areaR, hd, hc, ← ea, ← eb, ← e1, ← e2, areaNd, NdC.lv, NdC.cs]
          · rw [← (rw3 k2 k3 ho).2]
            simp only [anyA, hr, Bool.not_true, Bool.false_or, eqRf]
            simp only [areaR, hd, hc, if_true, Bool.false_eq_true, if_false, ← ea, ← eb, ← e1, ← e2]
            simp only [refOf, toOf]
            simp only [hq, Bool.true_or, Bool.false_or]
termination_by SizeOf.sizeOf N
decreasing_by
  have := List.sizeOf_lt_of_mem hn
  simp_wf
  omega
end Go.Proofs.YtjihhflffkoffaaGreatDoor.Z
