/- Contracts of functions of the program; no condition. -/
import Derived.Test.YtjihhflffkoffaaGreatDoorGa
import Derived.Test.YtjihhflffkoffaaGreatDoorWz
set_option linter.unusedSimpArgs false
set_option linter.unusedVariables false
set_option linter.unusedSectionVars false
set_option linter.unnecessarySimpa false
namespace Go.Proofs.YtjihhflffkoffaaGreatDoor.Z
open Go Go.Lm
set_option maxRecDepth 100000

theorem leaf_at (H : LHeap) (r : RefC) : NdAt H (.mk (refNd r) []) := by
  unfold NdAt NdsAt
  exact ⟨rfl, Nat.zero_le _, trivial⟩

theorem s193k (r : RefC) (H : LHeap) : CallL cfg 193 [(refNd r).lv] H (GoodB True H) := by
  refine e193k _ r H fun i0 H1 _ _ hI => ⟨_, s257 (refNd r) H1, Ret.use ⟨_, rfl⟩, fun x3 H4 ⟨e3, _⟩ i5 H6 _ _ H7 _ H8 _ hI => ?_⟩
  obtain rfl := NdC.lv_inj e3
  refine ⟨_, s259 r H8, GoodB.sh, fun b10 H11 _ => ⟨fun _ hI => .no hI.pres, fun _ H12 _ hI => ⟨_, s53 (.mk (refNd r) []) (.mk (refNd r) []) H12 (leaf_at _ _) (leaf_at _ _), Ret.use ⟨_, rfl⟩, fun b14 H15 _ hI => .mk hI.pres fun _ => trivial⟩⟩⟩

theorem s17 (r : RefC) (p : PlaceC) (c : ChangeC) (H : LHeap) : CallL cfg 17 [r.lv, p.lv, c.lv] H (Ret (.bool true) H) := by
  have hsm : NdSm (.mk (refNd r) []) := by unfold NdSm NdsSm; exact ⟨Nat.zero_le _, trivial⟩
  have hE : ∀ H', NdE H' (fun _ => True) (.mk (refNd r) []) := fun H' => by unfold NdE NdsE; exact ⟨(fun a e => by cases e), trivial⟩
  refine e17t _ r p c H fun i3 H4 _ _ i5 H6 _ _ i7 H8 _ _ i9 H10 _ _ H11 _ hI => ⟨_, s47 (Q := fun _ => True) (K := fun n => ∃ r, n = .mk (refNd r) []) (fun x l ⟨r', e⟩ n hn => by cases e; cases hn) (fun n H' ⟨r', e⟩ _ => by subst e; exact s193k r' H') (.mk (refNd r) []) H11 ⟨r, rfl⟩ hsm (leaf_at _ _), GoodB.sh, fun b13 H14 _ => ⟨fun _ hI => .mk hI.pres, fun _ hI => ⟨_, s70 p c (.mk (refNd r) []) H14 (leaf_at _ _) (hE _) (by simp [preT, preTs]), Ret.use ⟨_, rfl⟩, fun b16 H17 ⟨e16, _⟩ => ⟨fun _ hI => .mk hI.pres, fun hb16 => ⟨fun _ hI => .mk hI.pres, fun hd hI => ?_⟩⟩⟩⟩⟩
  have ho : ofP r p c = true := by
    cases e16
    simpa [preT, preTs, namesX, refNd, refOf] using hb16
  refine ⟨_, s68 p c (.mk (refNd r) []) H17 (leaf_at _ _) hsm, fun v H' ⟨h1, M, e, _⟩ => ⟨h1, by rw [e]; exact ⟨_, _, rfl⟩⟩, fun x19 b20 H21 ⟨_, M, eM, rM, _, _⟩ i22 H23 _ _ H24 _ => ?_⟩
  simp only [LV.tuple.injEq, List.cons.injEq, LV.bool.injEq, and_true] at eM
  obtain rfl := NdC.lv_inj eM.1
  have hroot : M.root = cellN (refNd r) c := by
    cases M with
    | mk y m =>
      unfold RwOf at rM
      rw [if_pos ⟨rfl, ho⟩] at rM
      exact rM.1
  rw [hroot]
  have hr : refOf (refNd r) = r := rfl
  refine ⟨fun hc hI => ⟨_, s72 (shiftOf c) r.col H24, Ret.use ⟨_, _, rfl⟩, fun n26 b27 H28 ⟨e, _⟩ => ?_⟩, fun hc hI => ⟨_, s72 (shiftOf c) r.row H24, Ret.use ⟨_, _, rfl⟩, fun n26 b27 H28 ⟨e, _⟩ => ?_⟩⟩
  all_goals
    simp only [pairL, LV.tuple.injEq, List.cons.injEq, LV.int.injEq, LV.bool.injEq, true_and, and_true] at e
    obtain ⟨e1, e2⟩ := e
    refine ⟨fun hb => ?_, fun hb i30 H31 _ _ H32 _ => ?_⟩
    · have hg : cellN (refNd r) c = goneN := by
        unfold cellN
        rw [if_neg]
        unfold refR
        simp [hd, hc, hr, ← e2]
        simpa using hb
      rw [hg]
      exact ⟨fun _ => ⟨fun _ hI => .mk hI.pres, fun h => by simp [goneN] at h⟩, fun h => by simp [goneN] at h⟩
    · have hb' : b27 = true := by simpa using hb
      have hg : cellN (refNd r) c = refNd (refR r c).1 := by
        unfold cellN
        rw [if_pos]
        · rfl
        · unfold refR
          simp [hd, hc, hr, ← e2, hb']
      rw [hg]
      refine ⟨fun hc' H33 _ => ⟨fun _ => ⟨fun _ hI => .mk hI.pres, fun h => ?_⟩, fun h => by simp [refNd] at h⟩, fun hc' H33 _ => ⟨fun _ => ⟨fun _ hI => .mk hI.pres, fun h => ?_⟩, fun h => by simp [refNd] at h⟩⟩
      all_goals
        simp_all [refNd, refR]
end Go.Proofs.YtjihhflffkoffaaGreatDoor.Z
