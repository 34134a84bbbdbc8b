/- Walks of Stacks.shared and undo.Push, and what it is for a value to read as a pair of stacks; for stacks below 100000 groups. -/
import Derived.Test.YtjihhflffkoffaaUa1
namespace Go.Proofs.Ytjihhflffkoffaa
open Go.RowKit Go.Proofs.YtjihhflffkoffaaW.PrintWords Go.Proofs.Ytjihhflffkoffaa.PUndoCloses
set_option maxHeartbeats 400000 in
theorem shared_any (A0 : Option Addr) (n0 c0 : Nat) (A1 : Option Addr) (n1 c1 : Nat) (w : World) (h0 : n0 ≤ c0) (h1 : n1 ≤ c1) (_m0 : n0 ≤ 1000000) (_m1 : n1 ≤ 1000000) :
    Calls Try.prog 14 #[.agg #[.slice A0 n0 c0, .slice A1 n1 c1]] w fun e w' => e = .returned (.agg #[.slice A0 n0 n0, .slice A1 n1 n1]) ∧ Below w.heap.size w w' := by
  go_enter Try.func14, Try.ntmps14
  go_wp2
  go_quiet (fail)
  go_wp2
  go_region
  go_wp2
  refine bodyPost_ret (v := .agg #[.slice A0 n0 n0, .slice A1 n1 n1]) (by simp [results, Try.results14, go_sem]) rfl ⟨rfl, ?_⟩
  repeat (first | exact Below.refl _ _ | apply below_alloc | apply pw_below_drewN | apply below_drew1 | refine below_set ?_ (by simp))

/-- A Stacks value reads as the stacks us, rs; what it leads to lies in P. -/
structure StR (w : World) (P : Nat → Prop) (v : Value) (us rs : List (List S36)) : Prop where
  mk :: (out : ∃ A0 c0 A1 c1, v = .agg #[.slice A0 us.length c0, .slice A1 rs.length c1] ∧ us.length ≤ c0 ∧ rs.length ≤ c1 ∧ Kd.F kG w P A0 us.length us ∧ Kd.F kG w P A1 rs.length rs)
theorem StR.below {w w1 : World} {P : Nat → Prop} {v : Value} {us rs : List (List S36)} (h : StR w P v us rs) (hb : Below w.heap.size w w1) : StR w1 P v us rs := by
  obtain ⟨A0, c0, A1, c1, rfl, h0, h1, h2, h3⟩ := h.out
  exact ⟨⟨A0, c0, A1, c1, rfl, h0, h1, Kd.F_below h2 hb, Kd.F_below h3 hb⟩⟩
theorem StR.mono {w : World} {P Q : Nat → Prop} {v : Value} {us rs : List (List S36)} (h : StR w P v us rs) (hq : ∀ k, P k → Q k) : StR w Q v us rs := by
  obtain ⟨A0, c0, A1, c1, rfl, h0, h1, h2, h3⟩ := h.out
  exact ⟨⟨A0, c0, A1, c1, rfl, h0, h1, Kd.F_mono h2 hq, Kd.F_mono h3 hq⟩⟩
theorem StR.far {w : World} {P : Nat → Prop} {v : Value} {us rs : List (List S36)} (h : StR w P v us rs) {p : Addr} (hok : ∀ k, P k → k ≠ p.block) (u : Value) : StR (w.setCell p u) P v us rs := by
  obtain ⟨A0, c0, A1, c1, rfl, h0, h1, h2, h3⟩ := h.out
  exact ⟨⟨A0, c0, A1, c1, rfl, h0, h1, Kd.F_far h2 hok u, Kd.F_far h3 hok u⟩⟩

def pushU (us : List (List S36)) (g : List S36) : List (List S36) := if g.length = 0 then us else topL us g
def pushR (rs : List (List S36)) (g : List S36) : List (List S36) := if g.length = 0 then rs else []
set_option maxHeartbeats 400000 in
theorem push_any (A0 : Option Addr) (c0 : Nat) (us : List (List S36)) (A1 : Option Addr) (c1 : Nat) (rs : List (List S36)) (A2 : Option Addr) (c2 : Nat) (g : List S36) (P : Nat → Prop) (w : World) (h0 : us.length ≤ c0) (h1 : rs.length ≤ c1) (h2 : g.length ≤ c2) (m0 : us.length ≤ 100000) (m1 : rs.length ≤ 100000)
    (hP : ∀ k, P k → k < w.heap.size) (hu : Kd.F kG w P A0 us.length us) (hr : Kd.F kG w P A1 rs.length rs) (hg : Kd.F k36 w P A2 g.length g) :
    Calls Try.prog 6 #[.agg #[.slice A0 us.length c0, .slice A1 rs.length c1], .slice A2 g.length c2] w fun e w' => ∃ v, e = .returned v ∧ StR w' (fun k => P k ∨ w.heap.size ≤ k) v (pushU us g) (pushR rs g) ∧ Below w.heap.size w w' := by
  have hgm := Kd.F_max hg
  have hb0 : ∀ o o', Below w.heap.size w ((w.alloc o).alloc o') := fun o o' => below_alloc (below_alloc (Below.refl _ _) _) _
  have P1 : ∀ k, P k → k ≠ w.heap.size + 1 := fun k hk => by have := hP k hk; omega
  by_cases hz : g.length = 0
  · have e1 : pushU us g = us := if_pos hz
    have e2 : pushR rs g = rs := if_pos hz
    rw [e1, e2]
    clear e1 e2
    have hzb : ((g.length : Int) == 0) = true := by simp [hz]
    clear hz
    go_enter Try.func6, Try.ntmps6
    go_wp2_with (go_at_call 14; go_must (refine (shared_any _ _ _ _ _ _ _ h0 h1 (by omega) (by omega)).mono ?_); rintro e w1 ⟨rfl, hb1⟩; obtain ⟨hc, hf⟩ := bcell hb1)
    have hb2 := below_then (hb0 _ _) (hb0 _ _).size hb1
    refine bodyPost_ret (v := .agg #[.slice A0 us.length us.length, .slice A1 rs.length rs.length]) (by simp [results, Try.results6, go_sem, hc]) rfl ⟨_, rfl, ⟨⟨A0, us.length, A1, rs.length, rfl, Nat.le_refl _, Nat.le_refl _, ?_, ?_⟩⟩, below_set (below_set hb2 (by simp)) (by simp)⟩
    · exact Kd.F_mono (Kd.F_far (Kd.F_far (Kd.F_below hu hb2) P1 _) P1 _) (fun k hk => .inl hk)
    · exact Kd.F_mono (Kd.F_far (Kd.F_far (Kd.F_below hr hb2) P1 _) P1 _) (fun k hk => .inl hk)
  · have e1 : pushU us g = topL us g := if_neg hz
    have e2 : pushR rs g = [] := if_neg hz
    rw [e1, e2]
    clear e1 e2
    have hzb : ((g.length : Int) == 0) = false := by simp [hz]
    clear hz
    go_enter Try.func6, Try.ntmps6
    go_wp2_with (go_at_call 15; go_must (refine (top_any _ _ us g _ _ P _ h0 h2 (by omega) ?q1 ?q2).mono ?_); (case q1 => exact Kd.F_below hu (hb0 _ _)); (case q2 => exact Kd.F_below hg (hb0 _ _)); rintro e w1 ⟨B, c, rfl, q3, q4, q5⟩; obtain ⟨hc, hf⟩ := bcell q5)
    have hb2 := below_then (hb0 _ _) (hb0 _ _).size q5
    refine bodyPost_ret (v := .agg #[.slice B (topL us g).length c, .slice none 0 0]) (by simp [results, Try.results6, go_sem, hc]) rfl ⟨_, rfl, ⟨⟨B, c, none, 0, rfl, q3, Nat.le_refl _, ?_, Kd.F_nil _ _ _⟩⟩, below_set (below_set hb2 (by simp)) (by simp)⟩
    have P2 : ∀ k, (P k ∨ w.heap.size + 1 + 1 ≤ k) → k ≠ w.heap.size + 1 := fun k hk => by rcases hk with hk | hk; exact P1 k hk; omega
    exact Kd.F_mono (Kd.F_far (Kd.F_far (by simpa using q4) P2 _) P2 _) (fun k hk => hk.imp id (by omega))
end Go.Proofs.Ytjihhflffkoffaa
