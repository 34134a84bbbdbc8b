/- Walk of undo.Undo, with an empty and with a filled stack; for stacks below 100000 groups. -/
import Derived.Test.YtjihhflffkoffaaUaTurn
import Derived.Deep.RegionHeld3
import Derived.Deep.DeepCutAuto
import Derived.Deep.RegionLawGrows
namespace Go.Proofs.Ytjihhflffkoffaa
open Go.RowKit Go.Shelf Go.Proofs.YtjihhflffkoffaaW.PrintWords Go.Proofs.Ytjihhflffkoffaa.PUndoCloses

theorem tall_reps {w w1 : World} {P ok : Nat → Prop} {g : List S36} {q : Nat → (Option Addr × Nat) × (Option Addr × Nat)} {len : Nat} (hb : Below w.heap.size w w1) (hok : ∀ k, P k → ok k) (hq : ∀ x, x < len → Reads36 w P g x (q x)) :
    ∀ pre : List Nat, (∀ x ∈ pre, x < len) → Reps (fun x c => Kd.FK k36 w1 ok x c) 3 (pre.map (fun (x : Nat) => turn1 (rd_T36 g x))) (tall g q pre)
  | [], _ => Reps.none _ _
  | x :: pre, h => by
    obtain ⟨l1, f1, l2, f2⟩ := hq x (h x (by simp))
    have ih := tall_reps hb hok hq pre (fun y hy => h y (by simp [hy]))
    exact Reps.c3 (k36_mkF w1 ok (turn1 (rd_T36 g x)) l2 (Kd.F_mono (Kd.F_below f2 hb) hok) l1 (Kd.F_mono (Kd.F_below f1 hb) hok)) ih

theorem dn_lt (n : Nat) : ∀ j, ∀ x ∈ dn n j, j ≤ n → x < n := by
  intro j x hx hj
  simp only [dn, List.mem_map, List.mem_range] at hx
  obtain ⟨t, ht, rfl⟩ := hx
  omega

theorem turned_any (A : Option Addr) (c : Nat) (g : List S36) (P : Nat → Prop) (w : World) (hlen : g.length ≤ 1000000000) (hg : Kd.F k36 w P A g.length g) :
    Calls Try.prog 16 #[.slice A g.length c] w fun e w' => ∃ B c', e = .returned (.slice B (turned g).length c') ∧ (turned g).length ≤ c' ∧ Kd.F k36 w' (fun k => P k ∨ w.heap.size ≤ k) B (turned g).length (turned g) ∧ Below w.heap.size w w' := by
  obtain ⟨q, hq⟩ := F36 hg
  refine (callsIn_wide (n := 5)).1 ((turned_in Fence.wide 5 trivial trivial trivial rfl (by omega) A g.length c g q w hlen (fun x hx => (hq x hx).1)).mono ?_)
  rintro e w' ⟨v, rfl, hown, hb⟩
  have hR := tall_reps (ok := fun k => P k ∨ w.heap.size ≤ k) hb (fun k hk => .inl hk) (fun x hx => (hq x hx).2) (dn g.length g.length) (fun x hx => dn_lt _ _ x hx (Nat.le_refl _))
  obtain ⟨B, c', rfl, hc, hF⟩ := F_of_own (d := k36) hown hR (by simp [dn]) (fun k hk => .inr (own_base hown k hk))
  have e1 : (turned g).length = g.length := turned_length g
  exact ⟨B, c', by rw [e1], by rw [e1]; exact hc, by rw [e1]; exact hF, hb⟩

theorem F_zero {α : Type} (d : Kd α) (W : World) (ok : Nat → Prop) (A : Option Addr) : Kd.F d W ok A ([] : List α).length [] := fun _ _ => ⟨rfl, by simp, fun h => absurd h (Nat.lt_irrefl 0)⟩
/-- A group's value reads as g. -/
def GrR (w : World) (P : Nat → Prop) (v : Value) (g : List S36) : Prop := ∃ B c, v = .slice B g.length c ∧ g.length ≤ c ∧ Kd.F k36 w P B g.length g

set_option maxHeartbeats 800000 in
theorem undo_none (A0 : Option Addr) (c0 : Nat) (A1 : Option Addr) (c1 : Nat) (rs : List (List S36)) (P : Nat → Prop) (w : World) (h1 : rs.length ≤ c1) (m1 : rs.length ≤ 100000)
    (hP : ∀ k, P k → k < w.heap.size) (hr : Kd.F kG w P A1 rs.length rs) :
    Calls Try.prog 8 #[.agg #[.slice A0 0 c0, .slice A1 rs.length c1]] w fun e w' => ∃ v, e = .returned (.tuple #[.slice none 0 0, v, .int .i64 11]) ∧ StR w' (fun k => P k ∨ w.heap.size ≤ k) v [] rs ∧ Below w.heap.size w w' := by
  have hb0 : ∀ o o', Below w.heap.size w ((w.alloc o).alloc o') := fun o o' => below_alloc (below_alloc (Below.refl _ _) _) _
  have P1 : ∀ k, P k → k ≠ w.heap.size + 1 := fun k hk => by have := hP k hk; omega
  go_enter Try.func8, Try.ntmps8
  go_wp2_with (go_at_call 14; go_must (refine (shared_any _ _ _ _ _ _ _ (Nat.zero_le _) h1 (by omega) (by omega)).mono ?_); rintro e w1 ⟨rfl, hb1⟩; obtain ⟨hc, hf⟩ := bcell hb1)
  have hb2 := below_then (hb0 _ _) (hb0 _ _).size hb1
  refine bodyPost_ret (v := .tuple #[.slice none 0 0, .agg #[.slice A0 0 0, .slice A1 rs.length rs.length], .int .i64 11]) (by simp [results, Try.results8, go_sem, hc]) rfl ⟨_, rfl, ⟨⟨A0, 0, A1, rs.length, rfl, Nat.le_refl _, Nat.le_refl _, F_zero _ _ _ _, ?_⟩⟩, below_set (below_set hb2 (by simp)) (by simp)⟩
  exact Kd.F_mono (Kd.F_far (Kd.F_far (Kd.F_below hr hb2) P1 _) P1 _) (fun k hk => .inl hk)

theorem appended_F {w w4 : World} {P : Nat → Prop} {base : Nat} (lo : Nat) {v4 : Value} {rs : List (List S36)} {olds : List Value} {B : Option Addr} {c : Nat} {g : List S36} (hb : Below w.heap.size w w4) (hbase : lo ≤ base) (hown : w4.ownsRow base 29 1 v4 (rs.length + 1) (olds ++ [.slice B g.length c])) (ho : Reps (fun x c => Kd.FK kG w P x c) kG.sz rs olds) (hgc : g.length ≤ c) (hg : Kd.F k36 w P B g.length g) :
    ∃ B4 c4, v4 = .slice B4 (rs.length + 1) c4 ∧ rs.length + 1 ≤ c4 ∧ Kd.F kG w4 (fun k => P k ∨ lo ≤ k) B4 (rs.length + 1) (rs ++ [g]) := by
  have hR : Reps (fun x c => Kd.FK kG w4 (fun k => P k ∨ lo ≤ k) x c) 1 (rs ++ [g]) (olds ++ [.slice B g.length c]) :=
    (Reps.imp_ ho (fun p c hp => Kd.FK_mono (Kd.FK_below hp hb) (fun k hk => .inl hk))).snoc (fun W' hW => ⟨B, c, rfl, hgc, Kd.F_mono (Kd.F_below hg hb) (fun k hk => .inl hk) W' hW⟩) rfl
  exact F_of_own (d := kG) (ok := fun k => P k ∨ lo ≤ k) hown hR (by simp) (fun k hk => .inr (by have := own_base hown k hk; omega))

theorem box2_cell0 {W : World} {b t : Nat} {x y : Value} (h : W.heap[b]? = some (.cells #[x, y] t (0, 0))) : W.cell? ⟨b, 0, none⟩ = some x := by simp [World.cell?, h]
theorem box2_cell1 {W : World} {b t : Nat} {x y : Value} (h : W.heap[b]? = some (.cells #[x, y] t (0, 0))) : W.cell? ⟨b, 1, none⟩ = some y := by simp [World.cell?, h]
theorem box_frozen {W : World} {b t : Nat} {cs : Array Value} (h : W.heap[b]? = some (.cells cs t (0, 0))) : ∀ o, W.frozen? ⟨b, o, none⟩ = false := fun o => by simp [World.frozen?, h]
theorem getD_last {α : Type} (u : List α) (g z : α) : (u ++ [g]).getD u.length z = g := by simp

set_option maxHeartbeats 2000000 in
theorem undo_some (A0 : Option Addr) (c0 : Nat) (u : List (List S36)) (g : List S36) (A1 : Option Addr) (c1 : Nat) (rs : List (List S36)) (P : Nat → Prop) (w : World) (h0 : u.length + 1 ≤ c0) (h1 : rs.length ≤ c1) (m0 : u.length ≤ 100000) (m1 : rs.length ≤ 100000) (mg : g.length ≤ 1000000)
    (hP : ∀ k, P k → k < w.heap.size) (hu : Kd.F kG w P A0 (u ++ [g]).length (u ++ [g])) (hr : Kd.F kG w P A1 rs.length rs) :
    Calls Try.prog 8 #[.agg #[.slice A0 (u.length + 1) c0, .slice A1 rs.length c1]] w fun e w' => ∃ gv v, e = .returned (.tuple #[gv, v, .int .i64 0]) ∧ GrR w' (fun k => P k ∨ w.heap.size ≤ k) gv (turned g) ∧ StR w' (fun k => P k ∨ w.heap.size ≤ k) v u (rs ++ [g]) ∧ Below w.heap.size w w' := by
  have hb0 : ∀ o o', Below w.heap.size w ((w.alloc o).alloc o') := fun o o' => below_alloc (below_alloc (Below.refl _ _) _) _
  have P1 : ∀ k, P k → k ≠ w.heap.size + 1 := fun k hk => by have := hP k hk; omega
  obtain ⟨olds, ho1, ho2, ho3⟩ := F_inner hr
  obtain ⟨i0, hi, hz0, hz1, hz2⟩ := info_parts info29
  have hlo : olds.length = rs.length * 1 := ho1.1
  have hnone : A1 = none → rs.length = 0 ∧ rs.length = 0 := fun e => (by rw [ho2 e]; exact ⟨rfl, rfl⟩)
  clear ho2
  obtain ⟨ad, B, c, rfl, hcell, hgc, hgF⟩ := F_elem hu u.length (by simp)
  rw [getD_last] at hcell hgc hgF
  have hcell2 := pw_cell_below (hb0 (.cells #[.slice (some ad) (u.length + 1) c0, .slice A1 rs.length c1] 27) (.cells #[.slice none 0 0, .slice none 0 0] 27)) hcell
  have i1 : (0 : Int) ≤ (u.length : Int) := by omega
  have i2 : (u.length : Int) ≤ (c0 : Int) := by omega
  have i3 : (0 : Int) ≤ (rs.length : Int) := by omega
  have i4 : (rs.length : Int) ≤ (c1 : Int) := by omega
  go_enter Try.func8, Try.ntmps8
  go_wp2
  have b0 : ((w.alloc (.cells #[.slice (some ad) (u.length + 1) c0, .slice A1 rs.length c1] 27)).alloc (.cells #[.slice none 0 0, .slice none 0 0] 27)).heap[w.heap.size]? = some (.cells #[.slice (some ad) (u.length + 1) c0, .slice A1 rs.length c1] 27 (0, 0)) := by
    rw [Below.heap_alloc _ _ _ (by simp)]; exact heap_alloc_new w _
  have b1 : ((w.alloc (.cells #[.slice (some ad) (u.length + 1) c0, .slice A1 rs.length c1] 27)).alloc (.cells #[.slice none 0 0, .slice none 0 0] 27)).heap[w.heap.size + 1]? = some (.cells #[.slice none 0 0, .slice none 0 0] 27 (0, 0)) := by
    have := heap_alloc_new (w.alloc (.cells #[.slice (some ad) (u.length + 1) c0, .slice A1 rs.length c1] 27)) (.cells #[.slice none 0 0, .slice none 0 0] 27)
    rwa [World.size_alloc] at this
  have hb2 := hb0 (.cells #[.slice (some ad) (u.length + 1) c0, .slice A1 rs.length c1] 27) (.cells #[.slice none 0 0, .slice none 0 0] 27)
  obtain ⟨W2, hW2⟩ : ∃ W2, (w.alloc (.cells #[.slice (some ad) (u.length + 1) c0, .slice A1 rs.length c1] 27)).alloc (.cells #[.slice none 0 0, .slice none 0 0] 27) = W2 := ⟨_, rfl⟩
  have hsz : W2.heap.size = w.heap.size + 2 := by rw [← hW2]; simp
  rw [hW2] at b0 b1 hb2 hcell2 ⊢
  clear hW2 hcell hcell2
  have x0 : W2.cell? ⟨w.heap.size, 0, none⟩ = some (.slice (some ad) (u.length + 1) c0) := by simp [World.cell?, b0]
  have x1 : W2.cell? ⟨w.heap.size, 1, none⟩ = some (.slice A1 rs.length c1) := by simp [World.cell?, b0]
  have hgF2 := Kd.F_below hgF hb2
  have nc := cell_one_new W2 (.slice B g.length c) 29
  rw [hsz] at nc
  go_region_held3 (fun w' => w'.cell? ⟨w.heap.size, 0, none⟩ = some (.slice (some ad) (u.length + 1) c0) ∧ w'.cell? ⟨w.heap.size, 1, none⟩ = some (.slice A1 rs.length c1)) (first | go_keep)
    (first
      | (go_at_call 16; refine (turned_any _ _ g P _ (by omega) ?_).mono ?_; (repeat (first | exact hgF2 | apply Kd.F_alloc | apply Kd.F_drew)); rintro e w3 ⟨B3, c3, rfl, q1, q2, q3⟩; have ch3 : Below W2.heap.size W2 w3 := (by refine below_then ?_ ?_ q3; (repeat (first | exact Below.refl _ _ | apply below_alloc | apply below_drew1)); simp); have y0 := pw_cell_below ch3 x0; have y1 := pw_cell_below ch3 x1)
      | (go_loud (refine step_append_grows (by rfl) (.tmp 35) (.tmp 37) 25 (by rfl) 29 i0 (.slice none 0 0) 1 24 Try.underlying25 hi hz0 hz1 hz2 rfl (by decide) A1 rs.length rs.length olds (by rfl) hnone hlo (by intro b e j u hu; refine pw_cell_below ?_ (ho3 b e j u hu); repeat (first | exact hb2 | apply below_alloc | apply below_drew1 | (refine below_then ?_ ?_ q3) | (simp; omega))) _ 1 1 [.slice B g.length c] (by rfl) rfl (by intro j u hu; first | exact cell_one_new _ _ _ j u hu | exact pw_cell_below q3 (nc j u hu)) (by intro u hu; simp at hu; subst hu; rfl) (by omega) (by unfold maxLen; omega) (by omega) ?_); intro v4 w4 hown4 hgrow4; have hb4 := below_of_grown hgrow4; have ch4 : Below W2.heap.size W2 w4 := (by refine below_then ?_ ?_ hb4; (repeat (first | exact ch3 | apply below_alloc | apply below_drew1)); (have := ch3.size; simp; omega)); have y2 := pw_cell_below ch4 x0; have y3 := pw_cell_below ch4 x1; have hbw := below_then hb2 hb2.size ch4; have ch34 : Below w3.heap.size w3 w4 := (by first | exact hb4 | exact below_then (below_alloc (Below.refl _ _) _) (by simp) hb4); obtain ⟨B4, c4, rfl, q4, q5⟩ := appended_F (w.heap.size + 2) hbw (by have := ch3.size; simp; omega) hown4 ho1 hgc hgF; have e4 := (ch4.block (w.heap.size + 1) (by omega)).trans b1; have z0 := box2_cell0 e4; have z1 := box2_cell1 e4; have zf := box_frozen e4))
  all_goals go_wp2
  all_goals
    refine bodyPost_ret (v := .tuple #[.slice B3 (turned g).length c3, .agg #[.slice (some ad) u.length u.length, .slice B4 (rs.length + 1) c4], .int .i64 0]) (by simp [results, Try.results8, go_sem, z0, z1]) rfl ⟨_, _, rfl, ⟨B3, c3, rfl, q1, ?_⟩, ⟨⟨some ad, u.length, B4, c4, by simp, Nat.le_refl _, by simpa using q4, ?_, ?_⟩⟩, ?_⟩
    · have P2 : ∀ k, (P k ∨ w.heap.size + 2 ≤ k) → k ≠ w.heap.size + 1 := fun k hk => by rcases hk with hk | hk; exact P1 k hk; omega
      exact Kd.F_mono (Kd.F_far (Kd.F_far (Kd.F_mono (Kd.F_below q2 ch34) (fun k hk => hk.imp id (fun h => by simp at h; omega))) P2 _) P2 _) (fun k hk => hk.imp id (by omega))
    · have ht := F_takeS (m := u.length) hu (by simp)
      rw [List.take_left] at ht
      exact Kd.F_mono (Kd.F_far (Kd.F_far (Kd.F_below ht hbw) P1 _) P1 _) (fun k hk => .inl hk)
    · have P2 : ∀ k, (P k ∨ w.heap.size + 2 ≤ k) → k ≠ w.heap.size + 1 := fun k hk => by rcases hk with hk | hk; exact P1 k hk; omega
      rw [List.length_append, List.length_singleton]
      exact Kd.F_mono (Kd.F_far (Kd.F_far q5 P2 _) P2 _) (fun k hk => hk.imp id (by omega))
    · exact below_set (below_set hbw (by simp)) (by simp)
end Go.Proofs.Ytjihhflffkoffaa
