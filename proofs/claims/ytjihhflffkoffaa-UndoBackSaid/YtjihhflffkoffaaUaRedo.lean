/- Walk of undo.Redo, with an empty and with a filled stack; for stacks below 100000 groups. -/
import Derived.Test.YtjihhflffkoffaaUaUndo
namespace Go.Proofs.Ytjihhflffkoffaa
open Go.RowKit Go.Shelf Go.Proofs.YtjihhflffkoffaaW.PrintWords Go.Proofs.Ytjihhflffkoffaa.PUndoCloses

set_option maxHeartbeats 800000 in
theorem redo_none (A0 : Option Addr) (c0 : Nat) (us : List (List S36)) (A1 : Option Addr) (c1 : Nat) (P : Nat → Prop) (w : World) (h0 : us.length ≤ c0) (m0 : us.length ≤ 100000)
    (hP : ∀ k, P k → k < w.heap.size) (hu : Kd.F kG w P A0 us.length us) :
    Calls Try.prog 9 #[.agg #[.slice A0 us.length c0, .slice A1 0 c1]] w fun e w' => ∃ v, e = .returned (.tuple #[.slice none 0 0, v, .int .i64 11]) ∧ StR w' (fun k => P k ∨ w.heap.size ≤ k) v us [] ∧ Below w.heap.size w w' := by
  have hb0 : ∀ o o', Below w.heap.size w ((w.alloc o).alloc o') := fun o o' => below_alloc (below_alloc (Below.refl _ _) _) _
  have P1 : ∀ k, P k → k ≠ w.heap.size + 1 := fun k hk => by have := hP k hk; omega
  go_enter Try.func9, Try.ntmps9
  go_wp2_with (go_at_call 14; go_must (refine (shared_any _ _ _ _ _ _ _ h0 (Nat.zero_le _) (by omega) (by omega)).mono ?_); rintro e w1 ⟨rfl, hb1⟩; obtain ⟨hc, hf⟩ := bcell hb1)
  have hb2 := below_then (hb0 _ _) (hb0 _ _).size hb1
  refine bodyPost_ret (v := .tuple #[.slice none 0 0, .agg #[.slice A0 us.length us.length, .slice A1 0 0], .int .i64 11]) (by simp [results, Try.results9, go_sem, hc]) rfl ⟨_, rfl, ⟨⟨A0, us.length, A1, 0, rfl, Nat.le_refl _, Nat.le_refl _, ?_, F_zero _ _ _ _⟩⟩, below_set (below_set hb2 (by simp)) (by simp)⟩
  exact Kd.F_mono (Kd.F_far (Kd.F_far (Kd.F_below hu hb2) P1 _) P1 _) (fun k hk => .inl hk)

set_option maxHeartbeats 2000000 in
theorem redo_some (A0 : Option Addr) (c0 : Nat) (us : List (List S36)) (A1 : Option Addr) (c1 : Nat) (r : List (List S36)) (g : List S36) (P : Nat → Prop) (w : World) (h0 : us.length ≤ c0) (h1 : r.length + 1 ≤ c1) (m0 : us.length ≤ 100000) (m1 : r.length ≤ 100000)
    (hP : ∀ k, P k → k < w.heap.size) (hu : Kd.F kG w P A0 us.length us) (hr : Kd.F kG w P A1 (r ++ [g]).length (r ++ [g])) :
    Calls Try.prog 9 #[.agg #[.slice A0 us.length c0, .slice A1 (r.length + 1) c1]] w fun e w' => ∃ gv v, e = .returned (.tuple #[gv, v, .int .i64 0]) ∧ GrR w' (fun k => P k ∨ w.heap.size ≤ k) gv g ∧ StR w' (fun k => P k ∨ w.heap.size ≤ k) v (topL us g) r ∧ Below w.heap.size w w' := by
  have hb0 : ∀ o o', Below w.heap.size w ((w.alloc o).alloc o') := fun o o' => below_alloc (below_alloc (Below.refl _ _) _) _
  have P1 : ∀ k, P k → k ≠ w.heap.size + 1 := fun k hk => by have := hP k hk; omega
  obtain ⟨ad, B, c, rfl, hcell, hgc, hgF⟩ := F_elem hr r.length (by simp)
  rw [getD_last] at hcell hgc hgF
  have i1 : (0 : Int) ≤ (r.length : Int) := by omega
  have i2 : (r.length : Int) ≤ (c1 : Int) := by omega
  have i3 : (r.length : Int) < (r.length : Int) + 1 := by omega
  go_enter Try.func9, Try.ntmps9
  go_wp2
  have b0 : ((w.alloc (.cells #[.slice A0 us.length c0, .slice (some ad) (r.length + 1) c1] 27)).alloc (.cells #[.slice none 0 0, .slice none 0 0] 27)).heap[w.heap.size]? = some (.cells #[.slice A0 us.length c0, .slice (some ad) (r.length + 1) c1] 27 (0, 0)) := by
    rw [Below.heap_alloc _ _ _ (by simp)]; exact heap_alloc_new w _
  have b1 : ((w.alloc (.cells #[.slice A0 us.length c0, .slice (some ad) (r.length + 1) c1] 27)).alloc (.cells #[.slice none 0 0, .slice none 0 0] 27)).heap[w.heap.size + 1]? = some (.cells #[.slice none 0 0, .slice none 0 0] 27 (0, 0)) := by
    have := heap_alloc_new (w.alloc (.cells #[.slice A0 us.length c0, .slice (some ad) (r.length + 1) c1] 27)) (.cells #[.slice none 0 0, .slice none 0 0] 27)
    rwa [World.size_alloc] at this
  have hb2 := hb0 (.cells #[.slice A0 us.length c0, .slice (some ad) (r.length + 1) c1] 27) (.cells #[.slice none 0 0, .slice none 0 0] 27)
  have hcell2 := pw_cell_below hb2 hcell
  obtain ⟨W2, hW2⟩ : ∃ W2, (w.alloc (.cells #[.slice A0 us.length c0, .slice (some ad) (r.length + 1) c1] 27)).alloc (.cells #[.slice none 0 0, .slice none 0 0] 27) = W2 := ⟨_, rfl⟩
  have hsz : W2.heap.size = w.heap.size + 2 := by rw [← hW2]; simp
  rw [hW2] at b0 b1 hb2 hcell2 ⊢
  clear hW2
  have hadb : (ad.add r.length).block ≠ w.heap.size + 1 := by have := World.block_lt_of_cell? w _ hcell; omega
  have hset : ∀ (W : World) (o : Nat) (v : Value), (W.setCell ⟨w.heap.size + 1, o, none⟩ v).cell? (ad.add r.length) = W.cell? (ad.add r.length) := fun W o v => World.cell?_of_block (Below.heap_setCell W ⟨w.heap.size + 1, o, none⟩ v _ hadb)
  clear hcell hadb
  have x0 : W2.cell? ⟨w.heap.size, 0, none⟩ = some (.slice A0 us.length c0) := by simp [World.cell?, b0]
  have x1 : W2.cell? ⟨w.heap.size, 1, none⟩ = some (.slice (some ad) (r.length + 1) c1) := by simp [World.cell?, b0]
  have hgF2 := Kd.F_below hgF hb2
  have huF2 := Kd.F_below hu hb2
  go_region_held3 (fun w' => w'.cell? ⟨w.heap.size, 0, none⟩ = some (.slice A0 us.length c0) ∧ w'.cell? ⟨w.heap.size, 1, none⟩ = some (.slice (some ad) (r.length + 1) c1) ∧ w'.cell? (ad.add r.length) = some (.slice B g.length c)) (first | go_keep)
    (first
      | (go_at_call 15; refine (top_any _ _ us g _ _ P _ h0 hgc (by omega) ?qh1 ?qh2).mono ?_; (case qh1 => exact Kd.F_drew huF2); (case qh2 => exact Kd.F_drew hgF2); rintro e w3 ⟨B3, c3, rfl, q1, q2, q3⟩; have ch3 : Below W2.heap.size W2 w3 := (by refine below_then ?_ ?_ q3; (repeat (first | exact Below.refl _ _ | apply below_alloc | apply below_drew1)); simp); have y0 := pw_cell_below ch3 x0; have y1 := pw_cell_below ch3 x1; have y2 := pw_cell_below ch3 hcell2; have hbw := below_then hb2 hb2.size ch3; have e4 := (ch3.block (w.heap.size + 1) (by omega)).trans b1; have z0 := box2_cell0 e4; have z1 := box2_cell1 e4; have zf := box_frozen e4))
  all_goals go_wp2
  all_goals
    refine bodyPost_ret (v := .tuple #[.slice B g.length c, .agg #[.slice B3 (topL us g).length c3, .slice (some ad) r.length r.length], .int .i64 0]) (by simp [results, Try.results9, go_sem, z0, z1]) rfl ⟨_, _, rfl, ⟨B, c, rfl, hgc, ?_⟩, ⟨⟨B3, c3, some ad, r.length, rfl, q1, Nat.le_refl _, ?_, ?_⟩⟩, ?_⟩
    · exact Kd.F_mono (Kd.F_far (Kd.F_far (Kd.F_below hgF hbw) P1 _) P1 _) (fun k hk => .inl hk)
    · have P2 : ∀ k, (P k ∨ w.heap.size + 2 ≤ k) → k ≠ w.heap.size + 1 := fun k hk => by rcases hk with hk | hk; exact P1 k hk; omega
      exact Kd.F_mono (Kd.F_far (Kd.F_far (Kd.F_mono q2 (fun k hk => hk.imp id (fun h => by simp at h; omega))) P2 _) P2 _) (fun k hk => hk.imp id (by omega))
    · have ht := F_takeS (m := r.length) hr (by simp)
      rw [List.take_left] at ht
      exact Kd.F_mono (Kd.F_far (Kd.F_far (Kd.F_below ht hbw) P1 _) P1 _) (fun k hk => .inl hk)
    · exact below_set (below_set hbw (by simp)) (by simp)
end Go.Proofs.Ytjihhflffkoffaa
