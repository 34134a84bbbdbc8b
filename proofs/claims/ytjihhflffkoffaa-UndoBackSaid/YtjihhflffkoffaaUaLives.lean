/- Walk of lives(): it returns true; no condition. -/
import Derived.Test.YtjihhflffkoffaaUaS
namespace Go.Proofs.Ytjihhflffkoffaa
open Go.RowKit Go.Shelf Go.Proofs.YtjihhflffkoffaaW.PrintWords Go.Proofs.Ytjihhflffkoffaa.PUndoCloses
def T : Nat → Prop := fun _ => True
def ga : List S36 := oneG ⟨#[97]⟩
def gb : List S36 := oneG ⟨#[98]⟩

theorem above_ab : aboveL [ga, gb] ⟨#[98]⟩ = [] := by
  have h : holdsB (gd [ga, gb] 1) ⟨#[98]⟩ = true := by simp [holdsB, gd, gb, oneG, onePart, firstB, hasB, rd_T36]
  show aboveN [ga, gb] _ (1 + 1) = []
  rw [aboveN, if_pos h]
  rfl
theorem field27 (A0 A1 : Option Addr) (n0 c0 n1 c1 : Nat) (w : World) : (Instr.field 27 (.agg #[.slice A0 n0 c0, .slice A1 n1 c1]) 0).run Try.prog w = .ok (.slice A0 n0 c0) w := by kernel_rfl
attribute [local go_sem] field27
theorem short_ab : Short [ga, gb] := fun x => by
  match x with
  | 0 => simp [gd, ga, oneG]
  | 1 => simp [gd, gb, oneG]
  | n + 2 => simp [gd]
theorem short_nil : Short [] := fun x => by simp [gd]
set_option maxHeartbeats 2000000 in
theorem lives_any (w : World) : Calls Try.prog 5 #[] w fun e w' => e = .returned (.bool true) ∧ Below w.heap.size w w' := by
  go_enter Try.func5, Try.ntmps5
  go_wp2_with (go_at_call_of 7 (Value.string ⟨#[97]⟩); refine (one_S ⟨#[97]⟩ _).mono ?_; rintro e w1 ⟨v1, rfl, G1, B1⟩; replace G1 := G1.mono (Q := T) (fun _ _ => trivial))
  go_wp2_with (go_at_call_of 6 v1; refine (push_S (P := T) (StR.nil _ _) G1 (by simp) (by simp)).mono ?_; rintro e w2 ⟨v2, rfl, S2, B2⟩; replace S2 : StR w2 T v2 [ga] [] := S2.mono (Q := T) (fun _ _ => trivial); have C2 := below_then B1 B1.size B2)
  go_wp2_with (go_at_call_of 7 (Value.string ⟨#[98]⟩); refine (one_S ⟨#[98]⟩ _).mono ?_; rintro e w3 ⟨v3, rfl, G3, B3⟩; replace G3 := G3.mono (Q := T) (fun _ _ => trivial); have C3 := below_then C2 C2.size B3; replace S2 := S2.below B3)
  go_wp2_with (go_at_call_of 6 v3; refine (push_S (P := T) S2 G3 (by simp) (by simp)).mono ?_; rintro e w4 ⟨v4, rfl, S4, B4⟩; replace S4 : StR w4 T v4 [ga, gb] [] := S4.mono (Q := T) (fun _ _ => trivial); have C4 := below_then C3 C3.size B4; clear S2 G1 G3 B1 B2 B3 B4 C2 C3; obtain ⟨A0, c0, A1, c1, rfl, l0, l1⟩ := S4.shape (n := 2) (m := 0) rfl rfl)
  go_wp2_with (go_at_call_of 8 (Value.agg #[Value.slice A0 2 c0, Value.slice A1 0 c1]); refine (undo_S (P := T) (u := [ga]) (g := gb) (rs := []) (S4.below (below_alloc (Below.refl _ _) _)) (by simp) (by simp) (by simp [gb, oneG])).mono ?_; rintro e w5 ⟨g5, v5, rfl, G5, S5, B5⟩; have y0 := pw_cell_below B5 (box2_cell0 (heap_alloc_new w4 _)); have y1 := pw_cell_below B5 (box2_cell1 (heap_alloc_new w4 _)); replace G5 := G5.mono (Q := T) (fun _ _ => trivial); replace S5 : StR w5 T v5 [ga] [gb] := S5.mono (Q := T) (fun _ _ => trivial); have B5' := below_then (below_alloc (Below.refl _ _) _) (by simp) B5; replace S4 := S4.below B5'; have C5 := below_then C4 C4.size B5'; obtain ⟨hc5, _⟩ := bcell B5; obtain ⟨A2, c2, A3, c3, rfl, l2, l3⟩ := S5.shape (n := 1) (m := 1) rfl rfl)
  go_wp2_with (go_at_call_of 8 (Value.agg #[Value.slice A2 1 c2, Value.slice A3 1 c3]); refine (undo_S (P := T) (u := []) (g := ga) (rs := [gb]) (S5.below (below_alloc (Below.refl _ _) _)) (by simp) (by simp) (by simp [ga, oneG])).mono ?_; rintro e w6 ⟨g6, v6, rfl, G6, S6, B6⟩; replace G6 := G6.mono (Q := T) (fun _ _ => trivial); replace S6 : StR w6 T v6 [] [gb, ga] := S6.mono (Q := T) (fun _ _ => trivial); have B6' := below_then (below_alloc (Below.refl _ _) _) (by simp) B6; replace S4 := S4.below B6'; replace G5 := G5.below B6'; replace y0 := pw_cell_below B6' y0; replace y1 := pw_cell_below B6' y1; have C6 := below_then C5 C5.size B6'; obtain ⟨A4, c4, A5, c5, rfl, l4, l5⟩ := S6.shape (n := 0) (m := 2) rfl rfl)
  go_wp2_with (go_at_call_of 8 (Value.agg #[Value.slice A4 0 c4, Value.slice A5 2 c5]); refine (undoN_S (P := T) (rs := [gb, ga]) (S6.below (below_alloc (Below.refl _ _) _)) (by simp)).mono ?_; rintro e w7 ⟨v7, rfl, S7, B7⟩; have z0 := pw_cell_below B7 (box2_cell0 (heap_alloc_new w6 _)); have z1 := pw_cell_below B7 (box2_cell1 (heap_alloc_new w6 _)); have B7' := below_then (below_alloc (Below.refl _ _) _) (by simp) B7; replace S4 := S4.below B7'; replace S6 := S6.below B7'; replace G5 := G5.below B7'; replace G6 := G6.below B7'; replace y0 := pw_cell_below B7' y0; replace y1 := pw_cell_below B7' y1; have C7 := below_then C6 C6.size B7'; obtain ⟨A6, c6, A7, c7, rfl, l6, l7⟩ := S7.shape (n := 0) (m := 2) rfl rfl; have D7 := below_alloc (Below.refl w7.heap.size w7) (.cells #[.slice A6 0 c6, .slice A7 2 c7] 27); have x0 := pw_cell_below D7 z0; have x1 := pw_cell_below D7 z1)
  go_wp2_with (go_at_call 9; refine (redo_S (P := T) (us := []) (g := ga) (r := [gb]) (S6.below D7) (by simp) (by simp)).mono ?_; rintro e w8 ⟨g8, v8, rfl, G8, S8, B8⟩; replace G8 := G8.mono (Q := T) (fun _ _ => trivial); have B8' := below_then D7 D7.size B8; replace S4 := S4.below B8'; replace G5 := G5.below B8'; replace G6 := G6.below B8'; replace y0 := pw_cell_below B8' y0; replace y1 := pw_cell_below B8' y1; have C8 := below_then C7 C7.size B8'; obtain ⟨A8, c8, A9, c9, rfl, l8, l9⟩ := S8.shape (n := 1) (m := 1) rfl rfl; have D8 := below_alloc (Below.refl w8.heap.size w8) (.cells #[.slice A8 1 c8, .slice A9 1 c9] 27); have C9 := below_then C8 C8.size D8; replace S4 := S4.below D8; replace G5 := G5.below D8; replace G6 := G6.below D8; replace G8 := G8.below D8; replace y0 := pw_cell_below D8 y0; replace y1 := pw_cell_below D8 y1; obtain ⟨E5, k5, rfl, m5⟩ := G5.shape (n := 1) rfl; obtain ⟨E6, k6, rfl, m6⟩ := G6.shape (n := 1) rfl; obtain ⟨E8, k8, rfl, m8⟩ := G8.shape (n := 1) rfl; obtain ⟨a5, F5, j5, rfl, p5, q5⟩ := GrR.head (p := turn1 (onePart ⟨#[98]⟩)) G5; obtain ⟨a8, F8, j8, rfl, p8, q8⟩ := GrR.head (p := onePart ⟨#[97]⟩) G8; replace p5 : _ = some (Value.string ⟨#[98]⟩) := p5; replace p8 : _ = some (Value.string ⟨#[97]⟩) := p8; replace q5 : _ = some (Value.slice F5 1 j5) := q5)
  all_goals go_wp2_with (go_at_call 11; refine (close_S (P := T) (us := [ga, gb]) (rs := []) ⟨#[98]⟩ S4 (by simp) (by simp) ?sh1 ?sh2).mono ?_; (case sh1 => exact short_ab); (case sh2 => exact short_nil); rintro e w9 ⟨v9, rfl, S9, B9⟩; rw [above_ab] at S9; have C10 := below_then C9 C9.size B9; obtain ⟨A10, c10, A11, c11, rfl, l10, l11⟩ := S9.shape (n := 0) rfl rfl)
  all_goals go_ret
  all_goals exact ⟨rfl, C10⟩
end Go.Proofs.Ytjihhflffkoffaa
