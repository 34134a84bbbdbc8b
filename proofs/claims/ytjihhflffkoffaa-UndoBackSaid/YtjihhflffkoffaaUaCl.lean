/- Walks of undo.above and undo.Close; for stacks below 100000 groups of at most a million parts. -/
import Derived.Test.YtjihhflffkoffaaUaAb2
namespace Go.Proofs.Ytjihhflffkoffaa
open Go.RowKit Go.Shelf Go.Proofs.YtjihhflffkoffaaW.PrintWords Go.Proofs.Ytjihhflffkoffaa.PUndoCloses

theorem aboveN_le (l : List (List S36)) (book : ByteArray) : ∀ n, (aboveN l book n).length ≤ l.length
  | 0 => Nat.le_refl _
  | n + 1 => by
    rw [aboveN]
    split
    · simp
    · exact aboveN_le l book n
/-- No group is longer than that. -/
def Short (l : List (List S36)) : Prop := ∀ x, (gd l x).length ≤ 1000000

theorem above_any (A : Option Addr) (cap : Nat) (l : List (List S36)) (book : ByteArray) (P : Nat → Prop) (w : World) (hcap : l.length ≤ cap) (hlen : l.length ≤ 1000000) (hg : Short l) (hF : Kd.F kG w P A l.length l) :
    Calls Try.prog 17 #[.slice A l.length cap, .string book] w fun e w' => ∃ B c, e = .returned (.slice B (aboveL l book).length c) ∧ (aboveL l book).length ≤ c ∧ Kd.F kG w P B (aboveL l book).length (aboveL l book) ∧ Below w.heap.size w w' := by
  obtain ⟨q, hq⟩ := FG hF
  refine (callsIn_wide (n := 6)).1 ((above_in Fence.wide 6 (fun h => callsIn_wide.2 h) trivial trivial trivial trivial rfl (by omega) A cap l book q P w hcap hlen hq (fun x => by have := hg x; omega)).mono ?_)
  rintro e w' ⟨m, B, rfl, hm, ha, rfl, hb⟩
  have hd := F_dropS (m := m) (c := l.length) hF hm (Nat.le_refl _)
  rw [show kG.sz = 1 from rfl] at hd
  rw [ha]
  exact ⟨_, l.length - m, by rw [List.length_drop], by rw [List.length_drop]; exact Nat.le_refl _, hd, hb⟩

set_option maxHeartbeats 2000000 in
theorem close_any (A0 : Option Addr) (c0 : Nat) (us : List (List S36)) (A1 : Option Addr) (c1 : Nat) (rs : List (List S36)) (book : ByteArray) (P : Nat → Prop) (w : World) (h0 : us.length ≤ c0) (h1 : rs.length ≤ c1) (m0 : us.length ≤ 100000) (m1 : rs.length ≤ 100000) (s0 : Short us) (s1 : Short rs)
    (hP : ∀ k, P k → k < w.heap.size) (hu : Kd.F kG w P A0 us.length us) (hr : Kd.F kG w P A1 rs.length rs) :
    Calls Try.prog 11 #[.agg #[.slice A0 us.length c0, .slice A1 rs.length c1], .string book] w fun e w' => ∃ v, e = .returned v ∧ StR w' P v (aboveL us book) (aboveL rs book) ∧ Below w.heap.size w w' := by
  have hb0 : ∀ o o', Below w.heap.size w ((w.alloc o).alloc o') := fun o o' => below_alloc (below_alloc (Below.refl _ _) _) _
  have P1 : ∀ k, P k → k ≠ w.heap.size + 1 := fun k hk => by have := hP k hk; omega
  go_enter Try.func11, Try.ntmps11
  go_wp2
  have b0 : ((w.alloc (.cells #[.slice A0 us.length c0, .slice A1 rs.length c1] 27)).alloc (.cells #[.slice none 0 0, .slice none 0 0] 27)).heap[w.heap.size]? = some (.cells #[.slice A0 us.length c0, .slice A1 rs.length c1] 27 (0, 0)) := by
    rw [Below.heap_alloc _ _ _ (by simp)]; exact heap_alloc_new w _
  have b1 : ((w.alloc (.cells #[.slice A0 us.length c0, .slice A1 rs.length c1] 27)).alloc (.cells #[.slice none 0 0, .slice none 0 0] 27)).heap[w.heap.size + 1]? = some (.cells #[.slice none 0 0, .slice none 0 0] 27 (0, 0)) := by
    have := heap_alloc_new (w.alloc (.cells #[.slice A0 us.length c0, .slice A1 rs.length c1] 27)) (.cells #[.slice none 0 0, .slice none 0 0] 27)
    rwa [World.size_alloc] at this
  have hb2 := hb0 (.cells #[.slice A0 us.length c0, .slice A1 rs.length c1] 27) (.cells #[.slice none 0 0, .slice none 0 0] 27)
  obtain ⟨W2, hW2⟩ : ∃ W2, (w.alloc (.cells #[.slice A0 us.length c0, .slice A1 rs.length c1] 27)).alloc (.cells #[.slice none 0 0, .slice none 0 0] 27) = W2 := ⟨_, rfl⟩
  have hsz : W2.heap.size = w.heap.size + 2 := by rw [← hW2]; simp
  rw [hW2] at b0 b1 hb2 ⊢
  clear hW2
  have x0 : W2.cell? ⟨w.heap.size, 0, none⟩ = some (.slice A0 us.length c0) := by simp [World.cell?, b0]
  have x1 : W2.cell? ⟨w.heap.size, 1, none⟩ = some (.slice A1 rs.length c1) := by simp [World.cell?, b0]
  have huF2 := Kd.F_below hu hb2
  have hrF2 := Kd.F_below hr hb2
  go_region_held3 (fun w' => w'.cell? ⟨w.heap.size, 0, none⟩ = some (.slice A0 us.length c0) ∧ w'.cell? ⟨w.heap.size, 1, none⟩ = some (.slice A1 rs.length c1)) (first | go_keep)
    (first
      | (go_at_call_of 17 A0; refine (above_any A0 c0 us book P _ h0 (by omega) s0 (Kd.F_drew huF2)).mono ?_; rintro e w3 ⟨B3, c3, rfl, q1, q2, q3⟩; have ch3 : Below W2.heap.size W2 w3 := (by refine below_then ?_ ?_ q3; (repeat (first | exact Below.refl _ _ | apply below_alloc | apply below_drew1)); simp); have y0 := pw_cell_below ch3 x0; have y1 := pw_cell_below ch3 x1; have hrF3 := Kd.F_below hrF2 ch3)
      | (go_at_call_of 17 A1; refine (above_any A1 c1 rs book P _ h1 (by omega) s1 hrF3).mono ?_; rintro e w4 ⟨B4, c4, rfl, q4, q5, q6⟩; have ch4 : Below W2.heap.size W2 w4 := below_then ch3 ch3.size q6; have y2 := pw_cell_below ch4 x0; have y3 := pw_cell_below ch4 x1; have hbw := below_then hb2 hb2.size ch4; have e4 := (ch4.block (w.heap.size + 1) (by omega)).trans b1; have z0 := box2_cell0 e4; have z1 := box2_cell1 e4; have zf := box_frozen e4))
  go_wp2
  refine bodyPost_ret (v := .agg #[.slice B3 (aboveL us book).length c3, .slice B4 (aboveL rs book).length c4]) (by simp [results, Try.results11, go_sem, z0, z1]) rfl ⟨_, rfl, ⟨⟨B3, c3, B4, c4, rfl, q1, q4, ?_, ?_⟩⟩, below_set (below_set hbw (by simp)) (by simp)⟩
  · exact Kd.F_far (Kd.F_far (Kd.F_below (Kd.F_below q2 q3) q6) P1 _) P1 _
  · exact Kd.F_far (Kd.F_far (Kd.F_below q5 q6) P1 _) P1 _
end Go.Proofs.Ytjihhflffkoffaa
