/- Walk of UndoBack: it returns true and writes nothing that was there; for a list of strings that reads and an unsigned number below two to the 64. -/
import Derived.Test.YtjihhflffkoffaaUaBk2
namespace Go.Proofs.Ytjihhflffkoffaa
open Go.RowKit Go.Shelf Go.Proofs.YtjihhflffkoffaaW.PrintWords Go.Proofs.Ytjihhflffkoffaa.PUndoCloses

set_option maxRecDepth 100000 in
set_option maxHeartbeats 8000000 in
theorem back_any (A : Option Addr) (len cap : Nat) (nm : Nat → ByteArray) (k : Nat) (w : World) (hk : k < 2 ^ 64)
    (hN : ∀ i, i < len → ∃ ad, A = some ad ∧ w.cell? (ad.add i) = some (.string (nm i))) :
    Calls Try.prog 3 #[.slice A len cap, .int .u64 k] w fun e w' => e = .returned (.bool true) ∧ Below w.heap.size w w' := by
  go_enter Try.func3, Try.ntmps3
  by_cases hbig : 60 < len
  · have hbi : (60 : Int) < (len : Int) := by omega
    go_wp2_with (go_at_call 5; refine (lives_any _).mono ?_; rintro e w1 ⟨rfl, B1⟩)
    go_ret
    exact ⟨rfl, B1⟩
  · have hbi : ¬ (60 : Int) < (len : Int) := by omega
    go_wp2
    go_loopw [28] (fun i wr => ∃ j : Nat, j ≤ len ∧ i = .int .i64 j ∧ BoxS wr w.heap.size (usN nm j) [] ∧ Below w.heap.size w wr) (fun i _ => len - (intOf i).toNat)
    case atStart => exact ⟨0, Nat.zero_le _, rfl, BoxS.start w [] [] none none 0 0 0 0 rfl rfl (StR.nil w T), below_alloc (Below.refl _ _) _⟩
    case round =>
      obtain ⟨j, hj, rfl, ⟨n, m, A0, c0, A1, c1, hn, hm, hbox, hst, hsz⟩, hB⟩ := hrel
      have hfz := box_frozen hbox
      have x0 := box2_cell0 hbox
      have x1 := box2_cell1 hbox
      by_cases hlt : j < len
      · obtain ⟨ad, rfl, e0⟩ := hN j hlt
        have f0 := pw_cell_below hB e0
        clear e0
        go_wp2
        go_region_with
          (first
            | (go_at_call 7; refine (one_S (nm j) _).mono ?_; rintro e w3 ⟨gv, rfl, G3, q3⟩; have ch3 : Below wr.heap.size wr w3 := (by refine below_then ?_ ?_ q3; (repeat (first | exact Below.refl _ _ | apply below_alloc | apply below_drew1)); simp); have y0 := pw_cell_below ch3 x0; have y1 := pw_cell_below ch3 x1; have G4 : GrR w3 (fun k => k ≠ w.heap.size) gv (oneG (nm j)) := G3.mono (fun k hk => by simp at hk; omega); have S4 := hst.below ch3)
            | (go_at_call 6; refine (push_S S4 G4 (by have := usN_le nm j; omega) (by simp)).mono ?_; rintro e w4 ⟨v4, rfl, S5, q4⟩; have ch4 := below_then ch3 ch3.size q4; have S6 : StR w4 (fun k => k ≠ w.heap.size) v4 (usN nm (j + 1)) [] := (by rw [usN_push] at S5; exact S5.mono (fun k hk => by have := ch3.size; omega)); obtain ⟨A2, c2, A3, c3, rfl, l2, l3⟩ := S6.shape (n := (usN nm (j + 1)).length) (m := 0) rfl rfl; have hbox4 := (ch4.block _ hsz).trans hbox; have hfz4 := box_frozen hbox4; have y2 := box2_cell0 hbox4; have y3 := box2_cell1 hbox4))
        all_goals go_wp2
        all_goals (go_roundw; (case rel => exact ⟨j + 1, by omega, by go_num, BoxS.put hbox4 rfl rfl S6, below_set (below_set (below_then hB hB.size ch4) (by simp)) (by simp)⟩); (case measure => simp [intOf]; omega))
      · obtain rfl : j = len := by omega
        have hl := usN_len nm j
        have hm0 : m = 0 := by rw [← hm]; rfl
        subst hm0
        have hc : (8 < j ∧ n = 8) ∨ (j ≤ 8 ∧ n = j) := by omega
        rcases hc with ⟨h8, rfl⟩ | ⟨h8, rfl⟩
        · have h8' : (8 : Int) < (j : Int) := by omega
          go_wp2
          obtain ⟨mm, hmm1, hmm2⟩ : ∃ mm : Nat, (k : Int) % 9 = (mm : Int) ∧ mm ≤ 8 := ⟨k % 9, by omega, by omega⟩
          rw [hmm1]
          clear hmm1
          obtain ⟨L, hL⟩ : ∃ L, usN nm j = L := ⟨_, rfl⟩
          have hLx : ∀ x, x < 8 → L[x]? = some (oneG (nm (j - 8 + x))) := fun x hx => by rw [← hL]; exact usN_get nm j 8 x (by rw [hL]; rw [hL] at hn; exact hn) hx
          rw [hL] at hn hst
          clear hL
          go_loopw [10] (fun i wr2 => ∃ q : Nat, q ≤ mm ∧ i = .int .i64 q ∧ BoxS wr2 w.heap.size (L.take (8 - q)) (L.drop (8 - q)).reverse ∧ Below w.heap.size w wr2) (fun i _ => mm - (intOf i).toNat)
          case atStart => exact ⟨0, Nat.zero_le _, rfl, ⟨8, 0, A0, c0, A1, c1, by simp [hn], by simp [hn], hbox, by simpa [← hn] using hst, hsz⟩, hB⟩
          case round =>
            clear hbox hst hsz hB x0 x1 hfz
            obtain ⟨q, hq, rfl, ⟨n2, m2, A2, c2, A3, c3, hn2, hm2, hbox, hst, hsz⟩, hB⟩ := hrel
            have hfz := box_frozen hbox
            have x0 := box2_cell0 hbox
            have x1 := box2_cell1 hbox
            by_cases hlt : q < mm
            · have hg := hLx (8 - q - 1) (by omega)
              have e1 : 8 - q = (8 - q - 1) + 1 := by omega
              have hn3 : (L.take (8 - q - 1)).length = 8 - q - 1 := by rw [List.length_take]; omega
              rw [e1, take_split hg] at hst
              clear e1
              obtain ⟨x, hx⟩ : ∃ x : Nat, (j : Int) - 1 - (q : Int) = (x : Int) := ⟨j - 1 - q, by omega⟩
              have hx2 : nm (j - 8 + (8 - q - 1)) = nm x := by congr 1; omega
              obtain ⟨ad, rfl, e0⟩ := hN x (by omega)
              go_wp2_with (go_at_call 8; refine (undo_S hst ?qa ?qb ?qc).mono ?_; (case qa => omega); (case qb => simp; omega); (case qc => simp [oneG]); rintro e w5 ⟨g5, v5, rfl, G5, S5, B5⟩; have C5 := below_then hB hB.size B5; rw [← drop_split hg] at S5; replace S5 := S5.mono (Q := fun b => b ≠ w.heap.size) (fun b hb => by omega); replace G5 := G5.mono (Q := fun b => b ≠ w.heap.size) (fun b hb => by omega); obtain ⟨n4, hn4⟩ : ∃ n4, (L.take (8 - q - 1)).length = n4 := ⟨_, rfl⟩; obtain ⟨m4, hm4⟩ : ∃ m4, (L.drop (8 - q - 1)).reverse.length = m4 := ⟨_, rfl⟩; obtain ⟨A4, c4, A5, c5, rfl, l4, l5⟩ := S5.shape hn4 hm4)
              clear hfz x0 x1
              have D5 := below_alloc (Below.refl w5.heap.size w5) (.cells #[.slice A4 n4 c4, .slice A5 m4 c5] 27)
              obtain ⟨E5, k5, rfl, _⟩ := (G5.shape (n := 1) rfl)
              obtain ⟨a5, F5, j5, rfl, p5, _⟩ := GrR.head (p := turn1 (onePart (nm (j - 8 + (8 - q - 1))))) (G5.below D5)
              have hi1 : (0 : Int) ≤ (x : Int) := (by omega)
              have hi2 : (x : Int) < (j : Int) := (by omega)
              have p6 : (w5.alloc (.cells #[.slice A4 n4 c4, .slice A5 m4 c5] 27)).cell? a5 = some (Value.string (nm (j - 8 + (8 - q - 1)))) := p5
              rw [hx2] at p6
              clear p5
              have f0 := pw_cell_below (below_then C5 C5.size D5) e0
              go_quiet (fail)
              have z0 := cell_at (m := nq) rfl (box2_cell0 (heap_alloc_new w5 (.cells #[.slice A4 n4 c4, .slice A5 m4 c5] 27)))
              have z1 := cell_at (m := nq) rfl (box2_cell1 (heap_alloc_new w5 (.cells #[.slice A4 n4 c4, .slice A5 m4 c5] 27)))
              have hs5 := B5.size
              have hbox5 := (B5.block _ hsz).trans hbox
              have hbox6 := blk_at (m := nq) rfl ((D5.block _ (by omega)).trans hbox5)
              have hfz6 := box_frozen hbox6
              have x2 := box2_cell0 hbox6
              have x3 := box2_cell1 hbox6
              have F6 := below_at (m := nq) rfl (below_then C5 C5.size D5)
              have S6 := (S5.below D5).below (below_at (m := nq) rfl (Below.refl _ _))
              clear hbox5 D5 p6 f0 hx hx2 hst G5
              go_wp2
              go_roundw
              case rel =>
                have e2 : 8 - (q + 1) = 8 - q - 1 := by omega
                refine ⟨q + 1, by omega, by go_num, ?_, below_set (below_set F6 (by simp)) (by simp)⟩
                rw [e2]
                exact BoxS.put hbox6 hn4 hm4 S6
              case measure => simp [intOf]; omega
            · obtain rfl : q = mm := by omega
              go_wp2
              go_loopw [14] (fun i wr2 => ∃ p : Nat, p ≤ q ∧ i = .int .i64 p ∧ BoxS wr2 w.heap.size (L.take (8 - p)) (L.drop (8 - p)).reverse ∧ Below w.heap.size w wr2) (fun i _ => (intOf i).toNat)
              case atStart => exact ⟨q, Nat.le_refl _, rfl, ⟨n2, m2, A2, c2, A3, c3, hn2, hm2, hbox, hst, hsz⟩, hB⟩
              case round =>
                clear hbox hst hsz hB x0 x1 hfz hn2 hm2
                obtain ⟨p, hp, rfl, ⟨n3, m3, A4, c4, A5, c5, hn3, hm3, hbox, hst, hsz⟩, hB⟩ := hrel
                have hfz := box_frozen hbox
                have x0 := box2_cell0 hbox
                have x1 := box2_cell1 hbox
                by_cases hlt2 : 0 < p
                · have hg := hLx (8 - p) (by omega)
                  have hl3 : (L.take (8 - p)).length = 8 - p := by rw [List.length_take]; omega
                  rw [drop_split hg] at hst
                  have ht : topL (L.take (8 - p)) (oneG (nm (j - 8 + (8 - p)))) = L.take (8 - p + 1) := by
                    rw [topL, hl3, take_split hg, show 8 - p + 1 - 8 = 0 by omega]; rfl
                  obtain ⟨x, hx⟩ : ∃ x : Nat, (j : Int) - (p : Int) = (x : Int) := ⟨j - p, by omega⟩
                  have hx2 : nm (j - 8 + (8 - p)) = nm x := by congr 1; omega
                  obtain ⟨ad, rfl, e0⟩ := hN x (by omega)
                  go_wp2_with (go_at_call 9; refine (redo_S hst ?qa ?qb).mono ?_; (case qa => omega); (case qb => simp; omega); rintro e w5 ⟨g5, v5, rfl, G5, S5, B5⟩; have C5 := below_then hB hB.size B5; rw [ht] at S5; replace S5 := S5.mono (Q := fun b => b ≠ w.heap.size) (fun b hb => by omega); replace G5 := G5.mono (Q := fun b => b ≠ w.heap.size) (fun b hb => by omega); obtain ⟨n4, hn4⟩ : ∃ n4, (L.take (8 - p + 1)).length = n4 := ⟨_, rfl⟩; obtain ⟨m4, hm4⟩ : ∃ m4, (L.drop (8 - p + 1)).reverse.length = m4 := ⟨_, rfl⟩; obtain ⟨A6, c6, A7, c7, rfl, l6, l7⟩ := S5.shape hn4 hm4)
                  clear hfz x0 x1
                  have D5 := below_alloc (Below.refl w5.heap.size w5) (.cells #[.slice A6 n4 c6, .slice A7 m4 c7] 27)
                  obtain ⟨E5, k5, rfl, _⟩ := (G5.shape (n := 1) rfl)
                  obtain ⟨a5, F5, j5, rfl, p5, _⟩ := GrR.head (p := onePart (nm (j - 8 + (8 - p)))) (G5.below D5)
                  have hi1 : (0 : Int) ≤ (x : Int) := (by omega)
                  have hi2 : (x : Int) < (j : Int) := (by omega)
                  have p6 : (w5.alloc (.cells #[.slice A6 n4 c6, .slice A7 m4 c7] 27)).cell? a5 = some (Value.string (nm (j - 8 + (8 - p)))) := p5
                  rw [hx2] at p6
                  clear p5
                  have f0 := pw_cell_below (below_then C5 C5.size D5) e0
                  go_quiet (fail)
                  have z0 := cell_at (m := nq) rfl (box2_cell0 (heap_alloc_new w5 (.cells #[.slice A6 n4 c6, .slice A7 m4 c7] 27)))
                  have z1 := cell_at (m := nq) rfl (box2_cell1 (heap_alloc_new w5 (.cells #[.slice A6 n4 c6, .slice A7 m4 c7] 27)))
                  have hs5 := B5.size
                  have hbox5 := (B5.block _ hsz).trans hbox
                  have hbox6 := blk_at (m := nq) rfl ((D5.block _ (by omega)).trans hbox5)
                  have hfz6 := box_frozen hbox6
                  have x2 := box2_cell0 hbox6
                  have x3 := box2_cell1 hbox6
                  have F6 := below_at (m := nq) rfl (below_then C5 C5.size D5)
                  have S6 := (S5.below D5).below (below_at (m := nq) rfl (Below.refl _ _))
                  clear hbox5 D5 p6 f0 hx hx2 hst G5
                  go_wp2
                  go_roundw
                  case rel =>
                    have e2 : 8 - (p - 1) = 8 - p + 1 := by omega
                    refine ⟨p - 1, by omega, by go_num, ?_, below_set (below_set F6 (by simp)) (by simp)⟩
                    rw [e2]
                    exact BoxS.put hbox6 hn4 hm4 S6
                  case measure => simp [intOf]; omega
                · obtain rfl : p = 0 := by omega
                  have hr0 : (L.drop (8 - 0)).reverse = [] := by simp [hn]
                  have hl0 : (L.take (8 - 0)).length = 8 := by simp [hn]
                  rw [hr0] at hst hm3
                  have hm4 : m3 = 0 := by rw [← hm3]; rfl
                  have hn4 : n3 = 8 := by omega
                  subst hm4
                  rw [hn4] at hbox x0 hst
                  clear hr0 hn4 hn3 hm3
                  go_wp2_with (go_at_call 9; refine (redoN_S hst (by omega)).mono ?_; rintro e w5 ⟨v5, rfl, S5, B5⟩; have C5 := below_then hB hB.size B5; have hbox5 := (B5.block _ hsz).trans hbox; obtain ⟨A6, c6, A7, c7, rfl, l6, l7⟩ := S5.shape (n := 8) (m := 0) hl0 rfl; have D5 := below_alloc (Below.refl w5.heap.size w5) (.cells #[.slice A6 8 c6, .slice A7 0 c7] 27); have hs5 := B5.size; have hbox6 := (D5.block _ (by omega)).trans hbox5; have x2 := box2_cell0 hbox6; have x3 := box2_cell1 hbox6; have C6 := below_then C5 C5.size D5)
                  go_wp2_with (go_at_call 5; refine (lives_any _).mono ?_; rintro e w6 ⟨rfl, B6⟩; have C7 := below_then C6 C6.size B6)
                  go_ret
                  exact ⟨rfl, C7⟩
        · have h8' : ¬ (8 : Int) < (n : Int) := by omega
          go_wp2
          obtain ⟨mm, hmm1, hmm2⟩ : ∃ mm : Nat, wrap64 ((k : Int) % ((n : Int) + 1)) = (mm : Int) ∧ mm ≤ n := modN k n (by omega)
          rw [hmm1]
          clear hmm1
          obtain ⟨L, hL⟩ : ∃ L, usN nm n = L := ⟨_, rfl⟩
          have hLx : ∀ x, x < n → L[x]? = some (oneG (nm (n - n + x))) := fun x hx => by rw [← hL]; exact usN_get nm n n x (by rw [hL]; rw [hL] at hn; exact hn) hx
          rw [hL] at hn hst
          clear hL
          go_loopw [10] (fun i wr2 => ∃ q : Nat, q ≤ mm ∧ i = .int .i64 q ∧ BoxS wr2 w.heap.size (L.take (n - q)) (L.drop (n - q)).reverse ∧ Below w.heap.size w wr2) (fun i _ => mm - (intOf i).toNat)
          case atStart => exact ⟨0, Nat.zero_le _, rfl, ⟨n, 0, A0, c0, A1, c1, by simp [hn], by simp [hn], hbox, by simpa [← hn] using hst, hsz⟩, hB⟩
          case round =>
            clear hbox hst hsz hB x0 x1 hfz
            obtain ⟨q, hq, rfl, ⟨n2, m2, A2, c2, A3, c3, hn2, hm2, hbox, hst, hsz⟩, hB⟩ := hrel
            have hfz := box_frozen hbox
            have x0 := box2_cell0 hbox
            have x1 := box2_cell1 hbox
            by_cases hlt : q < mm
            · have hg := hLx (n - q - 1) (by omega)
              have e1 : n - q = (n - q - 1) + 1 := by omega
              have hn3 : (L.take (n - q - 1)).length = n - q - 1 := by rw [List.length_take]; omega
              rw [e1, take_split hg] at hst
              clear e1
              obtain ⟨x, hx⟩ : ∃ x : Nat, (n : Int) - 1 - (q : Int) = (x : Int) := ⟨n - 1 - q, by omega⟩
              have hx2 : nm (n - n + (n - q - 1)) = nm x := by congr 1; omega
              obtain ⟨ad, rfl, e0⟩ := hN x (by omega)
              go_wp2_with (go_at_call 8; refine (undo_S hst ?qa ?qb ?qc).mono ?_; (case qa => omega); (case qb => simp; omega); (case qc => simp [oneG]); rintro e w5 ⟨g5, v5, rfl, G5, S5, B5⟩; have C5 := below_then hB hB.size B5; rw [← drop_split hg] at S5; replace S5 := S5.mono (Q := fun b => b ≠ w.heap.size) (fun b hb => by omega); replace G5 := G5.mono (Q := fun b => b ≠ w.heap.size) (fun b hb => by omega); obtain ⟨n4, hn4⟩ : ∃ n4, (L.take (n - q - 1)).length = n4 := ⟨_, rfl⟩; obtain ⟨m4, hm4⟩ : ∃ m4, (L.drop (n - q - 1)).reverse.length = m4 := ⟨_, rfl⟩; obtain ⟨A4, c4, A5, c5, rfl, l4, l5⟩ := S5.shape hn4 hm4)
              clear hfz x0 x1
              have D5 := below_alloc (Below.refl w5.heap.size w5) (.cells #[.slice A4 n4 c4, .slice A5 m4 c5] 27)
              obtain ⟨E5, k5, rfl, _⟩ := (G5.shape (n := 1) rfl)
              obtain ⟨a5, F5, j5, rfl, p5, _⟩ := GrR.head (p := turn1 (onePart (nm (n - n + (n - q - 1))))) (G5.below D5)
              have hi1 : (0 : Int) ≤ (x : Int) := (by omega)
              have hi2 : (x : Int) < (n : Int) := (by omega)
              have p6 : (w5.alloc (.cells #[.slice A4 n4 c4, .slice A5 m4 c5] 27)).cell? a5 = some (Value.string (nm (n - n + (n - q - 1)))) := p5
              rw [hx2] at p6
              clear p5
              have f0 := pw_cell_below (below_then C5 C5.size D5) e0
              go_quiet (fail)
              have z0 := cell_at (m := nq) rfl (box2_cell0 (heap_alloc_new w5 (.cells #[.slice A4 n4 c4, .slice A5 m4 c5] 27)))
              have z1 := cell_at (m := nq) rfl (box2_cell1 (heap_alloc_new w5 (.cells #[.slice A4 n4 c4, .slice A5 m4 c5] 27)))
              have hs5 := B5.size
              have hbox5 := (B5.block _ hsz).trans hbox
              have hbox6 := blk_at (m := nq) rfl ((D5.block _ (by omega)).trans hbox5)
              have hfz6 := box_frozen hbox6
              have x2 := box2_cell0 hbox6
              have x3 := box2_cell1 hbox6
              have F6 := below_at (m := nq) rfl (below_then C5 C5.size D5)
              have S6 := (S5.below D5).below (below_at (m := nq) rfl (Below.refl _ _))
              clear hbox5 D5 p6 f0 hx hx2 hst G5
              go_wp2
              go_roundw
              case rel =>
                have e2 : n - (q + 1) = n - q - 1 := by omega
                refine ⟨q + 1, by omega, by go_num, ?_, below_set (below_set F6 (by simp)) (by simp)⟩
                rw [e2]
                exact BoxS.put hbox6 hn4 hm4 S6
              case measure => simp [intOf]; omega
            · obtain rfl : q = mm := by omega
              go_wp2
              go_loopw [14] (fun i wr2 => ∃ p : Nat, p ≤ q ∧ i = .int .i64 p ∧ BoxS wr2 w.heap.size (L.take (n - p)) (L.drop (n - p)).reverse ∧ Below w.heap.size w wr2) (fun i _ => (intOf i).toNat)
              case atStart => exact ⟨q, Nat.le_refl _, rfl, ⟨n2, m2, A2, c2, A3, c3, hn2, hm2, hbox, hst, hsz⟩, hB⟩
              case round =>
                clear hbox hst hsz hB x0 x1 hfz hn2 hm2
                obtain ⟨p, hp, rfl, ⟨n3, m3, A4, c4, A5, c5, hn3, hm3, hbox, hst, hsz⟩, hB⟩ := hrel
                have hfz := box_frozen hbox
                have x0 := box2_cell0 hbox
                have x1 := box2_cell1 hbox
                by_cases hlt2 : 0 < p
                · have hg := hLx (n - p) (by omega)
                  have hl3 : (L.take (n - p)).length = n - p := by rw [List.length_take]; omega
                  rw [drop_split hg] at hst
                  have ht : topL (L.take (n - p)) (oneG (nm (n - n + (n - p)))) = L.take (n - p + 1) := by
                    rw [topL, hl3, take_split hg, show n - p + 1 - 8 = 0 by omega]; rfl
                  obtain ⟨x, hx⟩ : ∃ x : Nat, (n : Int) - (p : Int) = (x : Int) := ⟨n - p, by omega⟩
                  have hx2 : nm (n - n + (n - p)) = nm x := by congr 1; omega
                  obtain ⟨ad, rfl, e0⟩ := hN x (by omega)
                  go_wp2_with (go_at_call 9; refine (redo_S hst ?qa ?qb).mono ?_; (case qa => omega); (case qb => simp; omega); rintro e w5 ⟨g5, v5, rfl, G5, S5, B5⟩; have C5 := below_then hB hB.size B5; rw [ht] at S5; replace S5 := S5.mono (Q := fun b => b ≠ w.heap.size) (fun b hb => by omega); replace G5 := G5.mono (Q := fun b => b ≠ w.heap.size) (fun b hb => by omega); obtain ⟨n4, hn4⟩ : ∃ n4, (L.take (n - p + 1)).length = n4 := ⟨_, rfl⟩; obtain ⟨m4, hm4⟩ : ∃ m4, (L.drop (n - p + 1)).reverse.length = m4 := ⟨_, rfl⟩; obtain ⟨A6, c6, A7, c7, rfl, l6, l7⟩ := S5.shape hn4 hm4)
                  clear hfz x0 x1
                  have D5 := below_alloc (Below.refl w5.heap.size w5) (.cells #[.slice A6 n4 c6, .slice A7 m4 c7] 27)
                  obtain ⟨E5, k5, rfl, _⟩ := (G5.shape (n := 1) rfl)
                  obtain ⟨a5, F5, j5, rfl, p5, _⟩ := GrR.head (p := onePart (nm (n - n + (n - p)))) (G5.below D5)
                  have hi1 : (0 : Int) ≤ (x : Int) := (by omega)
                  have hi2 : (x : Int) < (n : Int) := (by omega)
                  have p6 : (w5.alloc (.cells #[.slice A6 n4 c6, .slice A7 m4 c7] 27)).cell? a5 = some (Value.string (nm (n - n + (n - p)))) := p5
                  rw [hx2] at p6
                  clear p5
                  have f0 := pw_cell_below (below_then C5 C5.size D5) e0
                  go_quiet (fail)
                  have z0 := cell_at (m := nq) rfl (box2_cell0 (heap_alloc_new w5 (.cells #[.slice A6 n4 c6, .slice A7 m4 c7] 27)))
                  have z1 := cell_at (m := nq) rfl (box2_cell1 (heap_alloc_new w5 (.cells #[.slice A6 n4 c6, .slice A7 m4 c7] 27)))
                  have hs5 := B5.size
                  have hbox5 := (B5.block _ hsz).trans hbox
                  have hbox6 := blk_at (m := nq) rfl ((D5.block _ (by omega)).trans hbox5)
                  have hfz6 := box_frozen hbox6
                  have x2 := box2_cell0 hbox6
                  have x3 := box2_cell1 hbox6
                  have F6 := below_at (m := nq) rfl (below_then C5 C5.size D5)
                  have S6 := (S5.below D5).below (below_at (m := nq) rfl (Below.refl _ _))
                  clear hbox5 D5 p6 f0 hx hx2 hst G5
                  go_wp2
                  go_roundw
                  case rel =>
                    have e2 : n - (p - 1) = n - p + 1 := by omega
                    refine ⟨p - 1, by omega, by go_num, ?_, below_set (below_set F6 (by simp)) (by simp)⟩
                    rw [e2]
                    exact BoxS.put hbox6 hn4 hm4 S6
                  case measure => simp [intOf]; omega
                · obtain rfl : p = 0 := by omega
                  have hr0 : (L.drop (n - 0)).reverse = [] := by simp [hn]
                  have hl0 : (L.take (n - 0)).length = n := by simp [hn]
                  rw [hr0] at hst hm3
                  have hm4 : m3 = 0 := by rw [← hm3]; rfl
                  have hn4 : n3 = n := by omega
                  subst hm4
                  rw [hn4] at hbox x0 hst
                  clear hr0 hn4 hn3 hm3
                  go_wp2_with (go_at_call 9; refine (redoN_S hst (by omega)).mono ?_; rintro e w5 ⟨v5, rfl, S5, B5⟩; have C5 := below_then hB hB.size B5; have hbox5 := (B5.block _ hsz).trans hbox; obtain ⟨A6, c6, A7, c7, rfl, l6, l7⟩ := S5.shape (n := n) (m := 0) hl0 rfl; have D5 := below_alloc (Below.refl w5.heap.size w5) (.cells #[.slice A6 n c6, .slice A7 0 c7] 27); have hs5 := B5.size; have hbox6 := (D5.block _ (by omega)).trans hbox5; have x2 := box2_cell0 hbox6; have x3 := box2_cell1 hbox6; have C6 := below_then C5 C5.size D5)
                  go_wp2_with (go_at_call 5; refine (lives_any _).mono ?_; rintro e w6 ⟨rfl, B6⟩; have C7 := below_then C6 C6.size B6)
                  go_ret
                  exact ⟨rfl, C7⟩
end Go.Proofs.Ytjihhflffkoffaa
