/- Walk of undo.above inside a fence; for at most a million groups of at most a milliard parts. -/
import Derived.Test.YtjihhflffkoffaaUaAb
import Derived.RangeFuncBound
namespace Go.Proofs.Ytjihhflffkoffaa
open Go.RowKit Go.Shelf Go.Proofs.YtjihhflffkoffaaW.PrintWords Go.Proofs.Ytjihhflffkoffaa.PUndoCloses
attribute [local go_sem] Oper.semAt_some

/-- Group x of a stack. -/
def gd (l : List (List S36)) (x : Nat) : List S36 := l.getD x []
/-- What stands above the uppermost of the first n groups that has a part of the book. -/
def aboveN (l : List (List S36)) (book : ByteArray) : Nat → List (List S36)
  | 0 => l
  | n + 1 => if holdsB (gd l n) book = true then l.drop (n + 1) else aboveN l book n
def aboveL (l : List (List S36)) (book : ByteArray) : List (List S36) := aboveN l book l.length
theorem aboveN_skip (l : List (List S36)) (book : ByteArray) (m : Nat) : ∀ d, (∀ t, m ≤ t → t < m + d → holdsB (gd l t) book = false) → aboveN l book (m + d) = aboveN l book m
  | 0, _ => rfl
  | d + 1, h => by
    rw [← Nat.add_assoc, aboveN, if_neg (by rw [h (m + d) (by omega) (by omega)]; simp)]
    exact aboveN_skip l book m d (fun t h1 h2 => h t h1 (by omega))
theorem dn_mem {n j t : Nat} (h1 : n - j ≤ t) (h2 : t < n) : t ∈ dn n j := by
  simp only [dn, List.mem_map, List.mem_range]
  exact ⟨n - 1 - t, by omega, by omega⟩
theorem above_all (l : List (List S36)) (book : ByteArray) (h : ∀ y ∈ dn l.length l.length, holdsB (gd l y) book = false) : aboveL l book = l := by
  have := aboveN_skip l book 0 l.length (fun t _ h2 => h t (dn_mem (by omega) (by omega)))
  rw [Nat.zero_add] at this
  exact this
theorem above_hit (l : List (List S36)) (book : ByteArray) (init : List Nat) (x k : Nat) (hk : k ≤ l.length) (he : init ++ [x] = dn l.length k) (h : ∀ y ∈ init, holdsB (gd l y) book = false) (hx : holdsB (gd l x) book = true) : aboveL l book = l.drop (x + 1) ∧ x < l.length := by
  cases k with
  | zero => simp [dn] at he
  | succ k =>
    rw [dn_succ] at he
    obtain ⟨rfl, h2⟩ := List.append_inj' he rfl
    obtain rfl : x = l.length - 1 - k := by simpa using h2
    have e1 : l.length - 1 - k + 1 = l.length - k := by omega
    have := aboveN_skip l book (l.length - k) k (fun t h1 h2 => h t (dn_mem h1 (by omega)))
    rw [show l.length - k + k = l.length by omega] at this
    refine ⟨?_, by omega⟩
    unfold aboveL
    rw [this, ← e1, aboveN, if_pos hx]

theorem keeps_below {W W' : World} (h : Below W.heap.size W W') : KeepsOthers W W' := ⟨h.size, fun k _ hk _ => (h.block k (Array.getElem?_eq_some_iff.1 hk).1).trans hk⟩

theorem bw30_stops (F : Fence) (n : Nat) (h30 : F.fn 30) (hro : F.round = none) (hn : 1 ≤ n) (Bs n₀ len cap : Nat) (A : Option Addr) (c0 : Nat → Value) (hlen : len ≤ 1000000000) (w : World) (hBw : Bs < w.heap.size)
    (hBs : w.heap[Bs]? = some (.cells #[.slice A len cap] 25 (0, 0))) (hc : ∀ i, i < len → ∃ ad, A = some ad ∧ ad.block < n₀ ∧ w.cell? (ad.add i) = some (c0 i)) :
    SeqStopsK F n Try.prog 30 #[.pointer (some ⟨Bs, 0, none⟩)] (fun x : Fin len => #[.int .i64 (x.1 : Int), c0 x.1]) (KpB n₀ Bs) (fun ys => ys.map Fin.val = dn len len) (fun pre => ∃ k, k ≤ len ∧ pre.map Fin.val = dn len k) len w := fun l J Jx W hW _ _ hY h0 => by
  refine (bw30_in F n h30 hro hn l Bs n₀ len cap A c0 hlen (fun pre W => ∃ p : List (Fin len), p.map Fin.val = pre ∧ J p W) (fun pre W => ∃ p : List (Fin len), p.map Fin.val = pre ∧ Jx p W) ?_ W ((hW.block _ hBw).trans hBs) (fun i hi => ?_) ⟨[], rfl, h0⟩).mono ?_
  · rintro pre x W1 ⟨p, rfl, hj⟩ hl hx
    refine YieldAt.mono (hY p ⟨x, hx⟩ W1 hj (by simpa using hl)) ?_
    rintro e W' (⟨h1, h2, h3⟩ | ⟨h1, h2⟩)
    · exact .inl ⟨h1, ⟨p ++ [⟨x, hx⟩], by simp, h2⟩, h3⟩
    · exact .inr ⟨h1, ⟨p ++ [⟨x, hx⟩], by simp, h2⟩⟩
  · obtain ⟨ad, hA, hab, e0⟩ := hc i hi
    exact ⟨ad, hA, hab, pw_cell_below hW e0⟩
  · rintro e W' ⟨h1, ⟨ys, rfl, p, h2, h3⟩ | ⟨pre, ⟨k, hk, rfl⟩, p, h2, h3⟩⟩
    · exact ⟨h1, .inl ⟨p, h2, h3⟩⟩
    · exact ⟨h1, .inr ⟨p, ⟨k, hk, h2⟩, h3⟩⟩

/-- Of group x of a stack that is read: its value's cell, and what it reads as. -/
def CellG (w : World) (A : Option Addr) (l : List (List S36)) (x : Nat) (q : Option Addr × Nat) : Prop := ∃ ad, A = some ad ∧ w.cell? (ad.add x) = some (.slice q.1 (gd l x).length q.2)
theorem FG {w : World} {ok : Nat → Prop} {A : Option Addr} {n : Nat} {l : List (List S36)} (h : Kd.F kG w ok A n l) :
    ∃ q : Nat → Option Addr × Nat, ∀ x, x < n → CellG w A l x (q x) ∧ (gd l x).length ≤ (q x).2 ∧ Kd.F k36 w ok (q x).1 (gd l x).length (gd l x) := by
  refine Go.Deep.choose_lt (α := Option Addr × Nat) (p := fun x y => CellG w A l x y ∧ (gd l x).length ≤ y.2 ∧ Kd.F k36 w ok y.1 (gd l x).length (gd l x)) (fun x hx => ?_)
  obtain ⟨ad, B, c, hA, hc, h1, h2⟩ := F_elem h x hx
  exact ⟨(B, c), ⟨ad, hA, hc⟩, h1, h2⟩

set_option maxRecDepth 100000 in
set_option maxHeartbeats 4000000 in
theorem above_in (F : Fence) (n : Nat) (hcw : ∀ {m : Nat} {f : FuncId} {args : Array Value} {w : World} {R : Ending → World → Prop}, Calls Try.prog f args w R → CallsIn F m Try.prog f args w R) (h17 : F.fn 17) (h21 : F.fn 21) (h22 : F.fn 22) (h30 : F.fn 30) (hro : F.round = none) (hn : 3 ≤ n) (A : Option Addr) (cap : Nat) (l : List (List S36)) (book : ByteArray) (q : Nat → Option Addr × Nat) (P : Nat → Prop) (w : World) (hcap : l.length ≤ cap) (hlen : l.length ≤ 1000000)
    (hq : ∀ x, x < l.length → CellG w A l x (q x) ∧ (gd l x).length ≤ (q x).2 ∧ Kd.F k36 w P (q x).1 (gd l x).length (gd l x)) (hg : ∀ x, (gd l x).length ≤ 1000000000) :
    CallsIn F n Try.prog 17 #[.slice A l.length cap, .string book] w fun e W' => ∃ m B, e = .returned (.slice B (l.length - m) (l.length - m)) ∧ m ≤ l.length ∧ aboveL l book = l.drop m ∧ B = (if l.length = m then A else A.map (·.add (m * 1))) ∧ Below w.heap.size w W' := by
  have h1 : 1 ≤ n := by omega
  refine callsIn_of_wp_marks Try.func17 rfl h17 ?_ hro
  simp only [Try.ntmps17, List.size_toArray, List.length_cons, List.length_nil, Nat.reduceAdd, Nat.reduceSub, Array.replicate_succ, Array.replicate_zero, List.push_toArray, List.append_toArray, List.nil_append, List.cons_append]
  gi_wp2_with (gi_at_call 21; refine (bw21_in F (n - 1) h21 hro _ _ _ _).mono ?_; rintro e w' ⟨rfl, rfl⟩)
  obtain ⟨W0, hW0⟩ : ∃ W0, (((w.alloc (.cells #[.slice A l.length cap] 25)).alloc (.cells #[.string book] 9)).alloc (.cells #[.slice none 0 0] 25)).alloc (.cells #[.slice A l.length cap] 25) = W0 := ⟨_, rfl⟩
  have bL : Boxed W0 w.heap.size 25 (.slice A l.length cap) := by rw [← hW0]; exact (((Boxed.new w 25 _).alloc _).alloc _).alloc _
  have bK : Boxed W0 (w.heap.size + 1) 9 (.string book) := by
    have := Boxed.new (w.alloc (.cells #[.slice A l.length cap] 25)) 9 (.string book)
    rw [World.size_alloc] at this
    rw [← hW0]; exact (this.alloc _).alloc _
  have bR : Boxed W0 (w.heap.size + 1 + 1) 25 (.slice none 0 0) := by
    have := Boxed.new ((w.alloc (.cells #[.slice A l.length cap] 25)).alloc (.cells #[.string book] 9)) 25 (.slice none 0 0)
    rw [World.size_alloc, World.size_alloc] at this
    rw [← hW0]; exact this.alloc _
  have bB : Boxed W0 (w.heap.size + 1 + 1 + 1) 25 (.slice A l.length cap) := by
    have := Boxed.new (((w.alloc (.cells #[.slice A l.length cap] 25)).alloc (.cells #[.string book] 9)).alloc (.cells #[.slice none 0 0] 25)) 25 (.slice A l.length cap)
    rw [World.size_alloc, World.size_alloc, World.size_alloc] at this
    rw [← hW0]; exact this
  have hB0 : Below w.heap.size w W0 := by rw [← hW0]; exact below_alloc (below_alloc (below_alloc (below_alloc (Below.refl _ _) _) _) _) _
  have hsz : W0.heap.size = w.heap.size + 4 := by rw [← hW0]; simp
  rw [hW0]
  clear hW0
  refine wpIn_rangeFunc_ownG hro h1 (gf := 30) (lb := #[.pointer (some ⟨w.heap.size + 1 + 1 + 1, 0, none⟩)]) rfl h30 (enters_of Try.func30 (by kernel_rfl) rfl)
    (bw30_stops F (n - 1) h30 hro (by omega) (w.heap.size + 1 + 1 + 1) w.heap.size l.length cap A (fun x => .slice (q x).1 (gd l x).length (q x).2) (by omega) W0 (by omega) bB (fun i hi => ?elems))
    (fun h k => h.trans k) (kpB_b (by omega) (by omega)) (Below.refl _ _) (fun _ => rfl)
    (fun pre W => ((∀ y ∈ pre, holdsB (gd l y.1) book = false) ∧ Boxed W w.heap.size 25 (.slice A l.length cap) ∧ Boxed W (w.heap.size + 1) 9 (.string book) ∧ Boxed W (w.heap.size + 1 + 1) 25 (.slice none 0 0) ∧ Boxed W (w.heap.size + 1 + 1 + 1) 25 (.slice A l.length cap)) ∧ Below w.heap.size w W)
    (fun c pre W => (∃ init x, c = .ret ∧ pre = init ++ [x] ∧ (∀ y ∈ init, holdsB (gd l y.1) book = false) ∧ holdsB (gd l x.1) book = true ∧ Boxed W (w.heap.size + 1 + 1) 25 (.slice (if l.length = x.1 + 1 then A else A.map (·.add ((x.1 + 1) * 1))) (l.length - (x.1 + 1)) (l.length - (x.1 + 1)))) ∧ Below w.heap.size w W)
    ?hI ?hIx ⟨⟨by simp, bL, bK, bR, bB⟩, hB0⟩
    (fun x : Fin l.length => { tmps := #[.slice A l.length cap, .string book, .pointer (some ⟨w.heap.size, 0, none⟩), .pointer (some ⟨w.heap.size + 1, 0, none⟩), .pointer (some ⟨w.heap.size + 1 + 1, 0, none⟩), .int .i64 (x.1 : Int), .slice (q x.1).1 (gd l x.1).length (q x.1).2, .slice A l.length cap, .func (.func 30) #[] #[.pointer (some ⟨w.heap.size + 1 + 1 + 1, 0, none⟩)], .int .i64 (x.1 : Int), .slice (q x.1).1 (gd l x.1).length (q x.1).2, undef, undef, undef, undef, undef, undef, undef, undef, undef, undef, undef, undef, undef, undef, undef, undef, undef], defers := [] }) ?assign ?body ?done ?stop
  case elems =>
    obtain ⟨ad, hA, e0⟩ := (hq i hi).1
    have hab : ad.block < w.heap.size := by have := World.block_lt_of_cell? w _ e0; rwa [add_block] at this
    exact ⟨ad, hA, hab, pw_cell_below hB0 e0⟩
  case hI =>
    refine OwnFrom.and (fun s X Y row hs hg hr => ⟨hs.1, ?_, ?_, ?_, ?_⟩) (ownFrom_below (Nat.le_refl _) (by omega))
    · exact boxed_own _ 25 (fun (_ : Unit) => Value.slice A l.length cap) () X Y row hs.2.1 hg (fun r e => (hr r e).2)
    · exact boxed_own _ 9 (fun (_ : Unit) => Value.string book) () X Y row hs.2.2.1 hg (fun r e => (hr r e).2)
    · exact boxed_own _ 25 (fun (_ : Unit) => Value.slice none 0 0) () X Y row hs.2.2.2.1 hg (fun r e => (hr r e).2)
    · exact boxed_own _ 25 (fun (_ : Unit) => Value.slice A l.length cap) () X Y row hs.2.2.2.2 hg (fun r e => (hr r e).2)
  case hIx =>
    refine fun c => OwnFrom.and (fun s X Y row hs hg hr => ?_) (ownFrom_below (Nat.le_refl _) (by omega))
    obtain ⟨init, x, h1, h2, h3, h4, h5⟩ := hs
    exact ⟨init, x, h1, h2, h3, h4, boxed_own _ 25 (fun (_ : Unit) => _) () X Y row h5 hg (fun r e => (hr r e).2)⟩
  case assign =>
    intro lp x W K hK
    gi_wp2
    exact hK
  case body =>
    rintro lp pre ⟨x, hxl⟩ W ⟨⟨hp, hL, hK, hR, hBx⟩, hB⟩ hlt
    have cL := hL.cell
    have cK := hK.cell
    have cR := hR.cell
    have fR := hR.frozen
    obtain ⟨⟨ad, hA, _⟩, hqc, hqF⟩ := hq x hxl
    subst hA
    obtain ⟨q2, hq2⟩ := F36 (Kd.F_below hqF hB)
    have hgx := hg x
    have h1' : 1 ≤ n - 1 - 1 := by omega
    by_cases hh : holdsB (gd l x) book = true
    · by_cases hend : l.length = x + 1
      all_goals
        gi_wp2_with (gi_at_call 22; refine (CallsIn.inRound lp (hcw (c22 _ _ (gd l x) book q2 (w.heap.size + 1) _ hgx cK hK.lt (fun y hy => (hq2 y hy).1)))).mono ?_; rintro e w1 ⟨rfl, hb1⟩; have hL1 : Boxed w1 w.heap.size 25 _ := (hb1.block _ hL.lt).trans hL; have hR1 : Boxed w1 (w.heap.size + 1 + 1) 25 _ := (hb1.block _ hR.lt).trans hR; have cL1 := hL1.cell; have cR1 := hR1.cell; have fR1 := hR1.frozen)
        refine ⟨((keeps_below hb1).trans (KeepsOthers.setCell _ _ _)).from _, ⟨pre, ⟨x, hxl⟩, rfl, rfl, hp, hh, ?_⟩, (hB.trans (hb1.mono hB.size)).setCell (p := ⟨w.heap.size + 1 + 1, 0, none⟩) (by simp; omega) _⟩
        first
          | (rw [if_pos hend, show l.length - (x + 1) = 0 by omega]; exact hR1.set _)
          | (rw [if_neg hend, Nat.mul_one]; exact hR1.set _)
    · rw [Bool.not_eq_true] at hh
      gi_wp2_with (gi_at_call 22; refine (CallsIn.inRound lp (hcw (c22 _ _ (gd l x) book q2 (w.heap.size + 1) _ hgx cK hK.lt (fun y hy => (hq2 y hy).1)))).mono ?_; rintro e w1 ⟨rfl, hb1⟩)
      have hb1' : Below w.heap.size W w1 := hb1.mono hB.size
      exact ⟨(keeps_below hb1).from _, ⟨hb1', hb1.block _ hBx.lt⟩, ⟨fun y hy => (List.mem_append.1 hy).elim (hp y) (fun hy => by simp at hy; subst hy; exact hh), (hb1.block _ hL.lt).trans hL, (hb1.block _ hK.lt).trans hK, (hb1.block _ hR.lt).trans hR, (hb1.block _ hBx.lt).trans hBx⟩, hB.trans hb1'⟩
  case done =>
    rintro D ys W hD hys ⟨⟨hp, hL, hK, hR, hBx⟩, hB⟩ hKD
    have cL := hL.cell
    have cR := hR.cell
    have fR := hR.frozen
    have hall : aboveL l book = l := above_all l book (fun y hy => by
      rw [← hys, List.mem_map] at hy
      obtain ⟨z, hz, rfl⟩ := hy
      exact hp z hz)
    have Hall := Lib.hid hall
    clear hall
    gi_wp2
    have hK' := (KeepsOthers.setCell W ⟨w.heap.size + 1 + 1, 0, none⟩ (.slice A l.length l.length)).same D _ hKD rfl
    refine ⟨by simp, .inl ⟨_, _, rfl, run_takeDeferred hK', ?_⟩⟩
    have hc5 := cell_kept (World.cell?_setCell_same' W ⟨w.heap.size + 1 + 1, 0, none⟩ (.slice A l.length l.length) (by rw [cR]; rfl)) (grownBy_putObj' _ D (.deferred none)) (fun r e => by cases e; exact ⟨_, hK', rfl⟩)
    refine ⟨.slice A l.length l.length, by simp [results, Try.f17, go_sem, hc5], 0, A, rfl, Nat.zero_le _, by rw [Hall.out]; rfl, by simp [Addr.add], (hB.setCell (p := ⟨w.heap.size + 1 + 1, 0, none⟩) (by simp; omega) _).trans (belowK_b (w := w) (Nat.le_refl _) _ D _ _ (by omega) hK' rfl rfl)⟩
  case stop =>
    rintro D c pre W hD ⟨k, hk, hpre⟩ ⟨⟨init, x, rfl, rfl, hf, hx, hR⟩, hB⟩ hKD
    have cR := hR.cell
    obtain ⟨ha, hxl⟩ := above_hit l book (init.map Fin.val) x.1 k hk (by rw [← hpre]; simp) (fun y hy => by
      rw [List.mem_map] at hy
      obtain ⟨z, hz, rfl⟩ := hy
      exact hf z hz) hx
    have Ha := Lib.hid ha
    clear ha
    gi_wp2
    refine ⟨by simp, .inl ⟨_, _, rfl, run_takeDeferred hKD, ?_⟩⟩
    have hc5 := cell_kept cR (grownBy_putObj' _ D (.deferred none)) (fun r e => by cases e; exact ⟨_, hKD, rfl⟩)
    refine ⟨.slice (if l.length = x.1 + 1 then A else A.map (·.add ((x.1 + 1) * 1))) (l.length - (x.1 + 1)) (l.length - (x.1 + 1)), by simp [results, Try.f17, go_sem, hc5], x.1 + 1, _, rfl, by omega, Ha.out, rfl, hB.trans (belowK_b (w := w) (Nat.le_refl _) W D _ _ (by omega) hKD rfl rfl)⟩
end Go.Proofs.Ytjihhflffkoffaa
