/- The walks of the stacks over values that read as stacks; conditions as in the walks. -/
import Derived.Test.YtjihhflffkoffaaUaLv
namespace Go.Proofs.Ytjihhflffkoffaa
open Go.RowKit Go.Shelf Go.Proofs.YtjihhflffkoffaaW.PrintWords Go.Proofs.Ytjihhflffkoffaa.PUndoCloses

/-- The stacks' value, its shape alone. -/
theorem StR.shape {w : World} {P : Nat → Prop} {v : Value} {us rs : List (List S36)} (h : StR w P v us rs) {n m : Nat} (hn : us.length = n) (hm : rs.length = m) :
    ∃ A0 c0 A1 c1, v = .agg #[.slice A0 n c0, .slice A1 m c1] ∧ n ≤ c0 ∧ m ≤ c1 := by
  obtain ⟨A0, c0, A1, c1, rfl, h0, h1, _, _⟩ := h.out
  subst hn; subst hm
  exact ⟨A0, c0, A1, c1, rfl, h0, h1⟩
theorem GrR.shape {w : World} {P : Nat → Prop} {v : Value} {g : List S36} (h : GrR w P v g) {n : Nat} (hn : g.length = n) :
    ∃ B c, v = .slice B n c ∧ n ≤ c := by
  obtain ⟨B, c, rfl, h0, _⟩ := h
  subst hn
  exact ⟨B, c, rfl, h0⟩
theorem GrR.below {w w1 : World} {P : Nat → Prop} {v : Value} {g : List S36} (h : GrR w P v g) (hb : Below w.heap.size w w1) : GrR w1 P v g := by
  obtain ⟨B, c, rfl, h0, h1⟩ := h
  exact ⟨B, c, rfl, h0, Kd.F_below h1 hb⟩
theorem GrR.mono {w : World} {P Q : Nat → Prop} {v : Value} {g : List S36} (h : GrR w P v g) (hq : ∀ k, P k → Q k) : GrR w Q v g := by
  obtain ⟨B, c, rfl, h0, h1⟩ := h
  exact ⟨B, c, rfl, h0, Kd.F_mono h1 hq⟩
theorem GrR.far {w : World} {P : Nat → Prop} {v : Value} {g : List S36} (h : GrR w P v g) {p : Addr} (hok : ∀ k, P k → k ≠ p.block) (u : Value) : GrR (w.setCell p u) P v g := by
  obtain ⟨B, c, rfl, h0, h1⟩ := h
  exact ⟨B, c, rfl, h0, Kd.F_far h1 hok u⟩
/-- A group of one part: the cells that are read of it. -/
theorem GrR.head {w : World} {P : Nat → Prop} {p : S36} {c0 : Nat} {B : Option Addr} (h : GrR w P (.slice B 1 c0) [p]) :
    ∃ ad A c, B = some ad ∧ w.cell? ad = some (.string p.f0) ∧ w.cell? ⟨ad.block, ad.off + 2, none⟩ = some (.slice A p.f2.length c) := by
  obtain ⟨B', c, he, h0, h1⟩ := h
  injection he with e1 e2 e3
  subst e1
  obtain ⟨q, hq⟩ := F36 h1
  obtain ⟨⟨ad, rfl, a1, a2, a3⟩, _⟩ := hq 0 (by simp)
  exact ⟨ad, _, _, rfl, a1, a3⟩

/-- A footprint is of blocks that are. -/
theorem F_bound {α : Type} {d : Kd α} {w : World} {P : Nat → Prop} {A : Option Addr} {n : Nat} {xs : List α} (h : Kd.F d w P A n xs) : Kd.F d w (fun k => P k ∧ k < w.heap.size) A n xs :=
  fun W' hW => h W' (fun k hk hl => hW k ⟨hk, hl⟩ hl)
theorem StR.bound {w : World} {P : Nat → Prop} {v : Value} {us rs : List (List S36)} (h : StR w P v us rs) : StR w (fun k => P k ∧ k < w.heap.size) v us rs := by
  obtain ⟨A0, c0, A1, c1, rfl, h0, h1, h2, h3⟩ := h.out
  exact ⟨⟨A0, c0, A1, c1, rfl, h0, h1, F_bound h2, F_bound h3⟩⟩
theorem GrR.bound {w : World} {P : Nat → Prop} {v : Value} {g : List S36} (h : GrR w P v g) : GrR w (fun k => P k ∧ k < w.heap.size) v g := by
  obtain ⟨B, c, rfl, h0, h1⟩ := h
  exact ⟨B, c, rfl, h0, F_bound h1⟩
theorem lax {P : Nat → Prop} {n : Nat} : ∀ k, (P k ∧ k < n) ∨ n ≤ k → P k ∨ n ≤ k := fun _ h => h.imp (·.1) id

theorem one_S (b : ByteArray) (w : World) :
    Calls Try.prog 7 #[.string b] w fun e w' => ∃ gv, e = .returned gv ∧ GrR w' (fun k => w.heap.size ≤ k) gv (oneG b) ∧ Below w.heap.size w w' :=
  (one_any b w).mono fun _ _ ⟨A, c, he, h1, h2, h3⟩ => ⟨_, he, ⟨A, c, rfl, h1, h2⟩, h3⟩
theorem push_S {v gv : Value} {us rs : List (List S36)} {g : List S36} {P : Nat → Prop} {w : World} (hv : StR w P v us rs) (hg : GrR w P gv g) (m0 : us.length ≤ 100000) (m1 : rs.length ≤ 100000) :
    Calls Try.prog 6 #[v, gv] w fun e w' => ∃ v', e = .returned v' ∧ StR w' (fun k => P k ∨ w.heap.size ≤ k) v' (pushU us g) (pushR rs g) ∧ Below w.heap.size w w' := by
  obtain ⟨A0, c0, A1, c1, rfl, h0, h1, h2, h3⟩ := hv.bound.out
  obtain ⟨B, c, rfl, h4, h5⟩ := hg.bound
  exact (push_any A0 c0 us A1 c1 rs B c g _ w h0 h1 h4 m0 m1 (fun _ h => h.2) h2 h3 h5).mono fun _ _ ⟨v', e, a, b⟩ => ⟨v', e, a.mono lax, b⟩
theorem undoN_S {v : Value} {rs : List (List S36)} {P : Nat → Prop} {w : World} (hv : StR w P v [] rs) (m1 : rs.length ≤ 100000) :
    Calls Try.prog 8 #[v] w fun e w' => ∃ v', e = .returned (.tuple #[.slice none 0 0, v', .int .i64 11]) ∧ StR w' (fun k => P k ∨ w.heap.size ≤ k) v' [] rs ∧ Below w.heap.size w w' := by
  obtain ⟨A0, c0, A1, c1, rfl, h0, h1, h2, h3⟩ := hv.bound.out
  exact (undo_none A0 c0 A1 c1 rs _ w h1 m1 (fun _ h => h.2) h3).mono fun _ _ ⟨v', e, a, b⟩ => ⟨v', e, a.mono lax, b⟩
theorem undo_S {v : Value} {u rs : List (List S36)} {g : List S36} {P : Nat → Prop} {w : World} (hv : StR w P v (u ++ [g]) rs) (m0 : u.length ≤ 100000) (m1 : rs.length ≤ 100000) (mg : g.length ≤ 1000000) :
    Calls Try.prog 8 #[v] w fun e w' => ∃ gv v', e = .returned (.tuple #[gv, v', .int .i64 0]) ∧ GrR w' (fun k => P k ∨ w.heap.size ≤ k) gv (turned g) ∧ StR w' (fun k => P k ∨ w.heap.size ≤ k) v' u (rs ++ [g]) ∧ Below w.heap.size w w' := by
  obtain ⟨A0, c0, A1, c1, rfl, h0, h1, h2, h3⟩ := hv.bound.out
  have hl : (u ++ [g]).length = u.length + 1 := by simp
  have := undo_some A0 c0 u g A1 c1 rs _ w (by omega) h1 m0 m1 mg (fun _ h => h.2) h2 h3
  rw [← hl] at this
  exact this.mono fun _ _ ⟨gv, v', e, a, b, c⟩ => ⟨gv, v', e, a.mono lax, b.mono lax, c⟩
theorem redoN_S {v : Value} {us : List (List S36)} {P : Nat → Prop} {w : World} (hv : StR w P v us []) (m0 : us.length ≤ 100000) :
    Calls Try.prog 9 #[v] w fun e w' => ∃ v', e = .returned (.tuple #[.slice none 0 0, v', .int .i64 11]) ∧ StR w' (fun k => P k ∨ w.heap.size ≤ k) v' us [] ∧ Below w.heap.size w w' := by
  obtain ⟨A0, c0, A1, c1, rfl, h0, h1, h2, h3⟩ := hv.bound.out
  exact (redo_none A0 c0 us A1 c1 _ w h0 m0 (fun _ h => h.2) h2).mono fun _ _ ⟨v', e, a, b⟩ => ⟨v', e, a.mono lax, b⟩
theorem redo_S {v : Value} {us r : List (List S36)} {g : List S36} {P : Nat → Prop} {w : World} (hv : StR w P v us (r ++ [g])) (m0 : us.length ≤ 100000) (m1 : r.length ≤ 100000) :
    Calls Try.prog 9 #[v] w fun e w' => ∃ gv v', e = .returned (.tuple #[gv, v', .int .i64 0]) ∧ GrR w' (fun k => P k ∨ w.heap.size ≤ k) gv g ∧ StR w' (fun k => P k ∨ w.heap.size ≤ k) v' (topL us g) r ∧ Below w.heap.size w w' := by
  obtain ⟨A0, c0, A1, c1, rfl, h0, h1, h2, h3⟩ := hv.bound.out
  have hl : (r ++ [g]).length = r.length + 1 := by simp
  have := redo_some A0 c0 us A1 c1 r g _ w h0 (by omega) m0 m1 (fun _ h => h.2) h2 h3
  rw [← hl] at this
  exact this.mono fun _ _ ⟨gv, v', e, a, b, c⟩ => ⟨gv, v', e, a.mono lax, b.mono lax, c⟩
theorem close_S {v : Value} {us rs : List (List S36)} (book : ByteArray) {P : Nat → Prop} {w : World} (hv : StR w P v us rs) (m0 : us.length ≤ 100000) (m1 : rs.length ≤ 100000) (s0 : Short us) (s1 : Short rs) :
    Calls Try.prog 11 #[v, .string book] w fun e w' => ∃ v', e = .returned v' ∧ StR w' P v' (aboveL us book) (aboveL rs book) ∧ Below w.heap.size w w' := by
  obtain ⟨A0, c0, A1, c1, rfl, h0, h1, h2, h3⟩ := hv.bound.out
  exact (close_any A0 c0 us A1 c1 rs book _ w h0 h1 m0 m1 s0 s1 (fun _ h => h.2) h2 h3).mono fun _ _ ⟨v', e, a, b⟩ => ⟨v', e, a.mono (fun _ h => h.1), b⟩
theorem StR.nil (w : World) (P : Nat → Prop) : StR w P (.agg #[.slice none 0 0, .slice none 0 0]) [] [] :=
  ⟨⟨none, 0, none, 0, rfl, Nat.le_refl _, Nat.le_refl _, F_zero _ _ _ _, F_zero _ _ _ _⟩⟩
end Go.Proofs.Ytjihhflffkoffaa
