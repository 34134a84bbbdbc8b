/- Plain laws on read slices and their footprints; no condition. -/
import Derived.Test.YtjihhflffkoffaaPUndoClosesx0
import Derived.StillTailTactics
import Derived.Outline
import Derived.BigRegion
import Derived.Deep.DeepMust
namespace Go.Proofs.Ytjihhflffkoffaa
open Go.RowKit Go.Proofs.YtjihhflffkoffaaW.PrintWords Go.Proofs.Ytjihhflffkoffaa.PUndoCloses

theorem F_inner {α : Type} {d : Kd α} {w : World} {ok : Nat → Prop} {A : Option Addr} {n : Nat} {xs : List α} (h : Kd.F d w ok A n xs) :
    ∃ inner, Reps (fun x c => Kd.FK d w ok x c) d.sz xs inner ∧ (A = none → xs = []) ∧ ∀ b, A = some b → ∀ j u, inner[j]? = some u → w.cell? (b.add j) = some u := by
  have h' := Kd.F_rows h
  cases A with
  | some ad =>
    obtain ⟨inner, hr, hc⟩ := ReadsRow.inner_ h'
    exact ⟨inner, hr, fun e => (by cases e), fun b e => (by injection e with e; subst e; exact hc)⟩
  | none =>
    have hx : xs = [] := by
      rcases Nat.eq_zero_or_pos n with h0 | h0
      · exact List.eq_nil_of_length_eq_zero (h'.1.trans h0)
      · obtain ⟨ad, e, _⟩ := h'.2.2 h0
        cases e
    subst hx
    exact ⟨[], Reps.none _ _, fun _ => rfl, fun b e => (by cases e)⟩

theorem F_of_own {α : Type} {d : Kd α} {w : World} {base n : Nat} {ok : Nat → Prop} {e : TypeId} {v : Value} {xs : List α} {cs : List Value} (h : w.ownsRow base e d.sz v n cs) (hR : Reps (fun x c => Kd.FK d w ok x c) d.sz xs cs) (hn : xs.length = n) (hv : ∀ k, v.ownBlock = some k → ok k) :
    ∃ A c, v = .slice A n c ∧ n ≤ c ∧ Kd.F d w ok A n xs := by
  obtain ⟨A, c, rfl, hr⟩ := own_reads_row h hR hn
  refine ⟨A, c, rfl, own_le h, fun W' hW => ?_⟩
  have h2 : W'.ownsRow base e d.sz (.slice A n c) n cs := own_move h (fun k hk => hW k (hv k hk) (own_lt h k hk))
  obtain ⟨A', c', e', hr'⟩ := own_reads_row h2 (Reps.imp_ hR (fun x c hx => hx W' hW)) hn
  injection e' with e1 e2 e3
  subst e1
  exact hr'

theorem F_dropS {α : Type} {d : Kd α} {w : World} {ok : Nat → Prop} {A : Option Addr} {xs : List α} {m c : Nat} (h : Kd.F d w ok A xs.length xs) (hm : m ≤ xs.length) (hc : xs.length ≤ c) : Kd.F d w ok (if c = m then A else A.map (·.add (m * d.sz))) (xs.drop m).length (xs.drop m) :=
  Kd.F_imp h (fun _ h => Kd.C_drop h hm hc)
theorem F_takeS {α : Type} {d : Kd α} {w : World} {ok : Nat → Prop} {A : Option Addr} {xs : List α} {m : Nat} (h : Kd.F d w ok A xs.length xs) (hm : m ≤ xs.length) : Kd.F d w ok A (xs.take m).length (xs.take m) :=
  Kd.F_imp h (fun _ h => Kd.C_take h hm)
/-- An element that is a slice, read behind a footprint. -/
theorem F_elem {α : Type} {d : Kd α} {e : Nat} {w : World} {ok : Nat → Prop} {A : Option Addr} {n : Nat} {xs : List (List α)} (h : Kd.F (Kd.slice e d) w ok A n xs) (i : Nat) (hi : i < n) :
    ∃ ad B c, A = some ad ∧ w.cell? (ad.add i) = some (.slice B (xs.getD i []).length c) ∧ (xs.getD i []).length ≤ c ∧ Kd.F d w ok B (xs.getD i []).length (xs.getD i []) := by
  obtain ⟨ad, cs, hA, hlen, hK, hcell⟩ := (Kd.F_rows h).get_ [] i (by omega) (by omega)
  rw [Int.toNat_natCast] at hK hcell
  obtain ⟨B, c, rfl, hc, hC⟩ := Kd.FK_now hK
  refine ⟨ad, B, c, hA, ?_, hc, fun W' hW => ?_⟩
  · have := hcell 0 _ rfl
    rwa [show (Kd.slice e d).sz = 1 from rfl, Nat.mul_one, Nat.add_zero] at this
  · obtain ⟨B', c', e', _, hC'⟩ := hK W' hW
    injection e' with e'
    injection e' with e1 e2 e3
    subst e1
    exact hC'
theorem bcell {W w1 : World} (hb : Below W.heap.size W w1) : (∀ b o, b < W.heap.size → w1.cell? ⟨b, o, none⟩ = W.cell? ⟨b, o, none⟩) ∧ (∀ b o, b < W.heap.size → w1.frozen? ⟨b, o, none⟩ = W.frozen? ⟨b, o, none⟩) :=
  ⟨fun b o h => hb.cell (p := ⟨b, o, none⟩) h, fun b o h => hb.frozen (p := ⟨b, o, none⟩) h⟩
theorem below_of_grown {W w1 : World} (hg : W.grownBy w1 none) : Below W.heap.size W w1 := (Below.refl _ _).grown hg (Nat.le_refl _) (fun k e => (by cases e))
end Go.Proofs.Ytjihhflffkoffaa
