/- Walk of undo.top: it returns the last eight groups of the stack with the new one; for stacks below a million groups. -/
import Derived.Test.YtjihhflffkoffaaUaMem
namespace Go.Proofs.Ytjihhflffkoffaa
open Go.RowKit Go.Proofs.YtjihhflffkoffaaW.PrintWords Go.Proofs.Ytjihhflffkoffaa.PUndoCloses
attribute [local go_sem] Go.Proofs.YtjihhflffkoffaaW.PrintMore.max2_int
theorem info29 : (Try.prog.info? 29).map (fun i => (i.zero, i.size, i.bytes)) = some (some (.slice none 0 0), 1, 24) := by kernel_rfl
def kG : Kd (List S36) := Kd.slice 36 k36
def topL (l0 : List (List S36)) (g : List S36) : List (List S36) := (l0 ++ [g]).drop (l0.length + 1 - 8)
theorem topL_len (l : List (List S36)) (g : List S36) : (topL l g).length = l.length + 1 - (l.length + 1 - 8) := by simp [topL]
theorem topL_le (l : List (List S36)) (g : List S36) : (topL l g).length ≤ 8 := by rw [topL_len]; omega
set_option maxHeartbeats 400000 in
theorem top_any (A0 : Option Addr) (c0 : Nat) (l0 : List (List S36)) (g : List S36) (A1 : Option Addr) (c1 : Nat) (P : Nat → Prop) (w : World) (h0 : l0.length ≤ c0) (h1 : g.length ≤ c1) (m0 : l0.length + 1 ≤ 1000000)
    (hl : Kd.F kG w P A0 l0.length l0) (hg : Kd.F k36 w P A1 g.length g) :
    Calls Try.prog 15 #[.slice A0 l0.length c0, .slice A1 g.length c1] w fun e w' => ∃ B c, e = .returned (.slice B (topL l0 g).length c) ∧ (topL l0 g).length ≤ c ∧ Kd.F kG w' (fun k => P k ∨ w.heap.size ≤ k) B (topL l0 g).length (topL l0 g) ∧ Below w.heap.size w w' := by
  obtain ⟨olds, ho1, ho2, ho3⟩ := F_inner hl
  obtain ⟨i0, hi, hz0, hz1, hz2⟩ := info_parts info29
  have hlo : olds.length = l0.length * 1 := ho1.1
  have hnone : A0 = none → l0.length = 0 ∧ l0.length = 0 := fun e => (by rw [ho2 e]; exact ⟨rfl, rfl⟩)
  clear ho2
  go_enter Try.func15, Try.ntmps15
  go_wp2_with (at_builtin; refine wpList_append_grows _ rfl _ _ 25 rfl 29 i0 (.slice none 0 0) 1 24 Try.underlying25 hi hz0 hz1 hz2 rfl (by decide) A0 l0.length l0.length olds rfl hnone hlo ?c0 ⟨w.heap.size, 0, none⟩ 1 1 [.slice A1 g.length c1] rfl rfl ?c1 ?c2 ?c3 ?c4 ?c5 ?c6)
  case c0 => exact fun b e j u hu => pw_cell_below (below_alloc (Below.refl _ _) _) (ho3 b e j u hu)
  case c1 => exact fun j u hu => cell_one_new _ _ _ j u hu
  case c2 => intro u hu; simp at hu; subst hu; rfl
  case c3 => omega
  case c4 => unfold maxLen; omega
  case c5 => omega
  case c6 =>
    intro v' w1 hown hgrow
    have hB : Below w.heap.size w w1 := (below_alloc (Below.refl _ _) _).grown hgrow (by simp) (fun k e => (by cases e))
    have hR : Reps (fun x c => Kd.FK kG w1 (fun k => P k ∨ w.heap.size ≤ k) x c) 1 (l0 ++ [g]) (olds ++ [.slice A1 g.length c1]) :=
      (Reps.imp_ ho1 (fun p c hp => Kd.FK_mono (Kd.FK_below hp hB) (fun k hk => .inl hk))).snoc (fun W' hW => ⟨A1, c1, rfl, h1, Kd.F_mono (Kd.F_below hg hB) (fun k hk => .inl hk) W' hW⟩) rfl
    obtain ⟨B, c, rfl, hc, hC⟩ := F_of_own (d := kG) (ok := fun k => P k ∨ w.heap.size ≤ k) hown hR (by simp) (fun k hk => .inr (by have := own_base hown k hk; omega))
    have hD := F_dropS (d := kG) (m := l0.length + 1 - 8) (c := c) (xs := l0 ++ [g]) (by simpa using hC) (by simp; omega) (by simpa using hc)
    have hlen := topL_len l0 g
    have hC2 := hC
    clear hown hgrow hlo ho3 hnone hR hC hl hg ho1
    by_cases hn : l0.length + 1 ≤ 8
    · have e0 : l0.length + 1 - 8 = 0 := by omega
      have el : (topL l0 g).length = l0.length + 1 := by omega
      go_wp2
      go_ret
      refine ⟨B, c, ?_, by omega, ?_, hB⟩
      · rw [el]; rfl
      · rw [el]; show Kd.F kG w1 _ B (l0.length + 1) ((l0 ++ [g]).drop (l0.length + 1 - 8)); rw [e0]; exact hC2
    · rw [if_neg (by omega), show kG.sz = 1 from rfl, Nat.mul_one] at hD
      go_wp2
      go_ret
      refine ⟨_, c - (l0.length + 1 - 8), ?_, by omega, hD, hB⟩
      rw [hlen]; rfl
end Go.Proofs.Ytjihhflffkoffaa
