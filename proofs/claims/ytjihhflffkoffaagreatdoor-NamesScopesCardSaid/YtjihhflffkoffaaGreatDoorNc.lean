/- Contracts of functions of the program; no condition. -/
import Derived.Test.YtjihhflffkoffaaGreatDoorN1
import Derived.Test.YtjihhflffkoffaaGreatDoorLe
set_option linter.unusedSimpArgs false
set_option linter.unusedVariables false
set_option linter.unusedSectionVars false
set_option linter.unnecessarySimpa false
namespace Go.Proofs.YtjihhflffkoffaaGreatDoor.Z
open Go Go.Lm

theorem s163 (a b : List UInt8) (H : LHeap) : CallL cfg 163 [.str a, .str b] H (Ret (.int .i64 (cmpBytes a b)) H) :=
  e163 _ a b H fun hI => .mk hI.pres

theorem s79 (a b : List UInt8) (H : LHeap) : CallL cfg 79 [.str a, .str b] H (Ret (.int .i64 (cmpBytes a b)) H) := by
  refine e79 _ a b H fun hI => ⟨_, s163 a b H, Ret.use ⟨_, rfl⟩, fun n H1 ⟨e, p⟩ hI => ?_⟩
  cases e
  exact .mk hI.pres

def ncmp (s0 s1 s3 s4 : List UInt8) : Int := if cmpBytes s0 s3 = 0 then cmpBytes s1 s4 else cmpBytes s0 s3

theorem s22 (s0 s1 s2 s3 s4 s5 : List UInt8) (H : LHeap) : CallL cfg 22 [.agg [.str s0, .str s1, .str s2], .agg [.str s3, .str s4, .str s5]] H (Ret (.int .i64 (ncmp s0 s1 s3 s4)) H) := by
  refine e22 _ s0 s1 s2 s3 s4 s5 H fun i H1 j H2 hI => ⟨_, s79 s0 s3 H2, Ret.use ⟨_, rfl⟩, fun n H3 ⟨e, p⟩ => ⟨fun hn hI => ?_, fun hn hI => ⟨_, s79 s1 s4 H3, Ret.use ⟨_, rfl⟩, fun m H4 ⟨e', p'⟩ hI => ?_⟩⟩⟩
  · cases e
    have : ncmp s0 s1 s3 s4 = cmpBytes s0 s3 := by
      unfold ncmp
      rw [if_neg]
      simpa using hn
    rw [← this]
    exact .mk hI.pres
  · cases e
    cases e'
    have : ncmp s0 s1 s3 s4 = cmpBytes s1 s4 := by
      unfold ncmp
      rw [if_pos]
      simpa using hn
    rw [← this]
    exact .mk hI.pres

theorem s23 (s0 s1 s2 s3 s4 s5 : List UInt8) (H : LHeap) : CallL cfg 23 [.agg [.str s0, .str s1, .str s2], .agg [.str s3, .str s4, .str s5]] H (Ret (.int .i64 (ncmp s0 s1 s3 s4)) H) := by
  have key : ∀ (v : Int) (H' : LHeap), PresX [] H H' → v = ncmp s0 s1 s3 s4 → Ret (.int .i64 (ncmp s0 s1 s3 s4)) H (.int .i64 v) H' := fun v H' p e => by rw [e]; exact .mk p
  have c0 := cmp_vals s0 s3
  have c1 := cmp_vals s1 s4
  have z0 : ∀ {a b : List UInt8}, (a == b) = true → cmpBytes a b = 0 := fun h => by rw [eq_of_beq h]; exact cmp_self _
  have z1 : ∀ {a b : List UInt8}, (a == b) = false → cmpBytes a b ≠ 0 := fun h e => by rw [cmp_zero e] at h; simp at h
  have b0 : ∀ {a b : List UInt8}, Op.bytesLess a b = true → cmpBytes a b = -1 := fun h => by rw [cmp_less] at h; simpa using h
  have b1 : ∀ {a b : List UInt8}, Op.bytesLess a b = false → cmpBytes a b ≠ -1 := fun h => by rw [cmp_less] at h; simpa using h
  refine e23 _ s0 s1 s2 s3 s4 s5 H fun i H1 j H2 => ⟨fun h1 hI => key _ _ hI.pres ?_, fun h1 => ⟨fun h2 => ⟨fun h3 hI => key _ _ hI.pres ?_, fun h3 => ⟨fun h4 => ⟨fun h5 hI => key _ _ hI.pres ?_, fun h5 hI => key _ _ hI.pres ?_⟩, fun h4 hI => key _ _ hI.pres ?_⟩⟩, fun h2 => ⟨fun h4 => ?_, fun h4 hI => key _ _ hI.pres ?_⟩⟩⟩
  all_goals unfold ncmp
  · rw [b0 h1]; simp
  · rw [z0 h2, b0 h3]; simp
  · rw [z0 h2, z0 h5]; simp
  · rw [z0 h2]
    have := b1 h3
    have := z1 h5
    simp; omega
  · rw [h2] at h4; cases h4
  · rw [h2] at h4; cases h4
  · have := b1 h1
    have := z1 h2
    rw [if_neg (z1 h2)]
    omega

theorem ncmp_neg (s0 s1 s3 s4 : List UInt8) : ncmp s3 s4 s0 s1 = - ncmp s0 s1 s3 s4 := by
  unfold ncmp
  rw [cmp_neg s0 s3, cmp_neg s1 s4]
  split <;> split <;> omega

theorem ncmp_vals (s0 s1 s3 s4 : List UInt8) : ncmp s0 s1 s3 s4 = -1 ∨ ncmp s0 s1 s3 s4 = 0 ∨ ncmp s0 s1 s3 s4 = 1 := by
  unfold ncmp
  split
  · exact cmp_vals _ _
  · exact cmp_vals _ _

theorem s4 (s0 s1 s2 s3 s4 s5 : List UInt8) (H : LHeap) : CallL cfg 4 [.agg [.str s0, .str s1, .str s2], .agg [.str s3, .str s4, .str s5]] H (Ret (.bool true) H) := by
  refine e4 _ s0 s1 s2 s3 s4 s5 H fun i H1 j H2 => ⟨rfl, fun hI => ⟨_, s22 s0 s1 s2 s3 s4 s5 H2, Ret.use ⟨_, rfl⟩, fun n1 H3 ⟨e1, p1⟩ => ⟨rfl, fun hI => ⟨_, s23 s0 s1 s2 s3 s4 s5 H3, Ret.use ⟨_, rfl⟩, fun n2 H4 ⟨e2, p2⟩ => ⟨fun h => ⟨rfl, fun hI =>
    ⟨_, s22 s0 s1 s2 s3 s4 s5 H4, Ret.use ⟨_, rfl⟩, fun n3 H5 ⟨e3, p3⟩ => ⟨rfl, fun hI => ⟨_, s22 s3 s4 s5 s0 s1 s2 H5, Ret.use ⟨_, rfl⟩, fun n4 H6 ⟨e4, p4⟩ => ⟨fun h hI => .mk hI.pres, fun h hI => ?_⟩⟩⟩⟩⟩, fun h hI => ?_⟩⟩⟩⟩⟩
  · cases e3; cases e4
    have := ncmp_vals s0 s1 s3 s4
    rw [ncmp_neg s0 s1 s3 s4, lwrap_small (by omega) (by omega)] at h
    simp at h
  · cases e1; cases e2
    simp at h
end Go.Proofs.YtjihhflffkoffaaGreatDoor.Z
