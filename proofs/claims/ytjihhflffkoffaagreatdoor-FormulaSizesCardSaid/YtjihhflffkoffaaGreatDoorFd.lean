/- Contracts of functions of the program; no condition. -/
import Derived.Test.YtjihhflffkoffaaGreatDoorFc
import Derived.Test.YtjihhflffkoffaaGreatDoorWy
set_option linter.unusedSimpArgs false
set_option linter.unusedVariables false
set_option linter.unusedSectionVars false
set_option linter.unnecessarySimpa false
namespace Go.Proofs.YtjihhflffkoffaaGreatDoor.Z
open Go Go.Lm
set_option maxRecDepth 100000

mutual
def deepF : Nd → Int → Bool
  | .mk x l, k => if k < 1 then false else shapeF x && deepFs l (k - 1)
def deepFs : List Nd → Int → Bool
  | [], _ => true
  | n :: l, k => deepF n k && deepFs l k
end

mutual
theorem deepF_mono : ∀ (n : Nd) (k j : Int), k ≤ j → deepF n k = true → deepF n j = true
  | .mk x l, k, j, h, hk => by
    unfold deepF at hk ⊢
    split at hk
    · cases hk
    · rw [if_neg (by omega)]
      simp only [Bool.and_eq_true] at hk ⊢
      exact ⟨hk.1, deepFs_mono l (k - 1) (j - 1) (by omega) hk.2⟩
theorem deepFs_mono : ∀ (l : List Nd) (k j : Int), k ≤ j → deepFs l k = true → deepFs l j = true
  | [], _, _, _, _ => by unfold deepFs; rfl
  | n :: l, k, j, h, hk => by
    unfold deepFs at hk ⊢
    simp only [Bool.and_eq_true] at hk ⊢
    exact ⟨deepF_mono n k j h hk.1, deepFs_mono l k j h hk.2⟩
end

theorem deepFs_mem : ∀ {l : List Nd} {k : Int}, deepFs l k = true → ∀ n ∈ l, deepF n k = true
  | [], _, _, n, hn => by cases hn
  | m :: l, k, h, n, hn => by
    unfold deepFs at h
    simp only [Bool.and_eq_true] at h
    rcases List.mem_cons.1 hn with rfl | hn
    · exact h.1
    · exact deepFs_mem h.2 n hn

theorem loop109 : ∀ (l : List Nd) (_ : ∀ n ∈ l, ∀ H k, NdAt H n → 0 ≤ k → k ≤ 1000 → CallL cfg 109 [n.root.lv, .int .i64 k] H (Ret (.bool (deepF n k)) H)) (a : Option LAddr) (q : Cap) (k : Nat) (H0 : LHeap) (j : Int), k ≤ 1000000000 → 0 < j → j ≤ 1000 → ∀ (r : Bool), deepFs l (j - 1) = r → ∀ (i : Nat), i + l.length = k → NdsAt H0 l a i → ∀ (d : Nat → LV) (H : LHeap),
    GoesT cfg 109 (Ret (.bool r) H0) [] H0 [] (L109t_0 d (i : Int) j a k q (k : Int)) (loopAt cfg 109 0) H
  | [], _, a, q, k, H0, j, hk, hj, hj2, r, hr, i, hi, hA, d, H => by
    intro hin hI
    unfold deepFs at hr
    refine g109t_0 _ H0 d i j a k q k H ⟨fun h => ?_, fun h hI => ⟨by rw [← hr], hI.pres⟩⟩ hin hI
    simp at h hi; omega
  | n :: l, hs, a, q, k, H0, j, hk, hj, hj2, r, hr, i, hi, hA, d, H => by
    intro hin hI
    rw [List.length_cons] at hi
    unfold NdsAt at hA
    unfold deepFs at hr
    obtain ⟨⟨n1, n2, n3⟩, n4, n5⟩ := hA
    have hj' : lwrap .i64 (j - 1) = j - 1 := lwrap_small (by omega) (by omega)
    refine g109t_0 _ H0 d i j a k q k H ⟨fun h => ⟨⟨by omega, by omega, n1⟩, fun hI => ⟨n.root, ?ld, fun i9 H10 _ _ H11 _ hI11 => ?call⟩⟩, fun h => ?ge⟩ hin hI
    case ge => simp at h; omega
    case ld =>
      simp only [Int.toNat_natCast]
      exact hI.pres.load0 (a := ⟨(adr a).id, (adr a).ver, (adr a).off + i * 18⟩) n2 n3
    case call =>
      rw [hj']
      refine ⟨_, hs n List.mem_cons_self H11 (j - 1) (n4.on hI11.pres) (by omega) (by omega), Ret.use ⟨_, rfl⟩, fun b13 H14 ⟨e, _⟩ => ⟨fun hb hI => ⟨?_, hI.pres⟩, fun hb d15 => ?_⟩⟩
      · cases e
        have : deepF n (j - 1) = false := by simpa using hb
        rw [← hr, this]; rfl
      · cases e
        have : deepF n (j - 1) = true := by simpa using hb
        rw [this, Bool.true_and] at hr
        have hk' : lwrap .i64 ((i : Int) + 1) = ((i + 1 : Nat) : Int) := by rw [lwrap_small (by omega) (by omega)]; simp
        rw [hk']
        exact loop109 l (fun m hm => hs m (List.mem_cons_of_mem _ hm)) a q k H0 j hk hj hj2 r hr (i + 1) (by omega) n5 d15 H14

theorem s109 (N : Nd) (H : LHeap) (k : Int) (hT : NdStr N) (hS : NdSm N) (hN : NdAt H N) (k0 : 0 ≤ k) (k1 : k ≤ 1000) : CallL cfg 109 [N.root.lv, .int .i64 k] H (Ret (.bool (deepF N k)) H) := by
  match N, hT, hS, hN with
  | .mk x l, hT, hS, hN =>
    have hN' := hN
    unfold NdAt at hN'
    unfold NdSm at hS
    unfold NdStr at hT
    have hstr : x.s.length ≤ 9223372036854775807 := by have := hT.1; unfold maxLen at this; omega
    refine e109t _ x k H fun i2 H3 _ p3 => ⟨fun h hI => ⟨?_, hI.pres⟩, fun hne hI => ⟨_, s192 x H3 hstr, Ret.use ⟨_, rfl⟩, fun b5 H6 ⟨e, _⟩ => ⟨fun hb hI => ⟨?_, hI.pres⟩, fun hb5 d7 => ?_⟩⟩⟩
    · unfold deepF
      rw [if_pos (by simpa using h)]
    · cases e
      have : shapeF x = false := by simpa using hb
      unfold deepF
      rw [this, if_neg (by simpa using hne)]
      rfl
    · cases e
      have : shapeF x = true := by simpa using hb5
      have hd : deepF (.mk x l) k = deepFs l (k - 1) := by
        unfold deepF
        rw [this, if_neg (by simpa using hne), Bool.true_and]
      rw [hd]
      exact loop109 l (fun n hn H' k' hA h0 h1 => s109 n H' k' (hT.2.mem n hn) (hS.2.mem n hn) hA h0 h1) x.argsA x.argsQ x.argsL H k hS.1 (by simp at hne; omega) k1 _ rfl 0 (by have := hN'.1; omega) hN'.2.2 d7 H6
termination_by SizeOf.sizeOf N
decreasing_by
  have := List.sizeOf_lt_of_mem hn
  simp_wf
  omega

theorem s46 (N : Nd) (H : LHeap) (hT : NdStr N) (hS : NdSm N) (hN : NdAt H N) : CallL cfg 46 [N.root.lv] H (Ret (.bool (deepF N 24)) H) := by
  refine e46t _ N.root H fun i1 H2 _ p2 hI => ⟨_, s109 N H2 24 hT hS (hN.on p2) (by omega) (by omega), Ret.use ⟨_, rfl⟩, fun b4 H5 ⟨e, _⟩ hI => ⟨e, hI.pres⟩⟩

/-! How deep -/
mutual
def depthT : Nd → Int
  | .mk _ l => depthTs l 0 + 1
def depthTs : List Nd → Int → Int
  | [], d => d
  | n :: l, d => depthTs l (if depthT n > d then depthT n else d)
end

mutual
theorem depth_le : ∀ (n : Nd), 1 ≤ depthT n ∧ depthT n ≤ (preT n).length
  | .mk x l => by
    have := depths_le l 0 (by omega)
    unfold depthT
    rw [preT, List.length_cons]
    omega
theorem depths_le : ∀ (l : List Nd) (d : Int), 0 ≤ d → d ≤ depthTs l d ∧ (depthTs l d ≤ d ∨ depthTs l d ≤ (preTs l).length)
  | [], d, h => by unfold depthTs; omega
  | n :: l, d, h => by
    have h1 := depth_le n
    unfold depthTs
    rw [preTs, List.length_append]
    split
    · have h2 := depths_le l (depthT n) (by omega)
      omega
    · have h2 := depths_le l d h
      omega
end

theorem loop50 : ∀ (l : List Nd) (_ : ∀ n ∈ l, ∀ H, NdAt H n → CallL cfg 50 [n.root.lv] H (Ret (.int .i64 (depthT n)) H)) (a : Option LAddr) (q : Cap) (k : Nat) (H0 : LHeap) (r : Int), k ≤ 1000000000 → ∀ (dp : Int), 0 ≤ dp → dp ≤ 1000000 → (preTs l).length ≤ 1000000 → depthTs l dp = r → ∀ (i : Nat), i + l.length = k → NdsAt H0 l a i → ∀ (d : Nat → LV) (H : LHeap),
    GoesT cfg 50 (Ret (.int .i64 (r + 1)) H0) [] H0 [] (L50t_0 d (i : Int) dp a k q (k : Int)) (loopAt cfg 50 0) H
  | [], _, a, q, k, H0, r, hk, dp, h0, h1, hsz, hr, i, hi, hA, d, H => by
    intro hin hI
    unfold depthTs at hr
    refine g50t_0 _ H0 d i dp a k q k H ⟨fun h => ?_, fun h hI => ⟨by rw [lwrap_small (by omega) (by omega), hr], hI.pres⟩⟩ hin hI
    simp at h hi; omega
  | n :: l, hs, a, q, k, H0, r, hk, dp, h0, h1, hsz, hr, i, hi, hA, d, H => by
    intro hin hI
    rw [List.length_cons] at hi
    rw [preTs, List.length_append] at hsz
    unfold NdsAt at hA
    unfold depthTs at hr
    obtain ⟨⟨n1, n2, n3⟩, n4, n5⟩ := hA
    have hd := depth_le n
    have hk' : lwrap .i64 ((i : Int) + 1) = ((i + 1 : Nat) : Int) := by rw [lwrap_small (by omega) (by omega)]; simp
    refine g50t_0 _ H0 d i dp a k q k H ⟨fun h => ⟨⟨by omega, by omega, n1⟩, fun hI => ⟨n.root, ?ld, fun i9 H10 _ _ H11 _ hI11 => ⟨_, hs n List.mem_cons_self H11 (n4.on hI11.pres), Ret.use ⟨_, rfl⟩, fun n13 H14 ⟨e, _⟩ d15 => ?next⟩⟩⟩, fun h => ?ge⟩ hin hI
    case ge => simp at h; omega
    case ld =>
      simp only [Int.toNat_natCast]
      exact hI.pres.load0 (a := ⟨(adr a).id, (adr a).ver, (adr a).off + i * 18⟩) n2 n3
    case next =>
      cases e
      rw [hk']
      refine loop50 l (fun m hm => hs m (List.mem_cons_of_mem _ hm)) a q k H0 r hk _ ?_ ?_ (by omega) hr (i + 1) (by omega) n5 d15 H14
      · split <;> omega
      · split <;> omega

theorem s50 (N : Nd) (H : LHeap) (hS : NdSm N) (hN : NdAt H N) (hsz : (preT N).length ≤ 1000000) : CallL cfg 50 [N.root.lv] H (Ret (.int .i64 (depthT N)) H) := by
  match N, hS, hN, hsz with
  | .mk x l, hS, hN, hsz =>
    have hN' := hN
    unfold NdAt at hN'
    unfold NdSm at hS
    rw [preT, List.length_cons] at hsz
    have hmem : ∀ n ∈ l, (preT n).length ≤ 1000000 := by
      intro n hn
      have h1 := bareTs_mem hn
      rw [bareT_len] at h1
      unfold bareTs at h1
      rw [List.length_map] at h1
      omega
    refine e50t _ x H fun i1 H2 _ _ d3 => ?_
    unfold depthT
    exact loop50 l (fun n hn H' hA => s50 n H' (hS.2.mem n hn) hA (hmem n hn)) x.argsA x.argsQ x.argsL H _ hS.1 0 (by omega) (by omega) (by omega) rfl 0 (by have := hN'.1; omega) hN'.2.2 d3 H2
termination_by SizeOf.sizeOf N
decreasing_by
  have := List.sizeOf_lt_of_mem hn
  simp_wf
  omega
end Go.Proofs.YtjihhflffkoffaaGreatDoor.Z
