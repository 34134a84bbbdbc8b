/- Contracts of functions of the program; no condition. -/
import Derived.Test.YtjihhflffkoffaaGreatDoorWu
set_option linter.unusedSimpArgs false
set_option linter.unusedVariables false
set_option linter.unusedSectionVars false
set_option linter.unnecessarySimpa false
namespace Go.Proofs.YtjihhflffkoffaaGreatDoor.Z
open Go Go.Lm
set_option maxRecDepth 100000

mutual
theorem s132 : ∀ (n : Nd) (b : Int) (H : LHeap), 1 ≤ b → b ≤ 1000 → NdAt H n → CallL cfg 132 [n.root.lv, .int .i64 b] H (Ret (.int .i64 (leftT n b)) H)
  | .mk x l, b, H, h1, h2, hN => by
    unfold NdAt at hN
    refine e132 _ x b H fun i H1 d => ?_
    rw [lwrap_small (by omega) (by omega)]
    unfold leftT
    have := loop132 l x.argsA x.argsQ x.argsL H hN.2.1 0 (by omega) hN.2.2 (b - 1) (by omega) (by omega) (leftTs l (b - 1)) rfl d H1
    simpa using this
theorem loop132 : ∀ (l : List Nd) (a : Option LAddr) (q : Cap) (k : Nat) (H0 : LHeap), k ≤ maxLen → ∀ (i : Nat), i + l.length = k → NdsAt H0 l a i → ∀ (b : Int), 0 ≤ b → b ≤ 1000 → ∀ (r : Int), leftTs l b = r → ∀ (d : Nat → LV) (H : LHeap),
    GoesT cfg 132 (Ret (.int .i64 r) H0) [] H0 [] (L132_0 d (i : Int) b a k q (k : Int)) (loopAt cfg 132 0) H
  | [], a, q, k, H0, hk, i, hi, hN, b, hb, hb', r, hr, d, H => by
    intro hin hI
    refine g132_0 _ H0 d i b a k q k H ⟨fun h => ?_, fun h hI => ?_⟩ hin hI
    · simp at h hi; omega
    · unfold leftTs at hr
      rw [hr]
      exact .mk hI.pres
  | n :: l, a, q, k, H0, hk, i, hi, hN, b, hb, hb', r, hr, d, H => by
    intro hin hI
    rw [List.length_cons] at hi
    unfold NdsAt at hN
    obtain ⟨⟨n1, n2, n3⟩, n4, n5⟩ := hN
    unfold maxLen at hk
    unfold leftTs at hr
    refine g132_0 _ H0 d i b a k q k H ⟨fun h => ⟨⟨by omega, by omega, n1⟩, fun hI => ⟨n.root, by rw [toNat_mul]; exact hI.pres.load0 (a := ⟨(adr a).id, (adr a).ver, (adr a).off + i * 18⟩) n2 n3, fun j H1 H2 => ⟨fun hc hI => ?z, fun hc hI => ⟨_, s132 n b H2 (by simp at hc; omega) hb' (n4.on hI.pres), Ret.use ⟨_, rfl⟩, fun m H3 ⟨e, p⟩ d1 => ?s⟩⟩⟩⟩, fun h => ?ge⟩ hin hI
    case ge => simp at h; omega
    case z =>
      have : b ≤ 0 := by simpa using hc
      rw [if_pos this] at hr
      rw [← hr]
      exact .mk hI.pres
    case s =>
      cases e
      have hc' : ¬ b ≤ 0 := by simpa using hc
      rw [if_neg hc'] at hr
      have hrg := leftT_range n b (by omega)
      rw [lwrap_small (by omega) (by omega)]
      exact loop132 l a q k H0 (by unfold maxLen; omega) (i + 1) (by omega) n5 (leftT n b) hrg.1 (by omega) r hr d1 H3
end

theorem s65 (n : Nd) (H : LHeap) (b : Int) (h1 : 1 ≤ b) (h2 : b ≤ 1000) (hN : NdAt H n) : CallL cfg 65 [n.root.lv, .int .i64 b] H (Ret (.bool (decide (leftT n b ≤ 0))) H) := by
  refine e65 _ n.root b H fun i H1 hI => ⟨_, s132 n b H1 h1 h2 (hN.on hI.pres), Ret.use ⟨_, rfl⟩, fun m H2 ⟨e, p⟩ hI => ?_⟩
  cases e
  exact .mk hI.pres

theorem leftTs_pos : ∀ {l : List Nd} {b : Int}, 0 < leftTs l b → 0 < b
  | [], b, h => by unfold leftTs at h; exact h
  | n :: l, b, h => by
    unfold leftTs at h
    split at h
    · omega
    · omega

mutual
theorem leftT_size : ∀ (n : Nd) (b : Int), 0 < leftT n b → leftT n b = b - (preT n).length
  | .mk x l, b, h => by
    unfold leftT at h ⊢
    rw [leftTs_size l (b - 1) h, preT, List.length_cons]
    omega
theorem leftTs_size : ∀ (l : List Nd) (b : Int), 0 < leftTs l b → leftTs l b = b - (preTs l).length
  | [], b, h => by unfold leftTs preTs; simp
  | n :: l, b, h => by
    unfold leftTs at h ⊢
    split at h
    · omega
    · rename_i hb
      rw [if_neg hb]
      have h1 := leftTs_pos h
      rw [leftTs_size l _ h, leftT_size n b h1, preTs, List.length_append]
      omega
end

theorem preTs_len : ∀ l : List Nd, l.length ≤ (preTs l).length
  | [] => by simp
  | .mk x m :: l => by
    have := preTs_len l
    simp only [preTs, preT, List.length_cons, List.length_append]
    omega

mutual
theorem ndSm : ∀ (n : Nd) (H : LHeap), NdAt H n → (preT n).length ≤ 1000000 → NdSm n
  | .mk x l, H, h, hs => by
    unfold NdAt at h
    unfold NdSm
    rw [preT, List.length_cons] at hs
    have := preTs_len l
    exact ⟨by omega, ndsSm l H _ _ h.2.2 (by omega)⟩
theorem ndsSm : ∀ (l : List Nd) (H : LHeap) (a : Option LAddr) (i : Nat), NdsAt H l a i → (preTs l).length ≤ 1000000 → NdsSm l
  | [], _, _, _, _, _ => by unfold NdsSm; trivial
  | n :: l, H, a, i, h, hs => by
    unfold NdsAt at h
    unfold NdsSm
    rw [preTs, List.length_append] at hs
    exact ⟨ndSm n H h.2.1 (by omega), ndsSm l H a (i + 1) h.2.2 (by omega)⟩
end
end Go.Proofs.YtjihhflffkoffaaGreatDoor.Z
