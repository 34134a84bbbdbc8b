/- Contracts of functions of the program; no condition. -/
import Derived.Test.YtjihhflffkoffaaGreatDoorWm
set_option linter.unusedSimpArgs false
set_option linter.unusedVariables false
set_option linter.unusedSectionVars false
set_option linter.unnecessarySimpa false
namespace Go.Proofs.YtjihhflffkoffaaGreatDoor.Z
open Go Go.Lm
set_option maxRecDepth 100000

def NdC.bare (x : NdC) : NdC := { x with argsA := none, argsL := 0, argsQ := .exact 0 }

mutual
/-- No node has too many arguments. -/
def NdSm : Nd → Prop
  | .mk x l => x.argsL ≤ 1000000000 ∧ NdsSm l
def NdsSm : List Nd → Prop
  | [] => True
  | n :: l => NdSm n ∧ NdsSm l
end

mutual
/-- The nodes, from the root on. -/
def preT : Nd → List NdC
  | .mk x l => x :: preTs l
def preTs : List Nd → List NdC
  | [] => []
  | n :: l => preT n ++ preTs l
end
theorem leftTs_pos : ∀ {l : List Nd} {b : Int}, 0 < leftTs l b → 0 < b
  | [], b, h => by unfold leftTs at h; exact h
  | n :: l, b, h => by
    unfold leftTs at h
    split at h
    · omega
    · omega

mutual
theorem leftT_size : ∀ (n : Nd) (b : Int), 0 < leftT n b → leftT n b = b - (preT n).length
  | .mk x l, b, h => by
    unfold leftT at h ⊢
    rw [leftTs_size l (b - 1) h, preT, List.length_cons]
    omega
theorem leftTs_size : ∀ (l : List Nd) (b : Int), 0 < leftTs l b → leftTs l b = b - (preTs l).length
  | [], b, h => by unfold leftTs preTs; simp
  | n :: l, b, h => by
    unfold leftTs at h ⊢
    split at h
    · omega
    · rename_i hb
      rw [if_neg hb]
      have h1 := leftTs_pos h
      rw [leftTs_size l _ h, leftT_size n b h1, preTs, List.length_append]
      omega
end

theorem preTs_len : ∀ l : List Nd, l.length ≤ (preTs l).length
  | [] => by simp
  | .mk x m :: l => by
    have := preTs_len l
    simp only [preTs, preT, List.length_cons, List.length_append]
    omega

mutual
theorem ndSm : ∀ (n : Nd) (H : LHeap), NdAt H n → (preT n).length ≤ 1000000 → NdSm n
  | .mk x l, H, h, hs => by
    unfold NdAt at h
    unfold NdSm
    rw [preT, List.length_cons] at hs
    have := preTs_len l
    exact ⟨by omega, ndsSm l H _ _ h.2.2 (by omega)⟩
theorem ndsSm : ∀ (l : List Nd) (H : LHeap) (a : Option LAddr) (i : Nat), NdsAt H l a i → (preTs l).length ≤ 1000000 → NdsSm l
  | [], _, _, _, _, _ => by unfold NdsSm; trivial
  | n :: l, H, a, i, h, hs => by
    unfold NdsAt at h
    unfold NdsSm
    rw [preTs, List.length_append] at hs
    exact ⟨ndSm n H h.2.1 (by omega), ndsSm l H a (i + 1) h.2.2 (by omega)⟩
end
end Go.Proofs.YtjihhflffkoffaaGreatDoor.Z
