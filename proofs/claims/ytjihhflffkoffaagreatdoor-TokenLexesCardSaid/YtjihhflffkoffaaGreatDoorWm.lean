/- Contracts of functions of the program; no condition. -/
import Derived.Test.YtjihhflffkoffaaGreatDoorCt
import Derived.Test.YtjihhflffkoffaaGreatDoorLe
set_option linter.unusedSimpArgs false
set_option linter.unusedVariables false
set_option linter.unusedSectionVars false
set_option linter.unnecessarySimpa false
namespace Go.Proofs.YtjihhflffkoffaaGreatDoor.Z
open Go Go.Lm
set_option maxRecDepth 100000

mutual
/-- Where a tree's rows lie. -/
def NdIds (P : Nat → Prop) : Nd → Prop
  | .mk x args => (args = [] ∨ P (adr x.argsA).id) ∧ NdsIds P args
def NdsIds (P : Nat → Prop) : List Nd → Prop
  | [] => True
  | n :: l => NdIds P n ∧ NdsIds P l
end

mutual
theorem NdIds.mono {P Q : Nat → Prop} (h : ∀ i, P i → Q i) : ∀ {n : Nd}, NdIds P n → NdIds Q n
  | .mk x args, k => by
    unfold NdIds at k ⊢
    exact ⟨k.1.imp id (h _), NdsIds.mono h k.2⟩
theorem NdsIds.mono {P Q : Nat → Prop} (h : ∀ i, P i → Q i) : ∀ {l : List Nd}, NdsIds P l → NdsIds Q l
  | [], _ => by unfold NdsIds; trivial
  | n :: l, k => by
    unfold NdsIds at k ⊢
    exact ⟨NdIds.mono h k.1, NdsIds.mono h k.2⟩
end

mutual
theorem NdAt.ids {H : LHeap} : ∀ {n : Nd}, NdAt H n → NdIds (· < H.next) n
  | .mk x args, h => by
    unfold NdAt at h
    unfold NdIds
    obtain ⟨h1, h2, h3⟩ := h
    refine ⟨?_, NdsAt.ids h3⟩
    cases args with
    | nil => exact .inl rfl
    | cons n l => unfold NdsAt at h3; exact .inr h3.1.2.1
theorem NdsAt.ids {H : LHeap} : ∀ {l : List Nd} {a : Option LAddr} {i : Nat}, NdsAt H l a i → NdsIds (· < H.next) l
  | [], _, _, _ => by unfold NdsIds; trivial
  | n :: l, a, i, h => by
    unfold NdsAt at h
    unfold NdsIds
    exact ⟨NdAt.ids h.2.1, NdsAt.ids h.2.2⟩
end

mutual
theorem NdAt.onY {H H' : LHeap} {Y : List Nat} (p : PresX Y H H') : ∀ {n : Nd}, NdIds (· ∉ Y) n → NdAt H n → NdAt H' n
  | .mk x args, k, h => by
    unfold NdAt at h ⊢
    unfold NdIds at k
    refine ⟨h.1, h.2.1, ?_⟩
    rcases k.1 with e | e
    · subst e; unfold NdsAt; trivial
    · exact NdsAt.onY p e k.2 h.2.2
theorem NdsAt.onY {H H' : LHeap} {Y : List Nat} (p : PresX Y H H') : ∀ {l : List Nd} {a : Option LAddr} {i : Nat}, (adr a).id ∉ Y → NdsIds (· ∉ Y) l → NdsAt H l a i → NdsAt H' l a i
  | [], _, _, _, _, _ => by unfold NdsAt; trivial
  | n :: l, a, i, ha, k, h => by
    unfold NdsAt at h ⊢
    unfold NdsIds at k
    obtain ⟨⟨h1, h2, h3⟩, h4, h5⟩ := h
    exact ⟨⟨h1, Nat.lt_of_lt_of_le h2 p.next, p.load (a := ⟨(adr a).id, (adr a).ver, (adr a).off + i * 18⟩) h2 ha h3⟩, NdAt.onY p k.1 h4, NdsAt.onY p ha k.2 h5⟩
end

/-- The cells of nodes in a row. -/
def cellsOf : List Nd → List LV
  | [] => []
  | n :: l => n.root.cs ++ cellsOf l

end Go.Proofs.YtjihhflffkoffaaGreatDoor.Z
