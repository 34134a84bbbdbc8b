/- Contracts of functions of the program; no condition. -/
import Derived.Test.YtjihhflffkoffaaGreatDoorCt
set_option linter.unusedSimpArgs false
set_option linter.unusedVariables false
set_option linter.unusedSectionVars false
set_option linter.unnecessarySimpa false
namespace Go.Proofs.YtjihhflffkoffaaGreatDoor.Z
open Go Go.Lm
set_option maxRecDepth 100000

mutual
/-- No text of a tree is too long for a text. -/
def NdStr : Nd → Prop
  | .mk x l => x.s.length ≤ maxLen ∧ NdsStr l
def NdsStr : List Nd → Prop
  | [] => True
  | n :: l => NdStr n ∧ NdsStr l
end
theorem NdsStr.all : ∀ {l : List Nd}, (∀ m ∈ l, NdStr m) → NdsStr l
  | [], _ => by unfold NdsStr; trivial
  | n :: l, h => by
    unfold NdsStr
    exact ⟨h n List.mem_cons_self, NdsStr.all fun m hm => h m (List.mem_cons_of_mem _ hm)⟩
theorem NdsStr.mem : ∀ {l : List Nd}, NdsStr l → ∀ m ∈ l, NdStr m
  | [], h, m, hm => by cases hm
  | n :: l, h, m, hm => by
    unfold NdsStr at h
    rcases List.mem_cons.1 hm with rfl | hm
    · exact h.1
    · exact NdsStr.mem h.2 m hm

mutual
/-- A tree's rows are there, also those without elements. -/
def NdE (H : LHeap) (P : Nat → Prop) : Nd → Prop
  | .mk x l => (∀ a, x.argsA = some a → P a.id ∧ a.id < H.next ∧ loadN H a 0 = some []) ∧ NdsE H P l
def NdsE (H : LHeap) (P : Nat → Prop) : List Nd → Prop
  | [] => True
  | n :: l => NdE H P n ∧ NdsE H P l
end

mutual
theorem NdE.onY {H H' : LHeap} {P Q : Nat → Prop} {Y : List Nat} (p : PresX Y H H') (hP : ∀ i, P i → i < H.next → i ∉ Y ∧ Q i) : ∀ {n : Nd}, NdE H P n → NdE H' Q n
  | .mk x l, h => by
    unfold NdE at h ⊢
    refine ⟨fun a e => ?_, NdsE.onY p hP h.2⟩
    obtain ⟨h1, h2, h3⟩ := h.1 a e
    obtain ⟨h4, h5⟩ := hP _ h1 h2
    exact ⟨h5, Nat.lt_of_lt_of_le h2 p.next, (p.keep _ h2 h4).loads a _ _ rfl h3⟩
theorem NdsE.onY {H H' : LHeap} {P Q : Nat → Prop} {Y : List Nat} (p : PresX Y H H') (hP : ∀ i, P i → i < H.next → i ∉ Y ∧ Q i) : ∀ {l : List Nd}, NdsE H P l → NdsE H' Q l
  | [], _ => by unfold NdsE; trivial
  | n :: l, h => by
    unfold NdsE at h ⊢
    exact ⟨NdE.onY p hP h.1, NdsE.onY p hP h.2⟩
end

theorem NdE.on {H H' : LHeap} {P : Nat → Prop} (p : PresX [] H H') {n : Nd} (h : NdE H P n) : NdE H' P n := NdE.onY p (fun i hi _ => ⟨by simp, hi⟩) h
theorem NdsE.on {H H' : LHeap} {P : Nat → Prop} (p : PresX [] H H') {l : List Nd} (h : NdsE H P l) : NdsE H' P l := NdsE.onY p (fun i hi _ => ⟨by simp, hi⟩) h
theorem NdE.mono {H : LHeap} {P Q : Nat → Prop} (hP : ∀ i, P i → i < H.next → Q i) {n : Nd} (h : NdE H P n) : NdE H Q n := NdE.onY (.refl [] H) (fun i hi hl => ⟨by simp, hP i hi hl⟩) h

theorem NdsE.all {H : LHeap} {P : Nat → Prop} : ∀ {l : List Nd}, (∀ m ∈ l, NdE H P m) → NdsE H P l
  | [], _ => by unfold NdsE; trivial
  | n :: l, h => by
    unfold NdsE
    exact ⟨h n List.mem_cons_self, NdsE.all fun m hm => h m (List.mem_cons_of_mem _ hm)⟩
theorem NdsE.mem {H : LHeap} {P : Nat → Prop} : ∀ {l : List Nd}, NdsE H P l → ∀ m ∈ l, NdE H P m
  | [], _, m, hm => by cases hm
  | n :: l, h, m, hm => by
    unfold NdsE at h
    rcases List.mem_cons.1 hm with rfl | hm
    · exact h.1
    · exact NdsE.mem h.2 m hm
end Go.Proofs.YtjihhflffkoffaaGreatDoor.Z
