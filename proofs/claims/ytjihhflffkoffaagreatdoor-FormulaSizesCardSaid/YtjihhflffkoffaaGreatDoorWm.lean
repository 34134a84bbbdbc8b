/- Contracts of functions of the program; no condition. -/
import Derived.Test.YtjihhflffkoffaaGreatDoorCt
import Derived.Test.YtjihhflffkoffaaGreatDoorLe
set_option linter.unusedSimpArgs false
set_option linter.unusedVariables false
set_option linter.unusedSectionVars false
set_option linter.unnecessarySimpa false
namespace Go.Proofs.YtjihhflffkoffaaGreatDoor.Z
open Go Go.Lm
set_option maxRecDepth 100000

theorem rowT : RowT cfg.P 70 72 18 192 := ⟨by kernel_rfl, by kernel_rfl, by decide, by kernel_rfl, by kernel_rfl, by kernel_rfl, ⟨(⟨0, [], 0, 0, [], [], [], 0, 0, false, false, [], [], 0, 0, false, false, none, 0, .exact 0⟩ : NdC).lv, by kernel_rfl, rfl⟩⟩

mutual
/-- Where a tree's rows lie. -/
def NdIds (P : Nat → Prop) : Nd → Prop
  | .mk x args => (args = [] ∨ P (adr x.argsA).id) ∧ NdsIds P args
def NdsIds (P : Nat → Prop) : List Nd → Prop
  | [] => True
  | n :: l => NdIds P n ∧ NdsIds P l
end

mutual
theorem NdIds.mono {P Q : Nat → Prop} (h : ∀ i, P i → Q i) : ∀ {n : Nd}, NdIds P n → NdIds Q n
  | .mk x args, k => by
    unfold NdIds at k ⊢
    exact ⟨k.1.imp id (h _), NdsIds.mono h k.2⟩
theorem NdsIds.mono {P Q : Nat → Prop} (h : ∀ i, P i → Q i) : ∀ {l : List Nd}, NdsIds P l → NdsIds Q l
  | [], _ => by unfold NdsIds; trivial
  | n :: l, k => by
    unfold NdsIds at k ⊢
    exact ⟨NdIds.mono h k.1, NdsIds.mono h k.2⟩
end

mutual
theorem NdAt.ids {H : LHeap} : ∀ {n : Nd}, NdAt H n → NdIds (· < H.next) n
  | .mk x args, h => by
    unfold NdAt at h
    unfold NdIds
    obtain ⟨h1, h2, h3⟩ := h
    refine ⟨?_, NdsAt.ids h3⟩
    cases args with
    | nil => exact .inl rfl
    | cons n l => unfold NdsAt at h3; exact .inr h3.1.2.1
theorem NdsAt.ids {H : LHeap} : ∀ {l : List Nd} {a : Option LAddr} {i : Nat}, NdsAt H l a i → NdsIds (· < H.next) l
  | [], _, _, _ => by unfold NdsIds; trivial
  | n :: l, a, i, h => by
    unfold NdsAt at h
    unfold NdsIds
    exact ⟨NdAt.ids h.2.1, NdsAt.ids h.2.2⟩
end

mutual
theorem NdAt.onY {H H' : LHeap} {Y : List Nat} (p : PresX Y H H') : ∀ {n : Nd}, NdIds (· ∉ Y) n → NdAt H n → NdAt H' n
  | .mk x args, k, h => by
    unfold NdAt at h ⊢
    unfold NdIds at k
    refine ⟨h.1, h.2.1, ?_⟩
    rcases k.1 with e | e
    · subst e; unfold NdsAt; trivial
    · exact NdsAt.onY p e k.2 h.2.2
theorem NdsAt.onY {H H' : LHeap} {Y : List Nat} (p : PresX Y H H') : ∀ {l : List Nd} {a : Option LAddr} {i : Nat}, (adr a).id ∉ Y → NdsIds (· ∉ Y) l → NdsAt H l a i → NdsAt H' l a i
  | [], _, _, _, _, _ => by unfold NdsAt; trivial
  | n :: l, a, i, ha, k, h => by
    unfold NdsAt at h ⊢
    unfold NdsIds at k
    obtain ⟨⟨h1, h2, h3⟩, h4, h5⟩ := h
    exact ⟨⟨h1, Nat.lt_of_lt_of_le h2 p.next, p.load (a := ⟨(adr a).id, (adr a).ver, (adr a).off + i * 18⟩) h2 ha h3⟩, NdAt.onY p k.1 h4, NdsAt.onY p ha k.2 h5⟩
end

theorem ndc_len (x : NdC) : x.cs.length = 18 := rfl
theorem ndc_cells (x : NdC) : allCells x.cs = true := rfl

/-- The cells of nodes in a row. -/
def cellsOf : List Nd → List LV
  | [] => []
  | n :: l => n.root.cs ++ cellsOf l

theorem cellsOf_len : ∀ l : List Nd, (cellsOf l).length = l.length * 18
  | [] => rfl
  | n :: l => by rw [cellsOf, List.length_append, cellsOf_len l, ndc_len, List.length_cons]; omega

theorem cellsOf_app : ∀ (l : List Nd) (n : Nd), cellsOf (l ++ [n]) = cellsOf l ++ n.root.cs
  | [], n => by simp [cellsOf]
  | m :: l, n => by simp only [List.cons_append, cellsOf, cellsOf_app l n, List.append_assoc]

theorem cellsOf_drop : ∀ (l : List Nd) (i : Nat) (n : Nd), l[i]? = some n → ((cellsOf l).drop (i * 18)).take 18 = n.root.cs
  | [], i, n, h => by simp at h
  | m :: l, 0, n, h => by
    simp only [List.getElem?_cons_zero, Option.some.injEq] at h
    subst h
    rw [Nat.zero_mul, List.drop_zero, cellsOf, List.take_append_of_le_length (by rw [ndc_len]; omega), List.take_of_length_le (by rw [ndc_len]; omega)]
  | m :: l, i + 1, n, h => by
    rw [cellsOf, show (i + 1) * 18 = 18 + i * 18 by omega, ← List.drop_drop]
    rw [show (m.root.cs ++ cellsOf l).drop 18 = cellsOf l by rw [List.drop_append_of_le_length (by rw [ndc_len]; omega), List.drop_of_length_le (by rw [ndc_len]; omega)]; rfl]
    exact cellsOf_drop l i n (by simpa using h)

/-- The nodes that a growing row holds. -/
theorem nds_row {H : LHeap} {a : Option LAddr} {q : Cap} (ms : List Nd) (hr : RowAt H 72 18 a ms.length q (cellsOf ms)) (hm : ∀ m ∈ ms, NdAt H m) : ∀ (l : List Nd) (i : Nat), (∀ (j : Nat) (n : Nd), l[j]? = some n → ms[i + j]? = some n) → NdsAt H l a i
  | [], i, _ => by unfold NdsAt; trivial
  | n :: l, i, h => by
    have h0 : ms[i]? = some n := h 0 n rfl
    have hi : i < ms.length := (List.getElem?_eq_some_iff.1 h0).1
    obtain ⟨h1, h2, h3⟩ := hr.load hi
    unfold NdsAt
    refine ⟨⟨h1, h2, ?_⟩, hm n (List.mem_of_getElem? h0), nds_row ms hr hm l (i + 1) fun j m hj => by
      have := h (j + 1) m (by simpa using hj)
      rwa [show i + 1 + j = i + (j + 1) by omega]⟩
    rw [cellsOf_drop ms i n h0] at h3
    exact load_agg (by kernel_rfl) (by kernel_rfl) h3
end Go.Proofs.YtjihhflffkoffaaGreatDoor.Z
