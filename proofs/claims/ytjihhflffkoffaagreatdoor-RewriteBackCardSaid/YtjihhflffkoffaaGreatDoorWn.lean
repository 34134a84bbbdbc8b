/- Contracts of functions of the program; no condition. -/
import Derived.Test.YtjihhflffkoffaaGreatDoorWm
import Derived.Test.YtjihhflffkoffaaGreatDoorW8
set_option linter.unusedSimpArgs false
set_option linter.unusedVariables false
set_option linter.unusedSectionVars false
set_option linter.unnecessarySimpa false
namespace Go.Proofs.YtjihhflffkoffaaGreatDoor.Z
open Go Go.Lm
set_option maxRecDepth 100000

def NdC.bare (x : NdC) : NdC := { x with argsA := none, argsL := 0, argsQ := .exact 0 }

mutual
/-- The second tree is the first one behind the change. -/
def RwOf (p : PlaceC) (c : ChangeC) : Nd → Nd → Prop
  | .mk x l, .mk y m => if x.kind = 2 ∧ ofP (refOf x) p c = true then y = cellN x c ∧ m = [] else if x.kind = 3 ∧ ofP (refOf x) p c = true then y = areaN x c ∧ m = [] else y.bare = x.bare ∧ RwsOf p c l m
def RwsOf (p : PlaceC) (c : ChangeC) : List Nd → List Nd → Prop
  | [], [] => True
  | n :: l, k :: m => RwOf p c n k ∧ RwsOf p c l m
  | [], _ :: _ => False
  | _ :: _, [] => False
end
mutual
def anyT (p : PlaceC) (c : ChangeC) : Nd → Bool
  | .mk x l => if x.kind = 2 ∧ ofP (refOf x) p c = true then anyC x c else if x.kind = 3 ∧ ofP (refOf x) p c = true then anyA x c else anyTs p c l
def anyTs (p : PlaceC) (c : ChangeC) : List Nd → Bool
  | [] => false
  | n :: l => anyT p c n || anyTs p c l
end

theorem RwsOf.snoc {p : PlaceC} {c : ChangeC} {n k : Nd} : ∀ {l m : List Nd}, RwsOf p c l m → RwOf p c n k → RwsOf p c (l ++ [n]) (m ++ [k])
  | [], [], _, h => by simp only [List.nil_append, RwsOf]; exact ⟨h, trivial⟩
  | a :: l, b :: m, h, k => by simp only [List.cons_append, RwsOf] at h ⊢; exact ⟨h.1, h.2.snoc k⟩
  | [], _ :: _, h, _ => by simp only [RwsOf] at h
  | _ :: _, [], h, _ => by simp only [RwsOf] at h

theorem anyTs_app (p : PlaceC) (c : ChangeC) : ∀ (l m : List Nd), anyTs p c (l ++ m) = (anyTs p c l || anyTs p c m)
  | [], m => by simp [anyTs]
  | n :: l, m => by simp only [List.cons_append, anyTs, anyTs_app p c l m, Bool.or_assoc]

mutual
theorem NdIds.and {P Q : Nat → Prop} : ∀ {n : Nd}, NdIds P n → NdIds Q n → NdIds (fun i => P i ∧ Q i) n
  | .mk x args, h, k => by
    unfold NdIds at h k ⊢
    refine ⟨?_, NdsIds.and h.2 k.2⟩
    rcases h.1 with e | e
    · exact .inl e
    · rcases k.1 with f | f
      · exact .inl f
      · exact .inr ⟨e, f⟩
theorem NdsIds.and {P Q : Nat → Prop} : ∀ {l : List Nd}, NdsIds P l → NdsIds Q l → NdsIds (fun i => P i ∧ Q i) l
  | [], _, _ => by unfold NdsIds; trivial
  | n :: l, h, k => by
    unfold NdsIds at h k ⊢
    exact ⟨NdIds.and h.1 k.1, NdsIds.and h.2 k.2⟩
end

theorem NdsIds.all {P : Nat → Prop} : ∀ {l : List Nd}, (∀ m ∈ l, NdIds P m) → NdsIds P l
  | [], _ => by unfold NdsIds; trivial
  | n :: l, h => by
    unfold NdsIds
    exact ⟨h n List.mem_cons_self, NdsIds.all fun m hm => h m (List.mem_cons_of_mem _ hm)⟩

/-- The trees that a growing row holds. -/
structure Grown (H : LHeap) (B : Nat) (a : Option LAddr) (q : Cap) (ms : List Nd) : Prop where
  row : RowAt H 72 18 a ms.length q (cellsOf ms)
  at_ : ∀ m ∈ ms, NdAt H m
  ids : ∀ m ∈ ms, NdIds (fun j => B ≤ j ∧ ∀ ad, a = some ad → j ≠ ad.id) m
  low : ∀ ad, a = some ad → B ≤ ad.id

theorem Grown.on {H H' : LHeap} {B : Nat} {a : Option LAddr} {q : Cap} {ms : List Nd} (h : Grown H B a q ms) {Y : List Nat} (p : PresX Y H H') (hY : ∀ y ∈ Y, y < B ∨ H.next ≤ y) : Grown H' B a q ms := by
  have out : ∀ j, B ≤ j → j < H.next → j ∉ Y := fun j h1 h2 hm => by rcases hY j hm with h | h <;> omega
  refine ⟨h.row.on p.next (fun ad e => ?_) (fun ad e _ => ?_), fun m hm => ?_, h.ids, h.low⟩
  · subst e; exact p.keep _ h.row.id (out _ (h.low _ rfl) h.row.id)
  · subst e; exact (p.keep _ h.row.id (out _ (h.low _ rfl) h.row.id)).get
  · exact NdAt.onY p (NdIds.mono (fun j hj => out j hj.1.1 hj.2) (NdIds.and (h.ids m hm) (NdAt.ids (h.at_ m hm)))) (h.at_ m hm)

/-- One more. -/
theorem Grown.more {H : LHeap} {B : Nat} {a : Option LAddr} {q : Cap} {ms : List Nd} (h : Grown H B a q ms) {M : Nd} (hM : NdAt H M) (hid : NdIds (fun j => B ≤ j ∧ ∀ ad, a = some ad → j ≠ ad.id) M) (hB : B ≤ H.next) {x : LV} (hx : lenL x = some 1) (hf : firstCellsL H 18 1 x = some M.root.cs)
    (hb : ms.length ≤ 1000000000) : ∃ Y a' q' H', appendL cfg.P H [70, 70] [.slice a ms.length q, x] = some (.slice a' (ms.length + 1) q', H') ∧ PresX Y H H' ∧ Grown H' B a' q' (ms ++ [M]) ∧ (∀ i ∈ Y, ∃ ad, a = some ad ∧ ad.id = i) := by
  obtain ⟨Y, a', q', H', h1, h2, h3, h4, h5⟩ := h.row.append rowT hx hf (by rw [ndc_len]) (ndc_cells _) (by omega)
  have keep : ∀ m, NdAt H m → NdIds (fun j => B ≤ j ∧ ∀ ad, a = some ad → j ≠ ad.id) m → NdAt H' m ∧ NdIds (fun j => B ≤ j ∧ ∀ ad, a' = some ad → j ≠ ad.id) m := by
    intro m k1 k2
    refine ⟨NdAt.onY h2 (NdIds.mono (fun j hj hm => ?_) k2) k1, NdIds.mono (fun j hj => ⟨hj.1.1, fun ad' e => ?_⟩) (NdIds.and k2 (NdAt.ids k1))⟩
    · obtain ⟨ad, e, ei⟩ := h4 j hm
      exact hj.2 ad e ei.symm
    · rcases h5 ad' e with ⟨ad, e2, e3⟩ | e2
      · rw [← e3]; exact hj.1.2 ad e2
      · have := hj.2; omega
  refine ⟨Y, a', q', H', h1, h2, ⟨?_, fun m hm => ?_, fun m hm => ?_, fun ad' e => ?_⟩, h4⟩
  · rw [List.length_append, cellsOf_app]; exact h3
  · rcases List.mem_append.1 hm with hm | hm
    · exact (keep m (h.at_ m hm) (h.ids m hm)).1
    · rw [List.mem_singleton.1 hm]; exact (keep M hM hid).1
  · rcases List.mem_append.1 hm with hm | hm
    · exact (keep m (h.at_ m hm) (h.ids m hm)).2
    · rw [List.mem_singleton.1 hm]; exact (keep M hM hid).2
  · rcases h5 ad' e with ⟨ad, e2, e3⟩ | e2
    · rw [← e3]; exact h.low ad e2
    · omega
end Go.Proofs.YtjihhflffkoffaaGreatDoor.Z
