/- Contracts of functions of the program; no condition. -/
import Derived.Test.YtjihhflffkoffaaGreatDoorWr
import Derived.Test.YtjihhflffkoffaaGreatDoorCl
set_option linter.unusedSimpArgs false
set_option linter.unusedVariables false
set_option linter.unusedSectionVars false
set_option linter.unnecessarySimpa false
namespace Go.Proofs.YtjihhflffkoffaaGreatDoor.Z
open Go Go.Lm
set_option maxRecDepth 100000

theorem headEq_bare {x y : NdC} (h : x.bare = y.bare) : headEq x y = true := by
  have e : headEq x y = headEq x.bare y.bare := rfl
  rw [e, h]
  exact headEq_self _

mutual
/-- Two rewritings of one tree are alike. -/
theorem same_rw (p : PlaceC) (c : ChangeC) : ∀ {N M M' : Nd}, RwOf p c N M → RwOf p c N M' → sameT M M' = true
  | .mk x l, .mk y m, .mk y' m', h, h' => by
    unfold RwOf at h h'
    split at h
    · rename_i hc
      rw [if_pos hc] at h'
      rw [h.1, h.2, h'.1, h'.2]
      exact sameT_self _
    · rename_i hc
      rw [if_neg hc] at h'
      split at h
      · rename_i hc'
        rw [if_pos hc'] at h'
        rw [h.1, h.2, h'.1, h'.2]
        exact sameT_self _
      · rename_i hc'
        rw [if_neg hc'] at h'
        unfold sameT
        rw [headEq_bare (h.1.trans h'.1.symm), same_rws p c h.2 h'.2]
        rfl
theorem same_rws (p : PlaceC) (c : ChangeC) : ∀ {l m m' : List Nd}, RwsOf p c l m → RwsOf p c l m' → sameTs m m' = true
  | [], [], [], _, _ => by unfold sameTs; rfl
  | n :: l, k :: m, k' :: m', h, h' => by
    unfold RwsOf at h h'
    unfold sameTs
    rw [same_rw p c h.1 h'.1, same_rws p c h.2 h'.2]
    rfl
  | [], _ :: _, _, h, _ => by unfold RwsOf at h; exact h.elim
  | [], [], _ :: _, _, h => by unfold RwsOf at h; exact h.elim
  | _ :: _, [], _, h, _ => by unfold RwsOf at h; exact h.elim
  | _ :: _, _ :: _, [], _, h => by unfold RwsOf at h; exact h.elim
end

mutual
/-- The nodes, from the root on. -/
def preT : Nd → List NdC
  | .mk x l => x :: preTs l
def preTs : List Nd → List NdC
  | [] => []
  | n :: l => preT n ++ preTs l
end
theorem preTs_snoc : ∀ (l : List Nd) (n : Nd), preTs (l ++ [n]) = preTs l ++ preT n
  | [], n => by simp [preTs]
  | m :: l, n => by simp only [List.cons_append, preTs, preTs_snoc l n, List.append_assoc]
theorem preTs_app : ∀ (l m : List Nd), preTs (l ++ m) = preTs l ++ preTs m
  | [], m => by simp [preTs]
  | n :: l, m => by simp only [List.cons_append, preTs, preTs_app l m, List.append_assoc]

def cellsC : List NdC → List LV
  | [] => []
  | x :: l => x.cs ++ cellsC l
theorem cellsC_app : ∀ (l m : List NdC), cellsC (l ++ m) = cellsC l ++ cellsC m
  | [], m => rfl
  | x :: l, m => by simp only [List.cons_append, cellsC, cellsC_app l m, List.append_assoc]
theorem cellsC_len : ∀ l : List NdC, (cellsC l).length = l.length * 18
  | [] => rfl
  | x :: l => by rw [cellsC, List.length_append, cellsC_len l, ndc_len, List.length_cons]; omega

/-- What List comes to. -/
def ListR (N : Nd) (H : LHeap) : LV → LHeap → Prop :=
  fun v H' => PresX [] H H' ∧ ∃ a q, v = .slice a (preT N).length q ∧ RowAt H' 72 18 a (preT N).length q (cellsC (preT N)) ∧ ∀ ad, a = some ad → H.next ≤ ad.id

theorem loop44 : ∀ (l2 : List Nd) (_ : ∀ n ∈ l2, ∀ H, NdAt H n → (preT n).length ≤ 1000000 → CallL cfg 44 [n.root.lv] H (ListR n H)) (l1 : List Nd) (x : NdC) (H0 : LHeap) (a : Option LAddr) (k : Nat) (q : Cap) (d : Nat → LV) (H : LHeap), NdAt H0 (.mk x (l1 ++ l2)) → NdsAt H0 l2 x.argsA l1.length → (preT (.mk x (l1 ++ l2))).length ≤ 1000000 → x.argsL ≤ 1000000000 →
    k = (preT (.mk x l1)).length → RowAt H 72 18 a k q (cellsC (preT (.mk x l1))) → (∀ ad, a = some ad → H0.next ≤ ad.id) →
    GoesT cfg 44 (ListR (.mk x (l1 ++ l2)) H0) [] H0 [] (L44t_0 d (l1.length : Int) a k q x.argsA x.argsL x.argsQ (x.argsL : Int)) (loopAt cfg 44 0) H
  | [], _, l1, x, H0, a, k, q, d, H, hN, hA, hsz, hbig, hk, hr, hlow => by
    intro hin hI
    have hN' := hN
    unfold NdAt at hN'
    have hlen : l1.length = x.argsL := by simpa using hN'.1
    refine g44t_0 _ H0 d l1.length a k q x.argsA x.argsL x.argsQ x.argsL H ⟨fun h => ?_, fun _ hI => ?_⟩ hin hI
    · simp at h; omega
    · rw [List.append_nil]
      exact ⟨hI.pres, a, q, by rw [hk], by rw [← hk]; exact hr, hlow⟩
  | n :: l2, hs, l1, x, H0, a, k, q, d, H, hN, hA, hsz, hbig, hk, hr, hlow => by
    intro hin hI
    have hN' := hN
    unfold NdAt at hN'
    have hlen : l1.length + (l2.length + 1) = x.argsL := by simpa using hN'.1
    unfold NdsAt at hA
    obtain ⟨⟨n1, n2, n3⟩, n4, n5⟩ := hA
    have hall : l1 ++ n :: l2 = (l1 ++ [n]) ++ l2 := by simp
    have hsz' : k + (preT n).length ≤ 1000000 := by
      rw [hk]
      rw [preT, preTs_app, preTs] at hsz
      simp only [List.length_cons, List.length_append, preT] at hsz ⊢
      omega
    refine g44t_0 _ H0 d l1.length a k q x.argsA x.argsL x.argsQ x.argsL H ⟨fun h => ⟨⟨by omega, by omega, n1⟩, fun hI => ⟨n.root, ?ld, fun i11 H12 h12 p12 H13 p13 hI13 => ⟨_, hs n List.mem_cons_self H13 (n4.on hI13.pres) (by omega), ?sh, fun a15 l16 c17 H18 ⟨p18, b, qb, e, rb, lowb⟩ hI18 => ?app⟩⟩⟩, fun h => ?ge⟩ hin hI
    case ge => simp at h; omega
    case ld =>
      simp only [Int.toNat_natCast]
      exact hI.pres.load0 (a := ⟨(adr x.argsA).id, (adr x.argsA).ver, (adr x.argsA).off + l1.length * 18⟩) n2 n3
    case sh =>
      rintro v H' ⟨h1, a, q, e, _⟩
      exact ⟨h1, a, _, q, e⟩
    case app =>
      cases e
      have p13' : PresX [] H H13 := p12.trans p13 (fun j hj => .inr (by rw [List.mem_singleton.1 hj]; exact h12))
      have pAll := p13'.trans0 p18
      have r18 : RowAt H18 72 18 a k q (cellsC (preT (.mk x l1))) := hr.on pAll.next (fun ad e => by subst e; exact pAll.keep _ hr.id (by simp)) (fun ad e _ => by subst e; exact (pAll.keep _ hr.id (by simp)).get)
      obtain ⟨Y, a', q', H22, h1, h2, h3, h4, h5⟩ := r18.append rowT (x := .slice a15 (preT n).length c17) rfl rb.loadAll (by rw [cellsC_len]) rb.cells (by omega)
      refine ⟨Y, a', k + (preT n).length, q', H22, ⟨h1, h2, fun j hj => ?_⟩, fun d' => ?_⟩
      · obtain ⟨ad, e, rfl⟩ := h4 j hj
        subst e
        have := hr.id
        have := hlow ad rfl
        refine ⟨.inr (by omega), fun m s hs => ?_⟩
        match m, hs with
        | 0, hs => cases hs; show i11 ≠ _; omega
        | m + 1, hs => simp [nth] at hs
      · have hk' : (l1.length : Int) + 1 = (((l1 ++ [n]).length : Nat) : Int) := by simp
        rw [lwrap_small (by omega) (by omega), hk', hall]
        refine loop44 l2 (fun m hm => hs m (List.mem_cons_of_mem _ hm)) (l1 ++ [n]) x H0 a' (k + (preT n).length) q' d' H22 (hall ▸ hN) (by rw [List.length_append]; exact n5) (hall ▸ hsz) hbig ?_ ?_ fun ad' e => ?_
        · rw [hk]; simp only [preT, preTs_snoc, List.length_cons, List.length_append]; omega
        · have : preT (.mk x (l1 ++ [n])) = preT (.mk x l1) ++ preT n := by simp only [preT, preTs_snoc, List.cons_append]
          rw [this, cellsC_app]
          exact h3
        · rcases h5 ad' e with ⟨ad, e2, e3⟩ | e2
          · rw [← e3]; exact hlow ad e2
          · have := pAll.next; have := hI.pres.next; omega
end Go.Proofs.YtjihhflffkoffaaGreatDoor.Z
