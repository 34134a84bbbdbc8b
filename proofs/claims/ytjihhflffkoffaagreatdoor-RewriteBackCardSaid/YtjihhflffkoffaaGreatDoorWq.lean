/- Contracts of functions of the program; no condition. -/
import Derived.Test.YtjihhflffkoffaaGreatDoorWp
set_option linter.unusedSimpArgs false
set_option linter.unusedVariables false
set_option linter.unusedSectionVars false
set_option linter.unnecessarySimpa false
namespace Go.Proofs.YtjihhflffkoffaaGreatDoor.Z
open Go Go.Lm
set_option maxRecDepth 100000

/-- The loop of the reference's rewriting, if each argument is rewritten. -/
theorem loop69 (p : PlaceC) (c : ChangeC) : ∀ (l2 : List Nd) (_ : ∀ n ∈ l2, ∀ H, NdAt H n → CallL cfg 69 [n.root.lv, p.lv, c.lv] H (RwR p c n H)) (l1 ms : List Nd) (x x7 y : NdC) (b1 : Bool) (H0 : LHeap) (B : Nat) (k : Nat) (a : Option LAddr) (q' : Cap) (i6 i8 i10 i12 i14 : Nat) (d : Nat → LV) (H : LHeap), NdAt H0 (.mk x (l1 ++ l2)) →
    NdsAt H0 l2 x.argsA l1.length → x.argsL ≤ 1000000000 →
    ¬ (x.kind = 2 ∧ ofP (refOf x) p c = true) → ¬ (x.kind = 3 ∧ ofP (refOf x) p c = true) → b1 = anyTs p c l1 → RwsOf p c l1 ms → k = ms.length → k = l1.length → Grown H B a q' ms → B ≤ H.next → i6 < B → i8 < B → i10 < B → i12 < B → i14 < B → H0.next ≤ B →
    GoesT cfg 69 (RwR p c (.mk x (l1 ++ l2)) H0) [] H0 [⟨i6, x7.cs, 72⟩, ⟨i8, p.cs, 94⟩, ⟨i10, c.cs, 105⟩, ⟨i12, y.cs, 72⟩, ⟨i14, ({ x with argsA := a, argsL := k, argsQ := q' } : NdC).cs, 72⟩] (L69t_0 d (k : Int) b1 x.argsA x.argsL x.argsQ (x.argsL : Int)) (loopAt cfg 69 0) H
  | [], _, l1, ms, x, x7, y, b1, H0, B, k, a, q', i6, i8, i10, i12, i14, d, H, hN, hA, hbig, hn2, hn3, hb, hrw, hk, hk1, hG, hBH, hi6, hi8, hi10, hi12, hi14, hH0 => by
    intro hin hI
    have hN' := hN
    unfold NdAt at hN'
    have hlen : l1.length = x.argsL := by simpa using hN'.1
    refine g69t_0 _ H0 d k b1 x.argsA x.argsL x.argsQ x.argsL i6 x7 i8 p i10 c i12 y i14 { x with argsA := a, argsL := k, argsQ := q' } H ⟨fun h => ?_, fun _ H45 p45 hI45 => ?_⟩ hin hI
    · simp at h; omega
    · have hG' : Grown H45 B a q' ms := hG.on p45 (fun y hy => .inl (by rw [List.mem_singleton.1 hy]; exact hi12))
      refine ⟨hI45.pres, .mk { x with argsA := a, argsL := k, argsQ := q' } ms, ?_, ?_, ?_, ?_⟩
      · unfold anyT
        rw [if_neg hn2, if_neg hn3, List.append_nil, ← hb]
        rfl
      · rw [List.append_nil]
        unfold RwOf
        rw [if_neg hn2, if_neg hn3]
        exact ⟨rfl, hrw⟩
      · unfold NdAt
        exact ⟨hk.symm, by have := hN'.2.1; show k ≤ maxLen; omega, nds_row ms hG'.row hG'.at_ ms 0 (fun j n h => by simpa using h)⟩
      · unfold NdIds
        refine ⟨?_, NdsIds.mono (fun j hj => Nat.le_trans hH0 hj.1) (NdsIds.all hG'.ids)⟩
        cases ms with
        | nil => exact .inl rfl
        | cons m ms =>
          refine .inr ?_
          have := hG'.row.load (i := 0) (by simp)
          cases a with
          | none => cases this.1
          | some ad => exact Nat.le_trans hH0 (hG'.low ad rfl)
  | n :: l2, hs, l1, ms, x, x7, y, b1, H0, B, k, a, q', i6, i8, i10, i12, i14, d, H, hN, hA, hbig, hn2, hn3, hb, hrw, hk, hk1, hG, hBH, hi6, hi8, hi10, hi12, hi14, hH0 => by
    intro hin hI
    have hN' := hN
    unfold NdAt at hN'
    have hlen : l1.length + (l2.length + 1) = x.argsL := by simpa using hN'.1
    unfold NdsAt at hA
    obtain ⟨⟨n1, n2, n3⟩, n4, n5⟩ := hA
    have hall : l1 ++ n :: l2 = (l1 ++ [n]) ++ l2 := by simp
    refine g69t_0 _ H0 d k b1 x.argsA x.argsL x.argsQ x.argsL i6 x7 i8 p i10 c i12 y i14 { x with argsA := a, argsL := k, argsQ := q' } H ⟨fun h => ⟨⟨by omega, by omega, n1⟩, fun hI => ⟨n.root, ?ld, fun i19 H20 h19 p20 H21 p21 hI21 => ⟨_, hs n List.mem_cons_self H21 (n4.on hI21.pres), ?sh, fun x23 b24 H25 ⟨p25, M, eM, rM, aM, dM⟩ i26 H27 h26 p27 H28 p28 H29 e29 hI29 => ?app⟩⟩⟩, fun h => ?ge⟩ hin hI
    case ge => simp at h; omega
    case ld =>
      rw [hk1]
      simp only [Int.toNat_natCast]
      exact hI.pres.load0 (a := ⟨(adr x.argsA).id, (adr x.argsA).ver, (adr x.argsA).off + l1.length * 18⟩) n2 n3
    case sh =>
      rintro v H' ⟨h1, M, e, _⟩
      exact ⟨h1, M.root, _, e⟩
    case app =>
      simp only [LV.tuple.injEq, List.cons.injEq, LV.bool.injEq, and_true] at eM
      obtain ⟨eM, eb⟩ := eM
      have p21' : PresX [] H H21 := p20.trans p21 (fun j hj => .inr (by rw [List.mem_singleton.1 hj]; exact h19))
      have p28' : PresX [] H25 H28 := p27.trans p28 (fun j hj => .inr (by rw [List.mem_singleton.1 hj]; exact h26))
      have p29 : PresX [] H28 H29 := by rw [e29]; exact .push _ _ _
      have pAll : PresX [] H H29 := ((p21'.trans0 p25).trans0 p28').trans0 p29
      have G29 : Grown H29 B a q' ms := hG.on pAll (fun y hy => by cases hy)
      have hrow : ∀ ad, a = some ad → ad.id < H.next := fun ad e => by subst e; exact hG.row.id
      obtain ⟨Y, a', q'', H33, h1, h2, h3, h4⟩ := G29.more (M := M) (x := .slice (some ⟨H28.next, 18, 0⟩) 1 (.exact 1)) ((aM.on p28').on p29) (NdIds.mono (fun j hj => ⟨Nat.le_trans hBH (Nat.le_trans p21'.next hj), fun ad e => by have := hrow ad e; have := p21'.next; omega⟩) dM) (Nat.le_trans hBH pAll.next) rfl (by
          rw [e29]
          unfold firstCellsL loadN
          simp only [LHeap.get_push, if_true]
          rw [← NdC.lv_cs eM]
          rfl) (by omega)
      refine ⟨Y, a', ms.length + 1, q'', H33, ⟨by rw [hk]; exact h1, h2, fun j hj => ?_⟩, fun H34 p34 => ?_⟩
      · obtain ⟨ad, e, rfl⟩ := h4 j hj
        have := hG.low ad e
        have := hrow ad e
        have := p21'.next
        have := p25.next
        refine ⟨.inr (by omega), fun m s hs => ?_⟩
        match m, hs with
        | 0, hs => cases hs; show i6 ≠ _; omega
        | 1, hs => cases hs; show i8 ≠ _; omega
        | 2, hs => cases hs; show i10 ≠ _; omega
        | 3, hs => cases hs; show i12 ≠ _; omega
        | 4, hs => cases hs; show i14 ≠ _; omega
        | 5, hs => cases hs; show i19 ≠ _; omega
        | 6, hs => cases hs; show i26 ≠ _; omega
        | m + 7, hs => simp [nth] at hs
      · have hk' : (k : Int) + 1 = ((k + 1 : Nat) : Int) := by simp
        rw [lwrap_small (by omega) (by omega), hk']
        have next := fun (b' : Bool) (hb' : b' = anyTs p c (l1 ++ [n])) (d' : Nat → LV) => loop69 p c l2 (fun m hm => hs m (List.mem_cons_of_mem _ hm)) (l1 ++ [n]) (ms ++ [M]) x x7 y b' H0 B (k + 1) a' q'' i6 i8 i10 i12 i14 d' H34 (hall ▸ hN) (by rw [List.length_append]; exact n5) hbig hn2 hn3 hb' (hrw.snoc rM) (by rw [List.length_append, hk]; rfl) (by rw [List.length_append, hk1]; rfl)
          (h3.on p34 (fun y hy => .inl (by rw [List.mem_singleton.1 hy]; exact hi14))) (Nat.le_trans (Nat.le_trans hBH pAll.next) (Nat.le_trans h2.next p34.next)) hi6 hi8 hi10 hi12 hi14 hH0
        rw [hall, ← hk]
        refine ⟨fun hb1 d35 => next true ?_ d35, fun hb1 d36 => next b24 ?_ d36⟩
        · rw [anyTs_app, ← hb, hb1]; rfl
        · rw [anyTs_app, ← hb, hb1, eb]; simp [anyTs]
end Go.Proofs.YtjihhflffkoffaaGreatDoor.Z
