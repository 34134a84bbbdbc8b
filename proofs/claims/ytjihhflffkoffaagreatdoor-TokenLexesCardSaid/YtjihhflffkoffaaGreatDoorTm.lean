/- Contracts of functions of the program; no condition. -/
import Derived.Test.YtjihhflffkoffaaGreatDoorTl
import Derived.Test.YtjihhflffkoffaaGreatDoorT9
set_option linter.unusedSimpArgs false
set_option linter.unusedVariables false
set_option linter.unusedSectionVars false
set_option linter.unnecessarySimpa false
namespace Go.Proofs.YtjihhflffkoffaaGreatDoor.Z
open Go Go.Lm
set_option maxRecDepth 100000

/-! The document's signs -/
def opCells : List LV := [.int .u8 43, .int .u8 45, .int .u8 42, .int .u8 47, .int .u8 94, .int .u8 38, .int .u8 61, .int .u8 60, .int .u8 62, .int .u8 37, .int .u8 40, .int .u8 41, .int .u8 44, .int .u8 58]

theorem loop76_3 (c : UInt8) (s : List UInt8) (hs : 1 ≤ s.length) (hd : s.take 1 = [c]) (H0 : LHeap) (i : Nat) (r : Nat) (R0 : Option (TokC × Nat)) : ∀ (C A : List UInt8) (d : Nat → LV) (H : LHeap), A ++ C = OPS → r < H.next → H.get r = some (.cells opCells 5 14 14 .mark false true) →
    R0 = (if (cutF c C).isSome then some (opT [c], 1) else none) →
    GoesT cfg 76 (Ret (tokL R0) H0) [] H0 [⟨i, zeroT.cs, 127⟩] (L76t_3 d s (A.length : Int) (c.toNat : Int) (some ⟨r, 14, 0⟩) 14 (.exact 14) ((14 : Nat) : Int)) (loopAt cfg 76 3) H
  | [], A, d, H, hA, hr, hg, hR => by
    intro hin hI
    have hl : A.length = 14 := by have := congrArg List.length hA; simpa [OPS] using this
    refine g76t_3 _ H0 d s A.length c.toNat (some ⟨r, 14, 0⟩) 14 (.exact 14) ((14 : Nat) : Int) i zeroT H ⟨fun h => (by rw [hl] at h; simp at h), fun _ H15 _ hI => ⟨by rw [hR]; rfl, hI.pres⟩⟩ hin hI
  | b :: C, A, d, H, hA, hr, hg, hR => by
    intro hin hI
    have hl : A.length + (C.length + 1) = 14 := by have := congrArg List.length hA; simpa [OPS] using this
    have hb : OPS[A.length]? = some b := by rw [← hA, List.getElem?_append_right (Nat.le_refl _)]; simp
    have hcell : nth opCells A.length = some (.int .u8 (b.toNat : Int)) := by
      rw [nth_eq]
      have : opCells = OPS.map fun b => LV.int .u8 (b.toNat : Int) := rfl
      rw [this, List.getElem?_map, hb]; rfl
    refine g76t_3 _ H0 d s A.length c.toNat (some ⟨r, 14, 0⟩) 14 (.exact 14) ((14 : Nat) : Int) i zeroT H ⟨fun _ => ⟨⟨by omega, by omega, rfl⟩, fun _ => ⟨(b.toNat : Int), ?ld, fun he => ⟨by omega, fun H13 _ hI => ⟨?_, hI.pres⟩⟩, fun he d14 => ?_⟩⟩, fun h => (by simp at h; omega)⟩ hin hI
    case ld =>
      unfold loadT
      rw [show isAggT cfg.P 5 = some false by kernel_rfl]
      show load1 H ⟨r, 14, 0 + (A.length : Int).toNat * 1⟩ = _
      unfold load1
      simp only [hg, Int.toNat_natCast, Nat.mul_one, Nat.zero_add]
      rw [if_pos (by simp only [Bool.and_eq_true, Nat.ble_eq]; omega)]
      exact hcell
    · have hbc : b = c := UInt8.toNat_inj.1 (by have := eq_of_beq he; omega)
      subst hbc
      rw [hR, cutF_cons, beq_self_eq_true, if_pos rfl]
      rw [show (1 : Int) = ((1 : Nat) : Int) from rfl, sub_take, hd]
      rfl
    · have hbc : (b == c) = false := by
        rw [beq_eq_false_iff_ne] at he ⊢
        intro e; subst e; exact he rfl
      rw [lwrap_small (by omega) (by omega), show (A.length : Int) + 1 = (((A ++ [b]).length : Nat) : Int) by simp]
      refine loop76_3 c s hs hd H0 i r R0 C (A ++ [b]) d14 H (by rw [← hA]; simp) hr hg ?_
      have : (cutF c (b :: C)).isSome = (cutF c C).isSome := by
        rw [cutF_cons, hbc]
        cases cutF c C <;> rfl
      rw [hR, this]

def TWOS : List (List UInt8) := [[60, 62], [60, 61], [62, 61]]
theorem twos_0 : indexL cfg.P 216 (NameC.mk [60, 62] [60, 61] [62, 61]).lv (.int .i64 ((0 : Nat) : Int)) = some (.str [60, 62]) := by kernel_rfl
theorem twos_1 : indexL cfg.P 216 (NameC.mk [60, 62] [60, 61] [62, 61]).lv (.int .i64 ((1 : Nat) : Int)) = some (.str [60, 61]) := by kernel_rfl
theorem twos_2 : indexL cfg.P 216 (NameC.mk [60, 62] [60, 61] [62, 61]).lv (.int .i64 ((2 : Nat) : Int)) = some (.str [62, 61]) := by kernel_rfl
theorem twos_at (k : Nat) (x : List UInt8) (h : TWOS[k]? = some x) : indexL cfg.P 216 (NameC.mk [60, 62] [60, 61] [62, 61]).lv (.int .i64 (k : Int)) = some (.str x) := by
  have : k < 3 := by
    have := (List.getElem?_eq_some_iff.1 h).1
    simpa [TWOS] using this
  have hk : k = 0 ∨ k = 1 ∨ k = 2 := by omega
  rcases hk with rfl | rfl | rfl
  · rw [← Option.some.inj h]; exact twos_0
  · rw [← Option.some.inj h]; exact twos_1
  · rw [← Option.some.inj h]; exact twos_2

theorem loop76_2 (c : UInt8) (s : List UInt8) (hs : 1 ≤ s.length) (hd : s.take 1 = [c]) (H0 : LHeap) (i : Nat) (R0 : Option (TokC × Nat)) : ∀ (l : List (List UInt8)) (k : Nat) (d : Nat → LV) (H : LHeap), TWOS.drop k = l →
    R0 = (if l.any (fun x => s.take 2 == x) then some (opT (s.take 2), 2) else if (cutF c OPS).isSome then some (opT [c], 1) else none) →
    GoesT cfg 76 (Ret (tokL R0) H0) [] H0 [⟨i, zeroT.cs, 127⟩] (L76t_2 d (k : Int) s (NameC.mk [60, 62] [60, 61] [62, 61]) (c.toNat : Int)) (loopAt cfg 76 2) H
  | [], k, d, H, hl, hR => by
    intro hin hI
    have h3 : 3 ≤ k := by
      have := congrArg List.length hl
      simp [TWOS] at this; omega
    have hi := (hI.slot 0 _ rfl).1
    refine g76t_2 _ H0 d k s _ c.toNat i zeroT H ⟨fun h => (by simp at h; omega), fun _ H12 e12 _ => ⟨some ⟨H.next, 14, 0⟩, 14, .exact 14, [H.next], H12.put H.next (.cells opCells 5 14 14 .mark false true), ⟨?_, .put _ _ _, fun j hj => ?_⟩, fun d17 => ?_⟩⟩ hin hI
    · have : convertL cfg.P H12 155 155 (.slice (some ⟨H.next, 14, 0⟩) 14 (.exact 14)) = some (.slice (some ⟨H.next, 14, 0⟩) 14 (.exact 14), H12.put H.next (.cells opCells 5 14 14 .mark false true)) := by
        unfold convertL
        rw [show cfg.P.underlying 155 = some (.slice 5) by kernel_rfl]
        simp only [show cfg.P.underlying 5 = some (.int .u8) by kernel_rfl, Nat.beq_refl, if_true]
        rw [e12, LHeap.get_push, if_pos rfl]
        rfl
      show (match convertL cfg.P H12 155 155 (.slice (some ⟨H.next, 14, 0⟩) 14 (.exact 14)) with | some (x, H') => some [(LNext.value x, H')] | none => none) = _
      rw [this]
    · rw [List.mem_singleton.1 hj]
      exact okId_box (.inr hI.pres.next) (fun e => Nat.lt_irrefl _ (by rw [← e] at hi; exact hi))
    · refine loop76_3 c s hs hd H0 i H.next R0 OPS [] d17 _ rfl ?_ ?_ (by rw [hR]; rfl)
      · show H.next < H12.next
        rw [e12]; exact Nat.lt_succ_self _
      · rw [LHeap.get_put, if_pos rfl]
  | x :: l, k, d, H, hl, hR => by
    intro hin hI
    have h3 : k < 3 := by
      have := congrArg List.length hl
      simp [TWOS] at this; omega
    have hx : TWOS[k]? = some x := by
      have := congrArg (fun l => l[0]?) hl
      simpa using this
    have hx2 : x.length = 2 := by
      have hk : k = 0 ∨ k = 1 ∨ k = 2 := by omega
      rcases hk with rfl | rfl | rfl <;> (rw [← Option.some.inj hx]; rfl)
    have hl' : TWOS.drop (k + 1) = l := by rw [← List.drop_drop, hl]; rfl
    rw [List.any_cons] at hR
    have e2 : subStr s 0 2 = s.take 2 := by rw [show (2 : Int) = ((2 : Nat) : Int) from rfl, sub_take]
    have next : (s.take 2 == x) = false → ∀ d, GoesT cfg 76 (Ret (tokL R0) H0) [] H0 [⟨i, zeroT.cs, 127⟩] (L76t_2 d (lwrap .i64 ((k : Int) + 1)) s (NameC.mk [60, 62] [60, 61] [62, 61]) (c.toNat : Int)) (loopAt cfg 76 2) H := by
      intro hn d
      rw [lwrap_small (by omega) (by omega)]
      exact loop76_2 c s hs hd H0 i R0 l (k + 1) d H hl' (by rw [hR, hn, Bool.false_or])
    refine g76t_2 _ H0 d k s _ c.toNat i zeroT H ⟨fun _ => ⟨x, twos_at k x hx, fun hlen => ⟨by simp at hlen; omega, fun he H16 _ hI => ⟨?_, hI.pres⟩, fun he d17 => next ?_ d17⟩, fun hlen d18 => next ?_ d18⟩, fun h => (by simp at h; omega)⟩ hin hI
    · rw [e2] at he
      rw [hR, he, Bool.true_or, if_pos rfl]
      have hx' := eq_of_beq he
      rw [← hx']; rfl
    · rw [e2] at he
      exact he
    · rw [beq_eq_false_iff_ne]
      intro e
      have := congrArg List.length e
      rw [List.length_take] at this
      simp at hlen; omega

/-- The token that a text begins with, and its length. -/
def oneF : List UInt8 → Option (TokC × Nat)
  | [] => none
  | c :: t => if digF (c.toNat : Int) then numTF (c :: t) else if (c.toNat : Int) == 34 then quotedF (c :: t) else if (c.toNat : Int) == 35 then faultF (c :: t)
    else if (c.toNat : Int) == 91 || ((c.toNat : Int) == 36 || letF (c.toNat : Int)) then namedF (c :: t) else opF (c :: t)

theorem s156 (H : LHeap) : CallL cfg 156 [] H (Ret NAG H) := e156t _ H fun i0 H1 _ _ H2 _ hI => ⟨rfl, hI.pres⟩

theorem tok_cs {x : TokC} {n : Int} {o : Option (TokC × Nat)} {H H' : LHeap} (h : LV.tuple [x.lv, .int .i64 n] = tokL o) (p : PresX [] H H') : Ret (tokL o) H (.tuple [x.lv, .int .i64 n]) H' := ⟨h, p⟩

/-- The document's. -/
theorem s76 (c : UInt8) (t : List UInt8) (hs : (c :: t).length ≤ 1000) (H : LHeap) : CallL cfg 76 [.str (c :: t)] H (Ret (tokL (oneF (c :: t))) H) := by
  have hb : byteAt (c :: t) 0 = (c.toNat : Int) := byteAt_app [] c t
  have h1 : oneF (c :: t) = if digF (c.toNat : Int) then numTF (c :: t) else if (c.toNat : Int) == 34 then quotedF (c :: t) else if (c.toNat : Int) == 35 then faultF (c :: t)
    else if (c.toNat : Int) == 91 || ((c.toNat : Int) == 36 || letF (c.toNat : Int)) then namedF (c :: t) else opF (c :: t) := rfl
  have hop : opF (c :: t) = if twoB (c :: t) then some (opT ((c :: t).take 2), 2) else if (cutF c OPS).isSome then some (opT [c], 1) else none := rfl
  have hd1 : (c :: t).take 1 = [c] := rfl
  have c155 := s155 c t hs
  have c158 := s158 c t hs
  have hl1 : 1 ≤ (c :: t).length := by simp
  generalize c :: t = s at *
  refine e76t _ s H fun i1 H2 _ _ => ?_
  rw [hb]
  refine ⟨by omega, fun _ => ⟨_, x153 _ H2, Ret.use ⟨_, rfl⟩, fun b5 H6 ⟨e5, _⟩ => ⟨fun h5 d7 => ?_, fun h5 => ?_⟩⟩⟩
  · cases e5
    rw [h1, h5, if_pos rfl]
    exact loop76_0 s hs H i1 s [] d7 H6 rfl (by simp)
  · cases e5
    rw [h5, if_neg (by simp)] at h1
    refine ⟨fun h34 _ => ⟨_, c155 H6, Ret.use (tokL_sh _), fun x9 n10 H11 ⟨e, _⟩ H12 _ hI => ?_⟩, fun h34 => ⟨fun h35 _ => ⟨_, s156 H6, Ret.use ⟨_, _, _, _, _, _, _, _, _, rfl⟩, fun s14 s15 s16 s17 s18 s19 s20 s21 s22 H23 ⟨e, _⟩ d24 => ?_⟩, fun h35 => ⟨fun h91 _ => ⟨_, c158 H6, Ret.use (tokL_sh _), fun x9 n10 H11 ⟨e, _⟩ H12 _ hI => ?_⟩, fun h91 => ⟨fun h36 _ => ⟨_, c158 H6, Ret.use (tokL_sh _), fun x9 n10 H11 ⟨e, _⟩ H12 _ hI => ?_⟩, fun h36 _ => ⟨_, x157 _ H6, Ret.use ⟨_, rfl⟩, fun b36 H37 ⟨e36, _⟩ => ⟨fun hb36 _ => ⟨_, c158 H37, Ret.use (tokL_sh _), fun x9 n10 H11 ⟨e, _⟩ H12 _ hI => ?_⟩, fun hb36 d43 => ?_⟩⟩⟩⟩⟩⟩
    · rw [h1, h34, if_pos rfl]; exact tok_cs e hI.pres
    · rw [h1, h34, if_neg (by simp), h35, if_pos rfl]
      unfold NAG at e
      simp only [LV.agg.injEq, List.cons.injEq, LV.str.injEq, and_true] at e
      obtain ⟨rfl, rfl, rfl, rfl, rfl, rfl, rfl, rfl, rfl⟩ := e
      -- the first name is passed
      intro hin hI
      refine g76t_1 _ H d24 0 s _ _ _ _ _ _ _ _ _ i1 zeroT H23 ⟨fun _ => ⟨[], nag_0, fun h => (by cases h), fun _ d19 => ?_⟩, fun h => (by simp at h)⟩ hin hI
      rw [lwrap_small (by omega) (by omega)]
      exact loop76_1 s hs H i1 (faultF s) NAMES 1 d19 H23 (by omega) rfl rfl
    · rw [h1, h34, if_neg (by simp), h35, if_neg (by simp), h91, Bool.true_or, if_pos rfl]; exact tok_cs e hI.pres
    · rw [h1, h34, if_neg (by simp), h35, if_neg (by simp), h36, Bool.true_or, Bool.or_true, if_pos rfl]; exact tok_cs e hI.pres
    · cases e36
      rw [h1, h34, if_neg (by simp), h35, if_neg (by simp), hb36, Bool.or_true, Bool.or_true, if_pos rfl]; exact tok_cs e hI.pres
    · cases e36
      rw [h1, h34, if_neg (by simp), h35, if_neg (by simp), h91, h36, hb36]
      refine loop76_2 c s hl1 hd1 H i1 (opF s) TWOS 0 d43 H37 rfl ?_
      rw [hop]
      unfold twoB
      simp [TWOS]
end Go.Proofs.YtjihhflffkoffaaGreatDoor.Z
