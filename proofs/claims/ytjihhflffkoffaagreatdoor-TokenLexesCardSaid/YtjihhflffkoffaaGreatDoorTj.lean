/- Contracts of functions of the program; no condition. -/
import Derived.Test.YtjihhflffkoffaaGreatDoorTi
set_option linter.unusedSimpArgs false
set_option linter.unusedVariables false
set_option linter.unusedSectionVars false
set_option linter.unnecessarySimpa false
namespace Go.Proofs.YtjihhflffkoffaaGreatDoor.Z
open Go Go.Lm
set_option maxRecDepth 100000

theorem named_book (t : List UInt8) : namedF (91 :: t) = match cutF 93 t with | some (b, _) => if nameF b then endF b (b.length + 2) (91 :: t) else none | none => none := rfl
theorem loop158 (t s : List UInt8) (hst : 91 :: t = s) (hs : s.length ≤ 1000) (H0 : LHeap) (i1 : Nat) : ∀ (C A : List UInt8) (d : Nat → LV) (H : LHeap), A ++ C = t → cutF 93 t = (match cutF 93 C with | some (x, y) => some (A ++ x, y) | none => none) →
    GoesT cfg 158 (Ret (tokL (namedF s)) H0) [] H0 [⟨i1, zeroT.cs, 127⟩] (L158t_0 d ((A.length + 1 : Nat) : Int) s) (loopAt cfg 158 0) H
  | [], A, d, H, hA, hc => by
    intro hin hI
    rw [List.append_nil] at hA
    have hl : s.length = A.length + 1 := by rw [← hst, hA]; rfl
    have F : namedF s = none := by rw [← hst, named_book, hc]; rfl
    refine g158t_0 _ H0 d ((A.length + 1 : Nat) : Int) s i1 zeroT H ⟨fun h => ?_, fun _ => ⟨fun _ H70 _ hI => ⟨by rw [F]; rfl, hI.pres⟩, fun h => ?_⟩⟩ hin hI
    · simp at h; omega
    · simp at h; omega
  | c :: C, A, d, H, hA, hc => by
    intro hin hI
    have hl : s.length = A.length + (C.length + 1) + 1 := by rw [← hst, ← hA]; simp
    have hb : byteAt s ((A.length + 1 : Nat) : Int) = (c.toNat : Int) := by rw [← hst, ← hA]; exact byteAt_app (91 :: A) c C
    have bad : ∀ {H' : LHeap}, namedF s = none → PresX [] H0 H' → Ret (tokL (namedF s)) H0 (.tuple [.agg [.int .i64 0, .int .i64 0, .str [], .str [], .str [], .int .i64 0, .int .i64 0, .bool false, .bool false], .int .i64 0]) H' := fun h p => ⟨by rw [h]; rfl, p⟩
    have good : ∀ {H' : LHeap} {t : TokC} {n : Nat}, namedF s = some (t, n) → PresX [] H0 H' → Ret (tokL (namedF s)) H0 (.tuple [.agg t.cs, .int .i64 (n : Int)]) H' := fun h p => ⟨by rw [h]; rfl, p⟩
    refine g158t_0 _ H0 d ((A.length + 1 : Nat) : Int) s i1 zeroT H ⟨fun _ => ⟨by omega, fun h93 d5 => ?_, fun h93 => ⟨fun h => (by simp at h; omega), fun _ => ?_⟩⟩, fun h => (by simp at h; omega)⟩ hin hI
    · rw [hb] at h93
      have hne : (c == 93) = false := by
        rw [bne_iff_ne] at h93
        rw [beq_eq_false_iff_ne]
        intro e; subst e; exact h93 rfl
      rw [lwrap_small (by omega) (by omega), show (((A.length + 1 : Nat) : Int)) + 1 = (((A ++ [c]).length + 1 : Nat) : Int) by simp]
      refine loop158 t s hst hs H0 i1 C (A ++ [c]) d5 H (by rw [← hA]; simp) ?_
      rw [hc, cutF_cons, hne, if_neg (by simp)]
      cases cutF 93 C with
      | none => rfl
      | some p => simp
    · rw [hb] at h93
      have hceq : c = 93 := UInt8.toNat_inj.1 (by show c.toNat = 93; simp at h93; omega)
      subst hceq
      rw [cutF_cons, beq_self_eq_true, if_pos rfl] at hc
      simp only [List.append_nil] at hc
      have hnf : namedF s = if nameF A then endF A (A.length + 2) s else none := by
        rw [← hst, named_book, hc]
      have hsub : subStr s 1 ((A.length + 1 : Nat) : Int) = A := by
        unfold subStr; rw [← hst, ← hA]; simp
      have w1 : lwrap .i64 (((A.length + 1 : Nat) : Int) + 1) = ((A.length + 2 : Nat) : Int) := by rw [lwrap_small (by omega) (by omega)]; simp; omega
      rw [hsub, w1, sub_drop]
      refine ⟨by omega, fun hI => ⟨_, x97 A _, Ret.use ⟨_, rfl⟩, fun b9 H10 ⟨e9, _⟩ => ⟨fun h9 H11 _ hI => bad ?_ hI.pres, fun h9 => ⟨by omega, ?_⟩⟩⟩⟩
      · cases e9
        have : nameF A = false := by simpa using h9
        rw [hnf, this]; rfl
      · cases e9
        have hnA : nameF A = true := by simpa using h9
        have hbne := name_ne hnA
        rw [hnA, if_pos rfl] at hnf
        have F0 : namedF s = endF A (A.length + 2) s := hnf
        have hk : A.length + 2 ≤ s.length := by omega
        have w2 : lwrap .i64 ((((A.length + 2) : Nat) : Int) + ((spanF wordB (s.drop (A.length + 2)) : Nat) : Int)) = ((endN (A.length + 2) s : Nat) : Int) := by
          have := endN_le hk
          unfold endN at this ⊢
          skip
          rw [lwrap_small (by omega) (by omega)]; simp
        refine ⟨by omega, fun hI => ⟨_, s240 _ (by rw [List.length_drop]; omega) _, Ret.use ⟨_, rfl⟩, fun n17 H18 ⟨e17, _⟩ => ?_⟩⟩
        cases e17
        rw [w2]
        have hN := endN_le hk
        have hbb : endN (A.length + 2) s < s.length → bangB (A.length + 2) s = (byteAt s ((endN (A.length + 2) s : Nat) : Int) == 33) := fun h => bang_byte h
        have hbe : ¬ endN (A.length + 2) s < s.length → bangB (A.length + 2) s = false := fun h => bang_end h
        generalize hn : endN (A.length + 2) s = n at *
        have hword : bangB (A.length + 2) s = false → namedF s = wordF A ((s.drop (A.length + 2)).take (n - (A.length + 2))) n := by
          intro hbang
          generalize hw : (s.drop (A.length + 2)).take (n - (A.length + 2)) = w at *
          rw [F0]; unfold endF; rw [hbang, hn, hw]; rfl
        refine ⟨fun hnl => ⟨by simp at hnl; omega, fun h21 => ?_, fun h21 => ?w1⟩, fun hnl => ?w2⟩
        · have hlt : n < s.length := by simpa using hnl
          have hbang : bangB (A.length + 2) s = true := by rw [hbb hlt]; exact h21
          have hM := endM_le hk hbang
          rw [hn] at hM
          have w3 : lwrap .i64 (((n : Nat) : Int) + 1) = ((n + 1 : Nat) : Int) := by rw [lwrap_small (by omega) (by omega)]; simp
          have w4 : lwrap .i64 (((n : Nat) : Int) + lwrap .i64 (1 + ((spanF wordB (s.drop (n + 1)) : Nat) : Int))) = ((endM (A.length + 2) s : Nat) : Int) := by
            unfold endM at hM ⊢
            rw [hn] at hM ⊢
            rw [lwrap_small (n := 1 + ((spanF wordB (s.drop (n + 1)) : Nat) : Int)) (by omega) (by omega), lwrap_small (by omega) (by omega)]; simp
          rw [w3, sub_drop]
          refine ⟨by omega, fun hI => ⟨_, s240 _ (by rw [List.length_drop]; omega) _, Ret.use ⟨_, rfl⟩, fun n25 H26 ⟨e25, _⟩ => ?_⟩⟩
          cases e25
          rw [w4, sub_take]
          have F1 : namedF s = (refTF (s.take (endM (A.length + 2) s))).map fun r => (refT r, endM (A.length + 2) s) := by rw [F0]; unfold endF; rw [hbang, if_pos rfl]
          refine ⟨by omega, fun hI => ⟨_, s241 _ (by rw [List.length_take]; omega) _, Ret.use (cellL_sh _), fun x29 b30 H31 ⟨e30, _⟩ i32 H33 _ _ H34 _ => ⟨fun h H35 _ hI => bad ?_ hI.pres, fun h H36 _ hI => good (t := refT x29) ?_ hI.pres⟩⟩⟩
          · have hb : b30 = false := by simpa using h
            rw [F1, cellL_inv e30, hb]; rfl
          · have hb : b30 = true := by simpa using h
            rw [F1, cellL_inv e30, hb]; rfl
        case' w1 =>
          have hbang : bangB (A.length + 2) s = false := by rw [hbb (by simpa using hnl)]; exact h21
        case' w2 =>
          have hbang : bangB (A.length + 2) s = false := hbe (by simpa using hnl)
        all_goals
          have F1 := hword hbang
          rw [sub_part]
          generalize hw : (s.drop (A.length + 2)).take (n - (A.length + 2)) = w at *
          have hwl : w.length ≤ 1000 := by rw [← hw, List.length_take]; first | omega | (rw [List.length_drop]; omega)
          refine ⟨by omega, fun hI => ⟨_, s242 w hwl _, Ret.use (cellL_sh _), fun x92 b93 H94 ⟨e93, _⟩ i95 H96 _ _ H97 _ => ?_⟩⟩
          rw [word_none (fun e => absurd e hbne), show ((A : List UInt8) == []) = false by simpa using hbne, Bool.false_and, Bool.or_false] at F1
          refine ⟨fun h93 => ⟨fun h6 => absurd (eq_of_beq h6) hbne, fun h6 hI => ⟨_, s243 w hwl _ _, Ret.use ⟨_, rfl⟩, fun b42 H43 ⟨e42, _⟩ => ⟨fun h42 H44 _ hI => bad ?_ hI.pres, fun h42 H45 _ hI => good (t := wordT A w) ?_ hI.pres⟩⟩⟩, fun h93 hI => ⟨_, s243 w hwl _ _, Ret.use ⟨_, rfl⟩, fun b42 H43 ⟨e42, _⟩ => ⟨fun h42 H44 _ hI => bad ?_ hI.pres, fun h42 H45 _ hI => good (t := wordT A w) ?_ hI.pres⟩⟩⟩
          all_goals
            rw [show ((A : List UInt8) == []) = false by simpa using hbne] at e42
            simp only [Bool.not_false, Bool.not_true, Bool.false_and, Bool.or_false, LV.bool.injEq, Bool.not_eq_true', Bool.not_eq_false'] at e42 h42
            rw [F1, ← e42, h42]; rfl

theorem s158 (c : UInt8) (t : List UInt8) (hs : (c :: t).length ≤ 1000) (H : LHeap) : CallL cfg 158 [.str (c :: t)] H (Ret (tokL (namedF (c :: t))) H) := by
  have h0 : byteAt (c :: t) 0 = (c.toNat : Int) := byteAt_app [] c t
  have hnf : namedF (c :: t) = if c == 91 then (match cutF 93 t with
      | some (b, _) => if nameF b then endF b (b.length + 2) (c :: t) else none
      | none => none) else endF [] 0 (c :: t) := rfl
  have hlen : (c :: t).length = t.length + 1 := rfl
  have hlp : c = 91 → ∀ (i1 : Nat) (d : Nat → LV) (H' : LHeap), GoesT cfg 158 (Ret (tokL (namedF (c :: t))) H) [] H [⟨i1, zeroT.cs, 127⟩] (L158t_0 d ((0 + 1 : Nat) : Int) (c :: t)) (loopAt cfg 158 0) H' := by
    intro hc i1 d H'
    subst hc
    exact loop158 t (91 :: t) rfl hs H i1 t [] d H' rfl (by cases cutF 93 t with | none => rfl | some p => rfl)
  generalize hst : c :: t = s at *
  have bad : ∀ {H' : LHeap}, namedF s = none → PresX [] H H' → Ret (tokL (namedF s)) H (.tuple [.agg [.int .i64 0, .int .i64 0, .str [], .str [], .str [], .int .i64 0, .int .i64 0, .bool false, .bool false], .int .i64 0]) H' := fun h p => ⟨by rw [h]; rfl, p⟩
  have good : ∀ {H' : LHeap} {t : TokC} {n : Nat}, namedF s = some (t, n) → PresX [] H H' → Ret (tokL (namedF s)) H (.tuple [.agg t.cs, .int .i64 (n : Int)]) H' := fun h p => ⟨by rw [h]; rfl, p⟩
  refine e158t _ s H fun i1 H2 _ _ => ⟨by omega, fun h91 d4 => ?book, fun h91 => ?plain⟩
  case book =>
    have hc : c = 91 := by rw [h0] at h91; exact UInt8.toNat_inj.1 (by show c.toNat = 91; have := eq_of_beq h91; omega)
    exact hlp hc i1 d4 H2
  case plain =>
    have hc : (c == 91) = false := by
      rw [h0] at h91
      rw [beq_eq_false_iff_ne] at h91 ⊢
      intro e; subst e; exact h91 rfl
    rw [hc, if_neg (by simp)] at hnf
    have F0 : namedF s = endF [] 0 s := hnf
    have hk : 0 ≤ s.length := by omega
    rw [sub_all]
    have w2 : lwrap .i64 ((0 : Int) + ((spanF wordB (s) : Nat) : Int)) = ((endN 0 s : Nat) : Int) := by
      have := endN_le hk
      unfold endN at this ⊢
      rw [List.drop_zero] at this ⊢
      rw [lwrap_small (by omega) (by omega)]; simp
    refine ⟨by omega, fun hI => ⟨_, s240 _ (by omega) _, Ret.use ⟨_, rfl⟩, fun n17 H18 ⟨e17, _⟩ => ?_⟩⟩
    cases e17
    rw [w2]
    have hN := endN_le hk
    have hbb : endN 0 s < s.length → bangB 0 s = (byteAt s ((endN 0 s : Nat) : Int) == 33) := fun h => bang_byte h
    have hbe : ¬ endN 0 s < s.length → bangB 0 s = false := fun h => bang_end h
    generalize hn : endN 0 s = n at *
    have hword : bangB 0 s = false → namedF s = wordF [] (s.take n) n := by
      intro hbang
      generalize hw : s.take n = w at *
      rw [F0]; unfold endF; rw [hbang, hn, List.drop_zero, Nat.sub_zero, hw]; rfl
    refine ⟨fun hnl => ⟨by simp at hnl; omega, fun h21 => ?_, fun h21 => ?w1⟩, fun hnl => ?w2⟩
    · have hlt : n < s.length := by simpa using hnl
      have hbang : bangB 0 s = true := by rw [hbb hlt]; exact h21
      have hM := endM_le hk hbang
      rw [hn] at hM
      have w3 : lwrap .i64 (((n : Nat) : Int) + 1) = ((n + 1 : Nat) : Int) := by rw [lwrap_small (by omega) (by omega)]; simp
      have w4 : lwrap .i64 (((n : Nat) : Int) + lwrap .i64 (1 + ((spanF wordB (s.drop (n + 1)) : Nat) : Int))) = ((endM 0 s : Nat) : Int) := by
        unfold endM at hM ⊢
        rw [hn] at hM ⊢
        rw [lwrap_small (n := 1 + ((spanF wordB (s.drop (n + 1)) : Nat) : Int)) (by omega) (by omega), lwrap_small (by omega) (by omega)]; simp
      rw [w3, sub_drop]
      refine ⟨by omega, fun hI => ⟨_, s240 _ (by rw [List.length_drop]; omega) _, Ret.use ⟨_, rfl⟩, fun n25 H26 ⟨e25, _⟩ => ?_⟩⟩
      cases e25
      rw [w4, sub_take]
      have F1 : namedF s = (refTF (s.take (endM 0 s))).map fun r => (refT r, endM 0 s) := by rw [F0]; unfold endF; rw [hbang, if_pos rfl]
      refine ⟨by omega, fun hI => ⟨_, s241 _ (by rw [List.length_take]; omega) _, Ret.use (cellL_sh _), fun x29 b30 H31 ⟨e30, _⟩ i32 H33 _ _ H34 _ => ⟨fun h H35 _ hI => bad ?_ hI.pres, fun h H36 _ hI => good (t := refT x29) ?_ hI.pres⟩⟩⟩
      · have hb : b30 = false := by simpa using h
        rw [F1, cellL_inv e30, hb]; rfl
      · have hb : b30 = true := by simpa using h
        rw [F1, cellL_inv e30, hb]; rfl
    case' w1 =>
      have hbang : bangB 0 s = false := by rw [hbb (by simpa using hnl)]; exact h21
    case' w2 =>
      have hbang : bangB 0 s = false := hbe (by simpa using hnl)
    all_goals
      have F1 := hword hbang
      rw [sub_take]
      generalize hw : s.take n = w at *
      have hwl : w.length ≤ 1000 := by rw [← hw, List.length_take]; first | omega | (rw [List.length_drop]; omega)
      refine ⟨by omega, fun hI => ⟨_, s242 w hwl _, Ret.use (cellL_sh _), fun x92 b93 H94 ⟨e93, _⟩ i95 H96 _ _ H97 _ => ⟨fun h93 H98 _ hI => good (t := refT x92) ?_ hI.pres, fun h93 hI => ⟨_, s243 w hwl _ _, Ret.use ⟨_, rfl⟩, fun b42 H43 ⟨e42, _⟩ => ⟨fun h42 H44 _ hI => bad ?_ hI.pres, fun h42 H45 _ hI => good (t := wordT [] w) ?_ hI.pres⟩⟩⟩⟩⟩
      · have := cellL_inv e93
        rw [h93] at this
        rw [F1, word_cell rfl this]
      all_goals
        have hcn := cellL_inv e93
        rw [h93] at hcn
        simp only [Bool.not_false, Bool.true_and, LV.bool.injEq, Bool.not_eq_true', Bool.not_eq_false'] at e42 h42
        rw [F1, word_none (fun _ => hcn), show (([] : List UInt8) == []) = true from rfl, Bool.true_and, ← e42, h42]; rfl

end Go.Proofs.YtjihhflffkoffaaGreatDoor.Z
