/- Contracts of functions of the program; no condition. -/
import Derived.Test.YtjihhflffkoffaaGreatDoorW12
import Derived.Test.YtjihhflffkoffaaGreatDoorGs
set_option linter.unusedSimpArgs false
set_option linter.unusedVariables false
set_option linter.unusedSectionVars false
set_option linter.unnecessarySimpa false
namespace Go.Proofs.YtjihhflffkoffaaGreatDoor.Z
open Go Go.Lm
set_option maxRecDepth 100000

/-- Upper. -/
theorem loop252 (H0 : LHeap) (r n : Nat) (hr : H0.next ≤ r) (hn : n ≤ 9223372036854775807) : ∀ (C A : List UInt8) (d : Nat → LV) (H : LHeap), A.length + C.length = n → r < H.next → H.get r = some (.cells (bcs (A.map upB ++ C)) 5 n n .mark false false) →
    GoesT cfg 252 (Ret (.str ((A ++ C).map upB)) H0) [] H0 [] (L252t_0 d (A.length : Int) (some ⟨r, n, 0⟩) n (.free 1) (some ⟨r, n, 0⟩) n (.free 1) (n : Int)) (loopAt cfg 252 0) H
  | [], A, d, H, hl, hlt, hg => by
    intro hin hI
    refine g252t_0 _ H0 d A.length (some ⟨r, n, 0⟩) n (.free 1) (some ⟨r, n, 0⟩) n (.free 1) n H ⟨fun h => ?_, fun h => ⟨A.map upB, H, conv_from ?_, fun hI => ⟨by rw [List.append_nil], hI.pres⟩⟩⟩ hin hI
    · simp at h hl; omega
    · unfold loadN
      rw [List.append_nil] at hg
      simp only [hg]
      rw [if_pos (by simp), dropN_eq, List.drop_zero, takeN_of _ _ (by rw [bcs_len, List.length_map]; simp at hl; omega), List.take_of_length_le (by rw [bcs_len, List.length_map]; simp at hl; omega)]
  | b :: C, A, d, H, hl, hlt, hg => by
    intro hin hI
    have hAC : (A ++ [b]) ++ C = A ++ b :: C := by simp
    have hlen : (A ++ [b]).length + C.length = n := by simp at hl ⊢; omega
    rw [List.length_cons] at hl
    have hi : ((A.length : Int) + 1) = (((A ++ [b]).length : Nat) : Int) := by simp
    have hw : lwrap .i64 ((A.length : Int) + 1) = (((A ++ [b]).length : Nat) : Int) := by rw [lwrap_small (by omega) (by omega), hi]
    have h256 := u8_lt256 b
    have hnth : (bcs (A.map upB ++ b :: C))[A.length]? = some (.int .u8 (b.toNat : Int)) := by
      unfold bcs
      rw [List.getElem?_map, List.getElem?_append_right (by simp)]
      simp
    have same : ¬ (97 ≤ b.toNat ∧ b.toNat ≤ 122) → ∀ d', GoesT cfg 252 (Ret (.str ((A ++ b :: C).map upB)) H0) [] H0 [] (L252t_0 d' (lwrap .i64 ((A.length : Int) + 1)) (some ⟨r, n, 0⟩) n (.free 1) (some ⟨r, n, 0⟩) n (.free 1) (n : Int)) (loopAt cfg 252 0) H := by
      intro hno d'
      rw [hw, ← hAC]
      refine loop252 H0 r n hr hn C (A ++ [b]) d' H hlen hlt ?_
      rw [hg]
      have : upB b = b := by unfold upB; rw [if_neg hno]
      simp [this]
    refine g252t_0 _ H0 d A.length (some ⟨r, n, 0⟩) n (.free 1) (some ⟨r, n, 0⟩) n (.free 1) n H ⟨fun h => ⟨⟨by omega, by omega, rfl⟩, fun hI => ⟨(b.toNat : Int), ?ld, fun h97 => ⟨fun h122 => ⟨⟨by omega, by omega, rfl⟩, fun hI => ?st⟩, fun h122 d14 => same (by simp at h97 h122; omega) d14⟩, fun h97 d15 => same (by simp at h97; omega) d15⟩⟩, fun h => ?ge⟩ hin hI
    case ge => simp at h; omega
    case ld =>
      unfold loadT
      rw [show isAggT cfg.P 5 = some false by kernel_rfl]
      show load1 H ⟨r, n, 0 + (A.length : Int).toNat * 1⟩ = _
      unfold load1
      simp only [hg, Int.toNat_natCast, Nat.mul_one, Nat.zero_add]
      rw [if_pos (by simp only [Bool.and_eq_true, Nat.ble_eq]; omega), nth_eq]
      exact hnth
    case st =>
      have hup : upB b = UInt8.ofNat (b.toNat - 32) := by unfold upB; rw [if_pos (by simp at h97 h122; omega)]
      have hval : LV.int .u8 (lwrap .u8 ((b.toNat : Int) - 32)) = .int .u8 ((upB b).toNat : Int) := by
        have h97' : 97 ≤ b.toNat := by simp at h97; omega
        congr 1
        rw [hup]
        obtain ⟨m, hm⟩ : ∃ m, b.toNat = m + 32 := ⟨b.toNat - 32, by omega⟩
        rw [hm]
        have e1 : ((m + 32 : Nat) : Int) - 32 = Int.ofNat m := by simp
        rw [e1]
        unfold lwrap
        simp only [Nat.ble_eq]
        simp
        omega
      refine ⟨H.put r (.cells (bcs ((A ++ [b]).map upB ++ C)) 5 n n .mark false false), ⟨?_, .inr hr, fun k s hs => by simp [nth] at hs⟩, fun d13 => ?_⟩
      · unfold storeT
        rw [show sizeOfT cfg.P 5 = some 1 by kernel_rfl]
        show storeN H ⟨r, n, 0 + (A.length : Int).toNat * 1⟩ [.int .u8 (lwrap .u8 ((b.toNat : Int) - 32))] = _
        unfold storeN
        simp only [hg, Nat.beq_refl, Bool.not_false, Bool.and_self, FZ.apart, if_true, Int.toNat_natCast, Nat.mul_one, Nat.zero_add, hval]
        have hov := over_mid (bcs (A.map upB)) [LV.int .u8 (b.toNat : Int)] (bcs C) [LV.int .u8 ((upB b).toNat : Int)] rfl
        rw [bcs_len, List.length_map] at hov
        have e1 : bcs (A.map upB ++ b :: C) = bcs (A.map upB) ++ ([LV.int .u8 (b.toNat : Int)] ++ bcs C) := by rw [bcs_app]; rfl
        rw [e1, hov]
        have e2 : bcs ((A ++ [b]).map upB ++ C) = bcs (A.map upB) ++ ([LV.int .u8 ((upB b).toNat : Int)] ++ bcs C) := by rw [List.map_append, bcs_app, bcs_app, List.append_assoc]; rfl
        rw [e2]
        rfl
      · rw [hw, ← hAC]
        exact loop252 H0 r n hr hn C (A ++ [b]) d13 _ hlen hlt (by rw [LHeap.get_put, if_pos rfl])

theorem s252 (s : List UInt8) (H : LHeap) (hs : s.length ≤ 9223372036854775807) : CallL cfg 252 [.str s] H (Ret (.str (s.map upB)) H) := by
  refine e252t _ s H fun hI => ⟨some ⟨H.next, s.length, 0⟩, s.length, .free 1, [], H.push (.cells (bcs s) 5 s.length s.length .mark false false), ⟨?_, .push _ _ _, fun i hi => by cases hi⟩, fun d => ?_⟩
  · show (match convertL cfg.P H 9 155 (.str s) with
      | some (v, H') => some [(LNext.value v, H')]
      | none => none) = _
    rw [conv_to hs]
  · exact loop252 H H.next s.length (Nat.le_refl _) hs s [] d _ (by simp) (Nat.lt_succ_self _) (by rw [LHeap.get_push, if_pos rfl]; rfl)

end Go.Proofs.YtjihhflffkoffaaGreatDoor.Z
