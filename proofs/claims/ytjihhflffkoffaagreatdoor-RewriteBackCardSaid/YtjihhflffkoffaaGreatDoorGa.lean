/- Contracts of functions of the program; no condition. -/
import Derived.Test.YtjihhflffkoffaaGreatDoorW12
import Derived.Test.YtjihhflffkoffaaGreatDoorWo
import Derived.Test.YtjihhflffkoffaaGreatDoorLe
set_option linter.unusedSimpArgs false
set_option linter.unusedVariables false
set_option linter.unusedSectionVars false
set_option linter.unnecessarySimpa false
namespace Go.Proofs.YtjihhflffkoffaaGreatDoor.Z
open Go Go.Lm
set_option maxRecDepth 100000

theorem NdC.lv_inj {a b : NdC} (h : a.lv = b.lv) : a = b := by
  have : a.cs = b.cs := by unfold NdC.lv at h; exact LV.agg.inj h
  cases a; cases b
  simp only [NdC.cs, List.cons.injEq, LV.int.injEq, LV.str.injEq, LV.bool.injEq, LV.slice.injEq, true_and, and_true] at this
  obtain ⟨h0, h1, h2, h3, h4, h5, h6, h7, h8, h9, h10, h11, h12, h13, h14, h15, h16, h17, h18, h19⟩ := this
  subst h0 h1 h2 h3 h4 h5 h6 h7 h8 h9 h10 h11 h12 h13 h14 h15 h16 h17 h18 h19
  rfl

/-- Some truth, of which that follows. -/
def GoodB (P : Prop) (H : LHeap) : LV → LHeap → Prop := fun v H' => PresX [] H H' ∧ ∃ b : Bool, v = .bool b ∧ (b = true → P)
theorem GoodB.sh {P : Prop} {H : LHeap} : ∀ v H', GoodB P H v H' → PresX [] H H' ∧ hasSh .bool v := fun v H' ⟨h1, b, e, _⟩ => ⟨h1, b, e⟩
theorem GoodB.mk {P : Prop} {H H' : LHeap} {b : Bool} (h : PresX [] H H') (k : b = true → P) : GoodB P H (.bool b) H' := ⟨h, b, rfl, k⟩
theorem GoodB.no {P : Prop} {H H' : LHeap} (h : PresX [] H H') : GoodB P H (.bool false) H' := ⟨h, false, rfl, fun e => by cases e⟩
theorem GoodB.imp {P Q : Prop} {H : LHeap} {v : LV} {H' : LHeap} (h : GoodB P H v H') (k : P → Q) : GoodB Q H v H' := ⟨h.1, h.2.choose, h.2.choose_spec.1, fun e => k (h.2.choose_spec.2 e)⟩
/-- Some number. -/
def AnyN (H : LHeap) : LV → LHeap → Prop := fun v H' => PresX [] H H' ∧ ∃ n : Int, v = .int .i64 n
theorem AnyN.sh {H : LHeap} : ∀ v H', AnyN H v H' → PresX [] H H' ∧ hasSh (.int .i64) v := fun v H' ⟨h1, b, e⟩ => ⟨h1, b, e⟩

def upB (b : UInt8) : UInt8 := if 97 ≤ b.toNat ∧ b.toNat ≤ 122 then UInt8.ofNat (b.toNat - 32) else b
def bcs (s : List UInt8) : List LV := s.map fun b => LV.int .u8 (b.toNat : Int)
theorem bcs_len (s : List UInt8) : (bcs s).length = s.length := by unfold bcs; rw [List.length_map]
theorem bcs_app (s t : List UInt8) : bcs (s ++ t) = bcs s ++ bcs t := by unfold bcs; rw [List.map_append]

theorem bytes_bcs : ∀ s : List UInt8, bytesOfCells (bcs s) = some s
  | [] => rfl
  | b :: s => by
    show (bytesOfCells (bcs s)).map (UInt8.ofNat (b.toNat : Int).toNat :: ·) = _
    rw [bytes_bcs s]
    simp

theorem conv_to {H : LHeap} {s : List UInt8} (h : s.length ≤ 9223372036854775807) : convertL cfg.P H 9 155 (.str s) = some (.slice (some ⟨H.next, s.length, 0⟩) s.length (.free 1), H.push (.cells (bcs s) 5 s.length s.length .mark false false)) := by
  unfold convertL
  rw [show cfg.P.underlying 9 = some .string by kernel_rfl, show cfg.P.underlying 155 = some (.slice 5) by kernel_rfl]
  simp only
  rw [show cfg.P.underlying 5 = some (.int .u8) by kernel_rfl]
  simp only
  rw [if_pos (by rw [Nat.ble_eq]; exact h)]
  rfl

theorem conv_from {H : LHeap} {a : LAddr} {n : Nat} {q : Cap} {s : List UInt8} (h : loadN H a n = some (bcs s)) : convertL cfg.P H 155 9 (.slice (some a) n q) = some (.str s, H) := by
  unfold convertL
  rw [show cfg.P.underlying 9 = some .string by kernel_rfl, show cfg.P.underlying 155 = some (.slice 5) by kernel_rfl]
  simp only
  rw [show cfg.P.underlying 5 = some (.int .u8) by kernel_rfl]
  simp only [h, bytes_bcs]

theorem u8_lt256 (b : UInt8) : b.toNat < 256 := b.toNat_lt

/-- Upper. -/
theorem loop252 (H0 : LHeap) (r n : Nat) (hr : H0.next ≤ r) (hn : n ≤ 9223372036854775807) : ∀ (C A : List UInt8) (d : Nat → LV) (H : LHeap), A.length + C.length = n → r < H.next → H.get r = some (.cells (bcs (A.map upB ++ C)) 5 n n .mark false false) →
    GoesT cfg 252 (Ret (.str ((A ++ C).map upB)) H0) [] H0 [] (L252t_0 d (A.length : Int) (some ⟨r, n, 0⟩) n (.free 1) (some ⟨r, n, 0⟩) n (.free 1) (n : Int)) (loopAt cfg 252 0) H
  | [], A, d, H, hl, hlt, hg => by
    intro hin hI
    refine g252t_0 _ H0 d A.length (some ⟨r, n, 0⟩) n (.free 1) (some ⟨r, n, 0⟩) n (.free 1) n H ⟨fun h => ?_, fun h => ⟨A.map upB, H, conv_from ?_, fun hI => ⟨by rw [List.append_nil], hI.pres⟩⟩⟩ hin hI
    · simp at h hl; omega
    · unfold loadN
      rw [List.append_nil] at hg
      simp only [hg]
      rw [if_pos (by simp), dropN_eq, List.drop_zero, takeN_of _ _ (by rw [bcs_len, List.length_map]; simp at hl; omega), List.take_of_length_le (by rw [bcs_len, List.length_map]; simp at hl; omega)]
  | b :: C, A, d, H, hl, hlt, hg => by
    intro hin hI
    have hAC : (A ++ [b]) ++ C = A ++ b :: C := by simp
    have hlen : (A ++ [b]).length + C.length = n := by simp at hl ⊢; omega
    rw [List.length_cons] at hl
    have hi : ((A.length : Int) + 1) = (((A ++ [b]).length : Nat) : Int) := by simp
    have hw : lwrap .i64 ((A.length : Int) + 1) = (((A ++ [b]).length : Nat) : Int) := by rw [lwrap_small (by omega) (by omega), hi]
    have h256 := u8_lt256 b
    have hnth : (bcs (A.map upB ++ b :: C))[A.length]? = some (.int .u8 (b.toNat : Int)) := by
      unfold bcs
      rw [List.getElem?_map, List.getElem?_append_right (by simp)]
      simp
    have same : ¬ (97 ≤ b.toNat ∧ b.toNat ≤ 122) → ∀ d', GoesT cfg 252 (Ret (.str ((A ++ b :: C).map upB)) H0) [] H0 [] (L252t_0 d' (lwrap .i64 ((A.length : Int) + 1)) (some ⟨r, n, 0⟩) n (.free 1) (some ⟨r, n, 0⟩) n (.free 1) (n : Int)) (loopAt cfg 252 0) H := by
      intro hno d'
      rw [hw, ← hAC]
      refine loop252 H0 r n hr hn C (A ++ [b]) d' H hlen hlt ?_
      rw [hg]
      have : upB b = b := by unfold upB; rw [if_neg hno]
      simp [this]
    refine g252t_0 _ H0 d A.length (some ⟨r, n, 0⟩) n (.free 1) (some ⟨r, n, 0⟩) n (.free 1) n H ⟨fun h => ⟨⟨by omega, by omega, rfl⟩, fun hI => ⟨(b.toNat : Int), ?ld, fun h97 => ⟨fun h122 => ⟨⟨by omega, by omega, rfl⟩, fun hI => ?st⟩, fun h122 d14 => same (by simp at h97 h122; omega) d14⟩, fun h97 d15 => same (by simp at h97; omega) d15⟩⟩, fun h => ?ge⟩ hin hI
    case ge => simp at h; omega
    case ld =>
      unfold loadT
      rw [show isAggT cfg.P 5 = some false by kernel_rfl]
      show load1 H ⟨r, n, 0 + (A.length : Int).toNat * 1⟩ = _
      unfold load1
      simp only [hg, Int.toNat_natCast, Nat.mul_one, Nat.zero_add]
      rw [if_pos (by simp only [Bool.and_eq_true, Nat.ble_eq]; omega), nth_eq]
      exact hnth
    case st =>
      have hup : upB b = UInt8.ofNat (b.toNat - 32) := by unfold upB; rw [if_pos (by simp at h97 h122; omega)]
      have hval : LV.int .u8 (lwrap .u8 ((b.toNat : Int) - 32)) = .int .u8 ((upB b).toNat : Int) := by
        have h97' : 97 ≤ b.toNat := by simp at h97; omega
        congr 1
        rw [hup]
        obtain ⟨m, hm⟩ : ∃ m, b.toNat = m + 32 := ⟨b.toNat - 32, by omega⟩
        rw [hm]
        have e1 : ((m + 32 : Nat) : Int) - 32 = Int.ofNat m := by simp
        rw [e1]
        unfold lwrap
        simp only [Nat.ble_eq]
        simp
        omega
      refine ⟨H.put r (.cells (bcs ((A ++ [b]).map upB ++ C)) 5 n n .mark false false), ⟨?_, .inr hr, fun k s hs => by simp [nth] at hs⟩, fun d13 => ?_⟩
      · unfold storeT
        rw [show sizeOfT cfg.P 5 = some 1 by kernel_rfl]
        show storeN H ⟨r, n, 0 + (A.length : Int).toNat * 1⟩ [.int .u8 (lwrap .u8 ((b.toNat : Int) - 32))] = _
        unfold storeN
        simp only [hg, Nat.beq_refl, Bool.not_false, Bool.and_self, FZ.apart, if_true, Int.toNat_natCast, Nat.mul_one, Nat.zero_add, hval]
        have hov := over_mid (bcs (A.map upB)) [LV.int .u8 (b.toNat : Int)] (bcs C) [LV.int .u8 ((upB b).toNat : Int)] rfl
        rw [bcs_len, List.length_map] at hov
        have e1 : bcs (A.map upB ++ b :: C) = bcs (A.map upB) ++ ([LV.int .u8 (b.toNat : Int)] ++ bcs C) := by rw [bcs_app]; rfl
        rw [e1, hov]
        have e2 : bcs ((A ++ [b]).map upB ++ C) = bcs (A.map upB) ++ ([LV.int .u8 ((upB b).toNat : Int)] ++ bcs C) := by rw [List.map_append, bcs_app, bcs_app, List.append_assoc]; rfl
        rw [e2]
        rfl
      · rw [hw, ← hAC]
        exact loop252 H0 r n hr hn C (A ++ [b]) d13 _ hlen hlt (by rw [LHeap.get_put, if_pos rfl])

theorem s252 (s : List UInt8) (H : LHeap) (hs : s.length ≤ 9223372036854775807) : CallL cfg 252 [.str s] H (Ret (.str (s.map upB)) H) := by
  refine e252t _ s H fun hI => ⟨some ⟨H.next, s.length, 0⟩, s.length, .free 1, [], H.push (.cells (bcs s) 5 s.length s.length .mark false false), ⟨?_, .push _ _ _, fun i hi => by cases hi⟩, fun d => ?_⟩
  · show (match convertL cfg.P H 9 155 (.str s) with
      | some (v, H') => some [(LNext.value v, H')]
      | none => none) = _
    rw [conv_to hs]
  · exact loop252 H H.next s.length (Nat.le_refl _) hs s [] d _ (by simp) (Nat.lt_succ_self _) (by rw [LHeap.get_push, if_pos rfl]; rfl)

theorem s157 (n : Int) (H : LHeap) : CallL cfg 157 [.int .u8 n] H (GoodB True H) := by
  refine e157t _ n H ⟨fun _ => ⟨fun _ hI => .mk hI.pres fun _ => trivial, fun _ => ⟨fun _ hI => .mk hI.pres fun _ => trivial, fun _ hI => .no hI.pres⟩⟩, fun _ => ⟨fun _ hI => .mk hI.pres fun _ => trivial, fun _ hI => .no hI.pres⟩⟩

theorem s153 (n : Int) (H : LHeap) : CallL cfg 153 [.int .u8 n] H (GoodB True H) := by
  refine e153t _ n H ⟨fun _ hI => .mk hI.pres fun _ => trivial, fun _ hI => .no hI.pres⟩

theorem s182 (s : List UInt8) (H : LHeap) (hs : s.length ≤ 9223372036854775807) : CallL cfg 182 [.str s] H (AnyN H) := by
  refine e182t _ s H fun hI => ⟨_, s252 s H hs, Ret.use ⟨_, rfl⟩, fun s2 H3 _ => ⟨fun _ hI => ⟨hI.pres, _, rfl⟩, fun _ => ⟨fun _ hI => ⟨hI.pres, _, rfl⟩, fun _ hI => ⟨hI.pres, _, rfl⟩⟩⟩⟩

theorem loop97 (s : List UInt8) (hs : s.length ≤ 16) (H0 : LHeap) : ∀ (m i : Nat), i + m = s.length → ∀ (b : Bool) (d : Nat → LV) (H : LHeap), GoesT cfg 97 (GoodB (s.length ≤ 16) H0) [] H0 [] (L97t_0 d (i : Int) b s) (loopAt cfg 97 0) H
  | 0, i, hi, b, d, H => by
    intro hin hI
    refine g97t_0 _ H0 d i b s H ⟨fun h => ?_, fun _ hI => .mk hI.pres fun _ => hs⟩ hin hI
    simp at h; omega
  | m + 1, i, hi, b, d, H => by
    intro hin hI
    have hk : lwrap .i64 ((i : Int) + 1) = ((i + 1 : Nat) : Int) := by rw [lwrap_small (by omega) (by omega)]; simp
    have next := fun (b : Bool) (d : Nat → LV) (H : LHeap) => loop97 s hs H0 m (i + 1) (by omega) b d H
    have r : (0 : Int) ≤ (i : Int) ∧ (i : Int) < ((s.length : Nat) : Int) := by omega
    refine g97t_0 _ H0 d i b s H ⟨fun h => ⟨r, fun hI => ⟨_, s157 _ H, GoodB.sh, fun b5 H6 _ => ⟨fun _ => ⟨r, fun hI => ⟨_, s153 _ H6, GoodB.sh, fun b9 H10 _ => ⟨fun _ => ⟨r, fun _ hI => .no hI.pres, fun _ => ⟨fun _ d => ?_, fun _ => ⟨r, fun hI => ⟨_, s153 _ H10, GoodB.sh, fun b15 H16 _ d => ?_⟩⟩⟩⟩, fun _ => ⟨fun _ d => ?_, fun _ => ⟨r, fun hI => ⟨_, s153 _ H10, GoodB.sh, fun b15 H16 _ d => ?_⟩⟩⟩⟩⟩⟩, fun _ => ⟨fun _ d => ?_, fun _ => ⟨r, fun hI => ⟨_, s153 _ H6, GoodB.sh, fun b15 H16 _ d => ?_⟩⟩⟩⟩⟩⟩, fun h => ?ge⟩ hin hI
    case ge => simp at h; omega
    all_goals (rw [hk]; exact next _ d _)

theorem s97 (s : List UInt8) (H : LHeap) : CallL cfg 97 [.str s] H (GoodB (s.length ≤ 16) H) := by
  refine e97t _ s H ⟨fun _ hI => .no hI.pres, fun h1 => ⟨fun _ hI => .no hI.pres, fun h2 => ⟨⟨by omega, by simp at h1; omega⟩, fun hI => ⟨_, s157 _ H, GoodB.sh, fun b3 H4 _ => ⟨fun _ hI => .no hI.pres, fun _ hI => ⟨_, s182 s H4 (by simp at h2; omega), AnyN.sh, fun n6 H7 _ => ⟨fun _ hI => .no hI.pres, fun _ d => ?_⟩⟩⟩⟩⟩⟩⟩
  have h1' : 1 ≤ s.length := by simp at h1; omega
  exact loop97 s (by simp at h2; omega) H (s.length - 1) 1 (by omega) _ d H7

theorem s285 (n m : Int) (H : LHeap) : CallL cfg 285 [.int .i64 n, .int .i64 m] H (Ret (.bool (decide (1 ≤ n ∧ n ≤ 64 ∧ 1 ≤ m ∧ m ≤ 26))) H) := by
  have out : ∀ {H' : LHeap}, ¬ (1 ≤ n ∧ n ≤ 64 ∧ 1 ≤ m ∧ m ≤ 26) → PresX [] H H' → Ret (.bool (decide (1 ≤ n ∧ n ≤ 64 ∧ 1 ≤ m ∧ m ≤ 26))) H (.bool false) H' := fun h p => ⟨by rw [decide_eq_false h], p⟩
  refine e285t _ n m H ⟨fun h1 => ⟨fun h2 => ⟨fun h3 hI => ⟨?_, hI.pres⟩, fun h hI => out (by simp at h; omega) hI.pres⟩, fun h hI => out (by simp at h; omega) hI.pres⟩, fun h hI => out (by simp at h; omega) hI.pres⟩
  simp only [decide_eq_true_eq, ge_iff_le] at h1 h2 h3
  congr 1
  exact decide_eq_decide.2 (by omega)

/-- What a good ref is. -/
structure RefOk (r : RefC) : Prop where
  row : 1 ≤ r.row ∧ r.row ≤ 64
  col : 1 ≤ r.col ∧ r.col ≤ 26
  sheet : r.sheet.length ≤ 16
  book : r.book.length ≤ 16

/-- Is a ref good? -/
theorem s259 (r : RefC) (H : LHeap) : CallL cfg 259 [r.lv] H (GoodB (RefOk r) H) := by
  refine e259t _ r H fun i1 H2 _ _ hI => ⟨_, s285 r.row r.col H2, Ret.use ⟨_, rfl⟩, fun b4 H5 ⟨e, _⟩ => ⟨fun _ hI => .no hI.pres, fun hb4 => ?_⟩⟩
  have hin : 1 ≤ r.row ∧ r.row ≤ 64 ∧ 1 ≤ r.col ∧ r.col ≤ 26 := by cases e; simpa using hb4
  have none0 : ∀ {s : List UInt8}, (!(s == [])) = false → s.length ≤ 16 := fun h => by simp at h; rw [h]; simp
  have none1 : ∀ {s : List UInt8}, (s == []) = true → s.length ≤ 16 := fun h => by simp at h; rw [h]; simp
  refine ⟨fun _ hI => ⟨_, s97 r.sheet H5, GoodB.sh, fun b7 H8 ⟨_, b', e', hb'⟩ => ⟨fun _ hI => .no hI.pres, fun hb7 => ?_⟩⟩, fun hs => ⟨fun hk hI => .mk hI.pres fun _ => ⟨⟨hin.1, hin.2.1⟩, hin.2.2, none0 hs, none1 hk⟩, fun _ hI => ⟨_, s97 r.book H5, GoodB.sh, fun b10 H11 ⟨_, b', e', hb'⟩ => ⟨fun hb10 hI => .mk hI.pres fun _ => ?_, fun _ hI => .no hI.pres⟩⟩⟩⟩
  · have h7 : r.sheet.length ≤ 16 := by cases e'; exact hb' (by simpa using hb7)
    refine ⟨fun hk hI => .mk hI.pres fun _ => ⟨⟨hin.1, hin.2.1⟩, hin.2.2, h7, none1 hk⟩, fun _ hI => ⟨_, s97 r.book H8, GoodB.sh, fun b10 H11 ⟨_, b', e', hb'⟩ => ⟨fun hb10 hI => .mk hI.pres fun _ => ⟨⟨hin.1, hin.2.1⟩, hin.2.2, h7, ?_⟩, fun _ hI => .no hI.pres⟩⟩⟩
    cases e'; exact hb' hb10
  · refine ⟨⟨hin.1, hin.2.1⟩, hin.2.2, none0 hs, ?_⟩
    cases e'; exact hb' hb10

/-- The node of a kind alone. -/
def kindN (x : NdC) : NdC := ⟨x.kind, [], 0, 0, [], [], [], 0, 0, false, false, [], [], 0, 0, false, false, none, 0, .exact 0⟩
theorem s257 (x : NdC) (H : LHeap) : CallL cfg 257 [x.lv] H (Ret (kindN x).lv H) :=
  e257t _ x H fun _ _ _ _ _ _ _ _ _ _ hI => ⟨rfl, hI.pres⟩

mutual
def AllT (Q : Nd → Prop) : Nd → Prop
  | .mk x l => Q (.mk x l) ∧ AllTs Q l
def AllTs (Q : Nd → Prop) : List Nd → Prop
  | [] => True
  | n :: l => AllT Q n ∧ AllTs Q l
end

/-- All nodes, and none too deep. -/
theorem loop110 {Q : Nd → Prop} {P : Prop} : ∀ (l : List Nd) (_ : ∀ n ∈ l, ∀ H k, NdAt H n → 0 ≤ k → k ≤ 1000 → CallL cfg 110 [n.root.lv, .int .i64 k] H (GoodB (AllT Q n) H)) (_ : AllTs Q l → P) (a : Option LAddr) (q : Cap) (k : Nat) (H0 : LHeap) (j : Int), k ≤ 1000000000 → 0 < j → j ≤ 1000 → ∀ (i : Nat), i + l.length = k → NdsAt H0 l a i → ∀ (d : Nat → LV) (H : LHeap),
    GoesT cfg 110 (GoodB P H0) [] H0 [] (L110t_0 d (i : Int) j a k q (k : Int)) (loopAt cfg 110 0) H
  | [], _, hP, a, q, k, H0, j, hk, hj, hj2, i, hi, hA, d, H => by
    intro hin hI
    refine g110t_0 _ H0 d i j a k q k H ⟨fun h => ?_, fun h hI => .mk hI.pres fun _ => hP (by unfold AllTs; trivial)⟩ hin hI
    simp at h hi; omega
  | n :: l, hs, hP, a, q, k, H0, j, hk, hj, hj2, i, hi, hA, d, H => by
    intro hin hI
    rw [List.length_cons] at hi
    unfold NdsAt at hA
    obtain ⟨⟨n1, n2, n3⟩, n4, n5⟩ := hA
    refine g110t_0 _ H0 d i j a k q k H ⟨fun h => ⟨⟨by omega, by omega, n1⟩, fun hI => ⟨n.root, ?ld, fun i9 H10 _ _ H11 _ hI11 => ⟨_, hs n List.mem_cons_self H11 (lwrap .i64 (j - 1)) (n4.on hI11.pres) (by rw [lwrap_small (by omega) (by omega)]; omega) (by rw [lwrap_small (by omega) (by omega)]; omega), GoodB.sh, fun b13 H14 ⟨_, b, e, hb⟩ => ⟨fun _ hI => .no hI.pres, fun hb13 d15 => ?go⟩⟩⟩⟩, fun h => ?ge⟩ hin hI
    case ge => simp at h; omega
    case ld =>
      simp only [Int.toNat_natCast]
      exact hI.pres.load0 (a := ⟨(adr a).id, (adr a).ver, (adr a).off + i * 18⟩) n2 n3
    case go =>
      have hn : AllT Q n := by cases e; exact hb (by simpa using hb13)
      have hk' : lwrap .i64 ((i : Int) + 1) = ((i + 1 : Nat) : Int) := by rw [lwrap_small (by omega) (by omega)]; simp
      rw [hk']
      exact loop110 l (fun m hm => hs m (List.mem_cons_of_mem _ hm)) (fun hl => hP (by unfold AllTs; exact ⟨hn, hl⟩)) a q k H0 j hk hj hj2 (i + 1) (by omega) n5 d15 H14

theorem s110 {Q K : Nd → Prop} (hK : ∀ x l, K (.mk x l) → ∀ n ∈ l, K n) (h193 : ∀ n H, K n → NdAt H n → CallL cfg 193 [n.root.lv] H (GoodB (Q n) H)) (N : Nd) (H : LHeap) (k : Int) (hk : K N) (hS : NdSm N) (hN : NdAt H N) (k0 : 0 ≤ k) (k1 : k ≤ 1000) :
    CallL cfg 110 [N.root.lv, .int .i64 k] H (GoodB (AllT Q N) H) := by
  match N, hk, hS, hN with
  | .mk x l, hk, hS, hN =>
    have hN' := hN
    unfold NdAt at hN'
    have hS' := hS
    unfold NdSm at hS'
    refine e110t _ x k H fun i2 H3 _ p3 => ⟨fun _ hI => .no hI.pres, fun hne hI => ⟨_, h193 (.mk x l) H3 hk (hN.on p3), GoodB.sh, fun b5 H6 ⟨_, b, e, hb⟩ => ⟨fun _ hI => .no hI.pres, fun hb5 d7 => ?_⟩⟩⟩
    have hq : Q (.mk x l) := by cases e; exact hb (by simpa using hb5)
    have hmem : ∀ n ∈ l, NdSm n := by
      intro n hn
      have : ∀ l : List Nd, NdsSm l → ∀ n ∈ l, NdSm n := by
        intro l
        induction l with
        | nil => intro _ n hn; cases hn
        | cons a l ih =>
          intro h n hn
          unfold NdsSm at h
          rcases List.mem_cons.1 hn with rfl | hn
          · exact h.1
          · exact ih h.2 n hn
      exact this l hS'.2 n hn
    exact loop110 l (fun n hn H' k' hA h0 h1 => s110 hK h193 n H' k' (hK x l hk n hn) (hmem n hn) hA h0 h1) (fun hl => by unfold AllT; exact ⟨hq, hl⟩) x.argsA x.argsQ x.argsL H k hS'.1 (by simp at hne; omega) k1 0 (by have := hN'.1; omega) hN'.2.2 d7 H6
termination_by SizeOf.sizeOf N
decreasing_by
  have := List.sizeOf_lt_of_mem hn
  simp_wf
  omega

theorem s47 {Q K : Nd → Prop} (hK : ∀ x l, K (.mk x l) → ∀ n ∈ l, K n) (h193 : ∀ n H, K n → NdAt H n → CallL cfg 193 [n.root.lv] H (GoodB (Q n) H)) (N : Nd) (H : LHeap) (hk : K N) (hS : NdSm N) (hN : NdAt H N) :
    CallL cfg 47 [N.root.lv] H (GoodB (AllT Q N) H) := by
  refine e47t _ N.root H fun i1 H2 _ p2 hI => ⟨_, s110 hK h193 N H2 24 hk hS (hN.on p2) (by omega) (by omega), GoodB.sh, fun b4 H5 ⟨_, b, e, hb⟩ hI => .mk hI.pres fun h => ?_⟩
  cases e
  exact hb h
end Go.Proofs.YtjihhflffkoffaaGreatDoor.Z
