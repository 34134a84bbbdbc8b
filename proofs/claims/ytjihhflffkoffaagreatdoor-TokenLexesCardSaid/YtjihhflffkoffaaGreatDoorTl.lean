/- Contracts of functions of the program; no condition. -/
import Derived.Test.YtjihhflffkoffaaGreatDoorTk
import Derived.Test.YtjihhflffkoffaaGreatDoorT3
import Derived.Test.YtjihhflffkoffaaGreatDoorT4
import Derived.Test.YtjihhflffkoffaaGreatDoorT6
set_option linter.unusedSimpArgs false
set_option linter.unusedVariables false
set_option linter.unusedSectionVars false
set_option linter.unnecessarySimpa false
namespace Go.Proofs.YtjihhflffkoffaaGreatDoor.Z
open Go Go.Lm
set_option maxRecDepth 100000

/-! Signs -/
def opT (x : List UInt8) : TokC := ⟨5, 0, x, [], [], 0, 0, false, false⟩
def OPS : List UInt8 := [43, 45, 42, 47, 94, 38, 61, 60, 62, 37, 40, 41, 44, 58]
def twoB (s : List UInt8) : Bool := s.take 2 == [60, 62] || (s.take 2 == [60, 61] || s.take 2 == [62, 61])
def opF : List UInt8 → Option (TokC × Nat)
  | [] => none
  | c :: t => if twoB (c :: t) then some (opT ((c :: t).take 2), 2) else if (cutF c OPS).isSome then some (opT [c], 1) else none

theorem two_ok {c : UInt8} {t : List UInt8} (h : twoB (c :: t) = true) : (cutF c OPS).isSome = true := by
  unfold twoB at h
  simp only [Bool.or_eq_true, beq_iff_eq] at h
  have : c = 60 ∨ c = 62 := by
    rcases h with h | h | h
    · simp at h; exact .inl h.1
    · simp at h; exact .inl h.1
    · simp at h; exact .inr h.1
  rcases this with rfl | rfl <;> rfl

theorem s152 (c : UInt8) (t : List UInt8) (hs : (c :: t).length ≤ 1000) (H : LHeap) : CallL cfg 152 [.str (c :: t)] H (Ret (tokL (opF (c :: t))) H) := by
  have e1 : subStr (c :: t) 0 1 = [c] := by rw [show (1 : Int) = ((1 : Nat) : Int) from rfl, sub_take]; rfl
  have e2 : subStr (c :: t) 0 2 = (c :: t).take 2 := by rw [show (2 : Int) = ((2 : Nat) : Int) from rfl, sub_take]
  have hop : opF (c :: t) = if twoB (c :: t) then some (opT ((c :: t).take 2), 2) else if (cutF c OPS).isSome then some (opT [c], 1) else none := rfl
  have htw := two_ok (c := c) (t := t)
  have htd : twoB (c :: t) = ((c :: t).take 2 == [60, 62] || ((c :: t).take 2 == [60, 61] || (c :: t).take 2 == [62, 61])) := rfl
  have hlen : (c :: t).length = t.length + 1 := rfl
  have hsh : ∀ l : List UInt8, l.length = 2 → (c :: t).length ≤ 1 → ((c :: t).take 2 == l) = false := by
    intro l hl h1
    rw [beq_eq_false_iff_ne]
    intro e
    have := congrArg List.length e
    rw [List.length_take] at this
    omega
  refine e152t _ (c :: t) H fun i1 H2 _ _ => ?_
  rw [e1, e2]
  generalize c :: t = s at *
  have c237 : ∀ H, CallL cfg 237 [.str OPS, .str [c]] H (Ret (.bool (cutF c OPS).isSome) H) := fun H => s237 OPS c H
  have bad : ∀ {H' : LHeap}, opF s = none → PresX [] H H' → Ret (tokL (opF s)) H (.tuple [.agg [.int .i64 0, .int .i64 0, .str [], .str [], .str [], .int .i64 0, .int .i64 0, .bool false, .bool false], .int .i64 0]) H' := fun h p => ⟨by rw [h]; rfl, p⟩
  have good : ∀ {H' : LHeap} {t : TokC} {n : Nat}, opF s = some (t, n) → PresX [] H H' → Ret (tokL (opF s)) H (.tuple [.agg t.cs, .int .i64 (n : Int)]) H' := fun h p => ⟨by rw [h]; rfl, p⟩
  have two : ∀ (H2 : LHeap) (b6 : Bool), Ret (.bool (cutF c OPS).isSome) H2 (.bool b6) H2 → True := fun _ _ _ => trivial
  refine ⟨fun hl => ?long, fun hl => ?short⟩
  case long =>
    have hl2 : (2 : Int) ≤ ((s.length : Nat) : Int) := by simp at hl; omega
    refine ⟨by omega, fun h1 => ⟨by omega, fun _ => ⟨_, c237 H2, Ret.use ⟨_, rfl⟩, fun b6 H7 ⟨e6, _⟩ => ⟨fun h6 H8 _ hI => ?_, fun h6 => ⟨by omega, fun H10 _ hI => good (t := opT (s.take 2)) (n := 2) ?_ hI.pres⟩⟩⟩⟩, fun h1 => ⟨by omega, fun h2 => ⟨by omega, fun _ => ⟨_, c237 H2, Ret.use ⟨_, rfl⟩, fun b6 H7 ⟨e6, _⟩ => ⟨fun h6 H8 _ hI => ?_, fun h6 => ⟨by omega, fun H10 _ hI => good (t := opT (s.take 2)) (n := 2) ?_ hI.pres⟩⟩⟩⟩, fun h2 => ⟨by omega, fun h3 => ⟨by omega, fun _ => ⟨_, c237 H2, Ret.use ⟨_, rfl⟩, fun b6 H7 ⟨e6, _⟩ => ⟨fun h6 H8 _ hI => ?_, fun h6 => ⟨by omega, fun H10 _ hI => good (t := opT (s.take 2)) (n := 2) ?_ hI.pres⟩⟩⟩⟩, fun h3 => ⟨by omega, fun _ => ⟨_, c237 H2, Ret.use ⟨_, rfl⟩, fun b6 H7 ⟨e6, _⟩ => ⟨fun h6 H8 _ hI => bad ?_ hI.pres, fun h6 => ⟨by omega, fun H10 _ hI => good (t := opT [c]) (n := 1) ?_ hI.pres⟩⟩⟩⟩⟩⟩⟩
    · have ht : twoB s = true := by rw [htd, h1]; rfl
      rw [LV.bool.inj e6, htw ht] at h6; cases h6
    · have ht : twoB s = true := by rw [htd, h1]; rfl
      rw [hop, ht]; rfl
    · have ht : twoB s = true := by rw [htd, h2, Bool.true_or, Bool.or_true]
      rw [LV.bool.inj e6, htw ht] at h6; cases h6
    · have ht : twoB s = true := by rw [htd, h2, Bool.true_or, Bool.or_true]
      rw [hop, ht]; rfl
    · have ht : twoB s = true := by rw [htd, h3, Bool.or_true, Bool.or_true]
      rw [LV.bool.inj e6, htw ht] at h6; cases h6
    · have ht : twoB s = true := by rw [htd, h3, Bool.or_true, Bool.or_true]
      rw [hop, ht]; rfl
    · have ht : twoB s = false := by rw [htd, h1, h2, h3]; rfl
      have hb : (cutF c OPS).isSome = false := by rw [← LV.bool.inj e6]; simpa using h6
      rw [hop, ht, hb]; rfl
    · have ht : twoB s = false := by rw [htd, h1, h2, h3]; rfl
      have hb : (cutF c OPS).isSome = true := by rw [← LV.bool.inj e6]; simpa using h6
      rw [hop, ht, hb]; rfl
  case short =>
    have hl1 : s.length ≤ 1 := by simp at hl; omega
    have ht : twoB s = false := by rw [htd, hsh _ rfl hl1, hsh _ rfl hl1, hsh _ rfl hl1]; rfl
    refine ⟨by omega, fun _ => ⟨_, c237 H2, Ret.use ⟨_, rfl⟩, fun b6 H7 ⟨e6, _⟩ => ⟨fun h6 H8 _ hI => bad ?_ hI.pres, fun h6 => ⟨by omega, fun H10 _ hI => good (t := opT [c]) (n := 1) ?_ hI.pres⟩⟩⟩⟩
    · have hb : (cutF c OPS).isSome = false := by rw [← LV.bool.inj e6]; simpa using h6
      rw [hop, ht, hb]; rfl
    · have hb : (cutF c OPS).isSome = true := by rw [← LV.bool.inj e6]; simpa using h6
      rw [hop, ht, hb]; rfl

/-! Numbers -/
def numT (v : Int) : TokC := ⟨1, v, [], [], [], 0, 0, false, false⟩
def parseO (s : List UInt8) : Option Int := if parseOk s && numF (parseV s) then some (parseV s) else none
def numTF (s : List UInt8) : Option (TokC × Nat) := (parseO (s.take (spanF numB s))).map fun v => (numT v, spanF numB s)
theorem parse_inv {s : List UInt8} {n : Int} {b : Bool} (h : LV.tuple [.int .i64 n, .bool b] = parseL s) : parseO s = if b then some n else none := by
  unfold parseL toldL at h
  unfold parseO
  cases h1 : parseOk s with
  | false =>
    rw [h1] at h
    simp at h
    rw [h.2]; rfl
  | true =>
    rw [h1, if_pos rfl] at h
    cases h2 : numF (parseV s) with
    | false =>
      rw [h2] at h
      simp at h
      rw [h.2]; rfl
    | true =>
      rw [h2] at h
      simp at h
      rw [h.2, h.1]; rfl
theorem span_head (s : List UInt8) : (s.take (spanF numB s)).head? ≠ some 45 := by
  cases s with
  | nil => simp [spanF]
  | cons b s =>
    unfold spanF
    split
    · rename_i h
      simp
      intro e; subst e
      revert h; decide
    · simp

theorem s147 (s : List UInt8) (hs : s.length ≤ 1000) (H : LHeap) : CallL cfg 147 [.str s] H (Ret (tokL (numTF s)) H) := by
  have hle := spanF_le numB s
  refine e147t _ s H fun i1 H2 _ _ _ => ⟨_, s228a s H2, Ret.use ⟨_, rfl⟩, fun n4 H5 ⟨e4, _⟩ => ?_⟩
  cases e4
  rw [sub_take]
  refine ⟨by omega, fun _ => ⟨_, s230 _ (by rw [List.length_take]; omega) (span_head s) H5, Ret.use (parseL_sh _), fun n8 b9 H10 ⟨e10, _⟩ => ⟨fun h H11 _ hI => ⟨?_, hI.pres⟩, fun h H11 _ hI => ⟨?_, hI.pres⟩⟩⟩⟩
  · have hb : b9 = false := by simpa using h
    unfold numTF
    rw [parse_inv e10, hb]; rfl
  · have hb : b9 = true := by simpa using h
    unfold numTF
    rw [parse_inv e10, hb]; rfl

theorem spanF_cons (so : Int → Bool) (b : UInt8) (s : List UInt8) : spanF so (b :: s) = if so (b.toNat : Int) then spanF so s + 1 else 0 := rfl
theorem loop76_0 (s : List UInt8) (hs : s.length ≤ 1000) (H0 : LHeap) (i2 : Nat) : ∀ (C A : List UInt8) (d : Nat → LV) (H : LHeap), A ++ C = s → A.length + spanF numB C = spanF numB s →
    GoesT cfg 76 (Ret (tokL (numTF s)) H0) [] H0 [⟨i2, zeroT.cs, 127⟩] (L76t_0 d (A.length : Int) s) (loopAt cfg 76 0) H := by
  have fin : ∀ (n : Nat) (H : LHeap), n = spanF numB s → (((0 : Int) ≤ 0) ∧ ((0 : Int) ≤ (n : Int)) ∧ (n : Int) ≤ ((s.length : Nat) : Int)) ∧ CallL cfg 154 [.str (subStr s 0 (n : Int))] H (Ret (parseL (s.take (spanF numB s))) H) := by
    intro n H hn
    have hle := spanF_le numB s
    refine ⟨by omega, ?_⟩
    rw [sub_take, hn]
    exact s154 _ (by rw [List.length_take]; omega) (span_head s) H
  intro C
  induction C with
  | nil =>
    intro A d H hA hr hin hI
    rw [List.append_nil] at hA
    subst hA
    obtain ⟨f1, f2⟩ := fin A.length H (by simpa [spanF] using hr)
    refine g76t_0 _ H0 d A.length A i2 zeroT H ⟨fun h => (by simp at h), fun _ => ⟨f1, fun _ => ⟨_, f2, Ret.use (parseL_sh _), fun n8 b9 H10 ⟨e10, _⟩ => ⟨fun h H11 _ hI => ⟨?_, hI.pres⟩, fun h H11 _ hI => ⟨?_, hI.pres⟩⟩⟩⟩⟩ hin hI
    · have hb : b9 = false := by simpa using h
      unfold numTF
      rw [parse_inv e10, hb]; rfl
    · have hb : b9 = true := by simpa using h
      unfold numTF
      rw [parse_inv e10, hb, show spanF numB A = A.length by simpa [spanF] using hr.symm]; rfl
  | cons b C ih =>
    intro A d H hA hr hin hI
    have hb : byteAt s (A.length : Int) = (b.toNat : Int) := by rw [← hA]; exact byteAt_app A b C
    have hl : A.length + (C.length + 1) = s.length := by rw [← hA]; simp
    have rg : (0 : Int) ≤ (A.length : Int) ∧ (A.length : Int) < ((s.length : Nat) : Int) := by omega
    rw [spanF_cons] at hr
    have yes : numB (b.toNat : Int) = true → ∀ (d : Nat → LV) (H : LHeap), GoesT cfg 76 (Ret (tokL (numTF s)) H0) [] H0 [⟨i2, zeroT.cs, 127⟩] (L76t_0 d (lwrap .i64 ((A.length : Int) + 1)) s) (loopAt cfg 76 0) H := by
      intro hw d H
      rw [hw, if_pos rfl] at hr
      rw [lwrap_small (by omega) (by omega), show (A.length : Int) + 1 = (((A ++ [b]).length : Nat) : Int) by simp]
      refine ih (A ++ [b]) d H (by rw [← hA]; simp) (by simp; omega)
    have no : numB (b.toNat : Int) = false → A.length = spanF numB s := by
      intro hw
      rw [hw, if_neg (by simp)] at hr
      simpa using hr
    have c153 : CallL cfg 153 [.int .u8 (byteAt s (A.length : Int))] H (Ret (.bool (digF (b.toNat : Int))) H) := by rw [hb]; exact x153 _ H
    refine g76t_0 _ H0 d A.length s i2 zeroT H ⟨fun _ => ⟨rg, fun hI => ⟨_, c153, Ret.use ⟨_, rfl⟩, fun b4 H5 ⟨e4, _⟩ => ⟨fun h4 d6 => yes ?_ d6 H5, fun h4 => ⟨rg, fun h46 d6 => yes ?_ d6 H5, fun h46 => ?_⟩⟩⟩⟩, fun h => (by simp at h; omega)⟩ hin hI
    · cases e4; unfold numB; rw [h4]; rfl
    · rw [hb] at h46; unfold numB; rw [h46, Bool.or_true]
    · cases e4
      rw [hb] at h46
      have hno := no (by unfold numB; rw [h4, h46]; rfl)
      obtain ⟨f1, f2⟩ := fin A.length H5 hno
      refine ⟨f1, fun _ => ⟨_, f2, Ret.use (parseL_sh _), fun n8 b9 H10 ⟨e10, _⟩ => ⟨fun h H11 _ hI => ⟨?_, hI.pres⟩, fun h H11 _ hI => ⟨?_, hI.pres⟩⟩⟩⟩
      · have hb : b9 = false := by simpa using h
        unfold numTF
        rw [parse_inv e10, hb]; rfl
      · have hb : b9 = true := by simpa using h
        unfold numTF
        rw [parse_inv e10, hb, ← hno]; rfl

/-! Faults -/
def badT (n : Nat) : TokC := ⟨6, (n : Int), [], [], [], 0, 0, false, false⟩
def NAMES : List (List UInt8) := [[35, 68, 73, 86, 47, 48, 33], [35, 86, 65, 76, 85, 69, 33], [35, 82, 69, 70, 33], [35, 78, 65, 77, 69, 63], [35, 78, 85, 77, 33], [35, 78, 47, 65], [35, 67, 89, 67, 76, 69, 33], [35, 76, 73, 78, 75, 33]]
def fltF : List (List UInt8) → Nat → List UInt8 → Option (TokC × Nat)
  | [], _, _ => none
  | x :: l, n, s => if s.take x.length == x then some (badT n, x.length) else fltF l (n + 1) s
def faultF (s : List UInt8) : Option (TokC × Nat) := fltF NAMES 1 s
def NAG : LV := .agg [.str [], .str [35, 68, 73, 86, 47, 48, 33], .str [35, 86, 65, 76, 85, 69, 33], .str [35, 82, 69, 70, 33], .str [35, 78, 65, 77, 69, 63], .str [35, 78, 85, 77, 33], .str [35, 78, 47, 65], .str [35, 67, 89, 67, 76, 69, 33], .str [35, 76, 73, 78, 75, 33]]
theorem nag_0 : indexL cfg.P 214 NAG (.int .i64 ((0 : Nat) : Int)) = some (.str []) := by kernel_rfl
theorem nag_1 : indexL cfg.P 214 NAG (.int .i64 ((1 : Nat) : Int)) = some (.str [35, 68, 73, 86, 47, 48, 33]) := by kernel_rfl
theorem nag_2 : indexL cfg.P 214 NAG (.int .i64 ((2 : Nat) : Int)) = some (.str [35, 86, 65, 76, 85, 69, 33]) := by kernel_rfl
theorem nag_3 : indexL cfg.P 214 NAG (.int .i64 ((3 : Nat) : Int)) = some (.str [35, 82, 69, 70, 33]) := by kernel_rfl
theorem nag_4 : indexL cfg.P 214 NAG (.int .i64 ((4 : Nat) : Int)) = some (.str [35, 78, 65, 77, 69, 63]) := by kernel_rfl
theorem nag_5 : indexL cfg.P 214 NAG (.int .i64 ((5 : Nat) : Int)) = some (.str [35, 78, 85, 77, 33]) := by kernel_rfl
theorem nag_6 : indexL cfg.P 214 NAG (.int .i64 ((6 : Nat) : Int)) = some (.str [35, 78, 47, 65]) := by kernel_rfl
theorem nag_7 : indexL cfg.P 214 NAG (.int .i64 ((7 : Nat) : Int)) = some (.str [35, 67, 89, 67, 76, 69, 33]) := by kernel_rfl
theorem nag_8 : indexL cfg.P 214 NAG (.int .i64 ((8 : Nat) : Int)) = some (.str [35, 76, 73, 78, 75, 33]) := by kernel_rfl
theorem nag_at (k : Nat) (x : List UInt8) (h : ([] :: NAMES)[k]? = some x) : indexL cfg.P 214 NAG (.int .i64 (k : Int)) = some (.str x) := by
  have : k < 9 := by
    have := (List.getElem?_eq_some_iff.1 h).1
    simpa [NAMES] using this
  have hk : k = 0 ∨ k = 1 ∨ k = 2 ∨ k = 3 ∨ k = 4 ∨ k = 5 ∨ k = 6 ∨ k = 7 ∨ k = 8 := by omega
  rcases hk with rfl | rfl | rfl | rfl | rfl | rfl | rfl | rfl | rfl
  · rw [← Option.some.inj h]; exact nag_0
  · rw [← Option.some.inj h]; exact nag_1
  · rw [← Option.some.inj h]; exact nag_2
  · rw [← Option.some.inj h]; exact nag_3
  · rw [← Option.some.inj h]; exact nag_4
  · rw [← Option.some.inj h]; exact nag_5
  · rw [← Option.some.inj h]; exact nag_6
  · rw [← Option.some.inj h]; exact nag_7
  · rw [← Option.some.inj h]; exact nag_8

def ownW (v : ValC) : LV :=
  if v.kind == 0 then .iface 297 (.agg []) else if v.kind == 1 then .iface 280 (.int .i64 v.n) else if v.kind == 2 then .iface 281 (.str v.s) else if v.kind == 3 then .iface 282 (.bool (v.n != 0)) else if v.kind == 4 then .iface 283 (.int .i64 v.n) else .nilIface
theorem y260 (v : ValC) (H : LHeap) : CallL cfg 260 [v.lv] H (Ret (ownW v) H) := by
  refine e260t _ v H fun i1 H2 _ _ => ⟨fun h0 hI => ⟨?_, hI.pres⟩, fun h0 => ⟨fun h1 hI => ⟨?_, hI.pres⟩, fun h1 => ⟨fun h2 hI => ⟨?_, hI.pres⟩, fun h2 => ⟨fun h3 hI => ⟨?_, hI.pres⟩, fun h3 => ⟨fun h4 hI => ⟨?_, hI.pres⟩, fun h4 hI => ⟨?_, hI.pres⟩⟩⟩⟩⟩⟩
  all_goals simp only [ownW, *, if_true, Bool.false_eq_true, if_false]
def badV (k : Nat) : ValC := ⟨4, (k : Int), []⟩
theorem s233 (k : Nat) (hk : 1 ≤ k ∧ k ≤ 8) (H : LHeap) : CallL cfg 233 [.int .i64 (k : Int)] H (Ret (badV k).lv H) :=
  e233t _ _ H fun i1 H2 _ _ => ⟨fun h => (by simp at h; omega), fun _ => ⟨fun h => (by simp at h; omega), fun _ H5 _ hI => ⟨rfl, hI.pres⟩⟩⟩
theorem s194b (k : Nat) (hk : 1 ≤ k ∧ k ≤ 8) (x : List UInt8) (h : ([] :: NAMES)[k]? = some x) (H : LHeap) : CallL cfg 194 [(badV k).lv] H (Ret (.str x) H) := by
  have c260 : ∀ H, CallL cfg 260 [(badV k).lv] H (Ret (.iface 283 (.int .i64 (k : Int))) H) := fun H => y260 (badV k) H
  refine e194t _ (badV k) H fun i1 H2 _ _ _ => ⟨_, c260 H2, Ret.use ⟨_, rfl⟩, fun y4 H5 ⟨e, _⟩ => ?_⟩
  have : y4 = (k : Int) := by cases e; rfl
  subst this
  refine ⟨fun _ => ⟨fun _ _ => ⟨Ret NAG H5, e261 _ H5 fun i0 H1 _ _ H2 _ hI => ⟨rfl, hI.pres⟩, Ret.use ⟨_, _, _, _, _, _, _, _, _, rfl⟩, fun s7 s8 s9 s10 s11 s12 s13 s14 s15 H16 ⟨e16, _⟩ => ⟨x, ?_, fun hI => ⟨rfl, hI.pres⟩⟩⟩, fun h => (by simp at h; omega)⟩, fun h => (by simp at h; omega)⟩
  rw [e16]
  exact nag_at k x h

theorem flt_cons {x : List UInt8} {l : List (List UInt8)} {n : Nat} {s : List UInt8} : fltF (x :: l) n s = if s.take x.length == x then some (badT n, x.length) else fltF l (n + 1) s := rfl
theorem s149 (s : List UInt8) (hs : s.length ≤ 1000) (H : LHeap) : CallL cfg 149 [.str s] H (Ret (tokL (faultF s)) H) := by
  have bad : ∀ {H' : LHeap}, faultF s = none → PresX [] H H' → Ret (tokL (faultF s)) H (.tuple [.agg [.int .i64 0, .int .i64 0, .str [], .str [], .str [], .int .i64 0, .int .i64 0, .bool false, .bool false], .int .i64 0]) H' := fun h p => ⟨by rw [h]; rfl, p⟩
  have good : ∀ {H' : LHeap} {t : TokC} {n : Nat}, faultF s = some (t, n) → PresX [] H H' → Ret (tokL (faultF s)) H (.tuple [.agg t.cs, .int .i64 (n : Int)]) H' := fun h p => ⟨by rw [h]; rfl, p⟩
  have F0 : faultF s = fltF NAMES 1 s := rfl
  unfold NAMES at F0
  refine e149t _ s H fun i1 H2 _ _ _ => ⟨_, s233 1 (by omega) H2, Ret.use ⟨_, rfl⟩, fun x1 A1 ⟨e1, _⟩ => ?_⟩
  rw [e1]
  refine fun _ => ⟨_, s194b 1 (by omega) [35, 68, 73, 86, 47, 48, 33] rfl A1, Ret.use ⟨_, rfl⟩, fun s1 B1 ⟨f1, _⟩ => ?_⟩
  cases f1
  refine fun _ => ⟨_, s232 s [35, 68, 73, 86, 47, 48, 33] B1, Ret.use ⟨_, rfl⟩, fun b1 K1 ⟨g1, _⟩ => ⟨fun h1 _ _ hI => good (t := badT 1) ?_ hI.pres, fun h1 => ?_⟩⟩
  · have := LV.bool.inj g1
    rw [F0, flt_cons, ← this, h1]; rfl
  · have G := LV.bool.inj g1
    rw [flt_cons, ← G, h1, if_neg (by simp)] at F0
    refine fun _ => ⟨_, s233 2 (by omega) K1, Ret.use ⟨_, rfl⟩, fun x2 A2 ⟨e2, _⟩ => ?_⟩
    rw [e2]
    refine fun _ => ⟨_, s194b 2 (by omega) [35, 86, 65, 76, 85, 69, 33] rfl A2, Ret.use ⟨_, rfl⟩, fun s2 B2 ⟨f2, _⟩ => ?_⟩
    cases f2
    refine fun _ => ⟨_, s232 s [35, 86, 65, 76, 85, 69, 33] B2, Ret.use ⟨_, rfl⟩, fun b2 K2 ⟨g2, _⟩ => ⟨fun h2 _ _ hI => good (t := badT 2) ?_ hI.pres, fun h2 => ?_⟩⟩
    · have := LV.bool.inj g2
      rw [F0, flt_cons, ← this, h2]; rfl
    · have G := LV.bool.inj g2
      rw [flt_cons, ← G, h2, if_neg (by simp)] at F0
      refine fun _ => ⟨_, s233 3 (by omega) K2, Ret.use ⟨_, rfl⟩, fun x3 A3 ⟨e3, _⟩ => ?_⟩
      rw [e3]
      refine fun _ => ⟨_, s194b 3 (by omega) [35, 82, 69, 70, 33] rfl A3, Ret.use ⟨_, rfl⟩, fun s3 B3 ⟨f3, _⟩ => ?_⟩
      cases f3
      refine fun _ => ⟨_, s232 s [35, 82, 69, 70, 33] B3, Ret.use ⟨_, rfl⟩, fun b3 K3 ⟨g3, _⟩ => ⟨fun h3 _ _ hI => good (t := badT 3) ?_ hI.pres, fun h3 => ?_⟩⟩
      · have := LV.bool.inj g3
        rw [F0, flt_cons, ← this, h3]; rfl
      · have G := LV.bool.inj g3
        rw [flt_cons, ← G, h3, if_neg (by simp)] at F0
        refine fun _ => ⟨_, s233 4 (by omega) K3, Ret.use ⟨_, rfl⟩, fun x4 A4 ⟨e4, _⟩ => ?_⟩
        rw [e4]
        refine fun _ => ⟨_, s194b 4 (by omega) [35, 78, 65, 77, 69, 63] rfl A4, Ret.use ⟨_, rfl⟩, fun s4 B4 ⟨f4, _⟩ => ?_⟩
        cases f4
        refine fun _ => ⟨_, s232 s [35, 78, 65, 77, 69, 63] B4, Ret.use ⟨_, rfl⟩, fun b4 K4 ⟨g4, _⟩ => ⟨fun h4 _ _ hI => good (t := badT 4) ?_ hI.pres, fun h4 => ?_⟩⟩
        · have := LV.bool.inj g4
          rw [F0, flt_cons, ← this, h4]; rfl
        · have G := LV.bool.inj g4
          rw [flt_cons, ← G, h4, if_neg (by simp)] at F0
          refine fun _ => ⟨_, s233 5 (by omega) K4, Ret.use ⟨_, rfl⟩, fun x5 A5 ⟨e5, _⟩ => ?_⟩
          rw [e5]
          refine fun _ => ⟨_, s194b 5 (by omega) [35, 78, 85, 77, 33] rfl A5, Ret.use ⟨_, rfl⟩, fun s5 B5 ⟨f5, _⟩ => ?_⟩
          cases f5
          refine fun _ => ⟨_, s232 s [35, 78, 85, 77, 33] B5, Ret.use ⟨_, rfl⟩, fun b5 K5 ⟨g5, _⟩ => ⟨fun h5 _ _ hI => good (t := badT 5) ?_ hI.pres, fun h5 => ?_⟩⟩
          · have := LV.bool.inj g5
            rw [F0, flt_cons, ← this, h5]; rfl
          · have G := LV.bool.inj g5
            rw [flt_cons, ← G, h5, if_neg (by simp)] at F0
            refine fun _ => ⟨_, s233 6 (by omega) K5, Ret.use ⟨_, rfl⟩, fun x6 A6 ⟨e6, _⟩ => ?_⟩
            rw [e6]
            refine fun _ => ⟨_, s194b 6 (by omega) [35, 78, 47, 65] rfl A6, Ret.use ⟨_, rfl⟩, fun s6 B6 ⟨f6, _⟩ => ?_⟩
            cases f6
            refine fun _ => ⟨_, s232 s [35, 78, 47, 65] B6, Ret.use ⟨_, rfl⟩, fun b6 K6 ⟨g6, _⟩ => ⟨fun h6 _ _ hI => good (t := badT 6) ?_ hI.pres, fun h6 => ?_⟩⟩
            · have := LV.bool.inj g6
              rw [F0, flt_cons, ← this, h6]; rfl
            · have G := LV.bool.inj g6
              rw [flt_cons, ← G, h6, if_neg (by simp)] at F0
              refine fun _ => ⟨_, s233 7 (by omega) K6, Ret.use ⟨_, rfl⟩, fun x7 A7 ⟨e7, _⟩ => ?_⟩
              rw [e7]
              refine fun _ => ⟨_, s194b 7 (by omega) [35, 67, 89, 67, 76, 69, 33] rfl A7, Ret.use ⟨_, rfl⟩, fun s7 B7 ⟨f7, _⟩ => ?_⟩
              cases f7
              refine fun _ => ⟨_, s232 s [35, 67, 89, 67, 76, 69, 33] B7, Ret.use ⟨_, rfl⟩, fun b7 K7 ⟨g7, _⟩ => ⟨fun h7 _ _ hI => good (t := badT 7) ?_ hI.pres, fun h7 => ?_⟩⟩
              · have := LV.bool.inj g7
                rw [F0, flt_cons, ← this, h7]; rfl
              · have G := LV.bool.inj g7
                rw [flt_cons, ← G, h7, if_neg (by simp)] at F0
                refine fun _ => ⟨_, s233 8 (by omega) K7, Ret.use ⟨_, rfl⟩, fun x8 A8 ⟨e8, _⟩ => ?_⟩
                rw [e8]
                refine fun _ => ⟨_, s194b 8 (by omega) [35, 76, 73, 78, 75, 33] rfl A8, Ret.use ⟨_, rfl⟩, fun s8 B8 ⟨f8, _⟩ => ?_⟩
                cases f8
                refine fun _ => ⟨_, s232 s [35, 76, 73, 78, 75, 33] B8, Ret.use ⟨_, rfl⟩, fun b8 K8 ⟨g8, _⟩ => ⟨fun h8 _ _ hI => good (t := badT 8) ?_ hI.pres, fun h8 => ?_⟩⟩
                · have := LV.bool.inj g8
                  rw [F0, flt_cons, ← this, h8]; rfl
                · have G := LV.bool.inj g8
                  rw [flt_cons, ← G, h8, if_neg (by simp)] at F0
                  exact fun _ _ hI => bad (by rw [F0]; rfl) hI.pres

theorem loop76_1 (s : List UInt8) (hs : s.length ≤ 1000) (H0 : LHeap) (i : Nat) (R0 : Option (TokC × Nat)) : ∀ (l : List (List UInt8)) (k : Nat) (d : Nat → LV) (H : LHeap), 1 ≤ k → ([] :: NAMES).drop k = l → R0 = fltF l k s →
    GoesT cfg 76 (Ret (tokL R0) H0) [] H0 [⟨i, zeroT.cs, 127⟩] (L76t_1 d (k : Int) s [] [35, 68, 73, 86, 47, 48, 33] [35, 86, 65, 76, 85, 69, 33] [35, 82, 69, 70, 33] [35, 78, 65, 77, 69, 63] [35, 78, 85, 77, 33] [35, 78, 47, 65] [35, 67, 89, 67, 76, 69, 33] [35, 76, 73, 78, 75, 33]) (loopAt cfg 76 1) H
  | [], k, d, H, hk, hl, hr => by
    intro hin hI
    have h9 : 9 ≤ k := by
      have := congrArg List.length hl
      simp [NAMES] at this; omega
    exact g76t_1 _ H0 d k s [] [35, 68, 73, 86, 47, 48, 33] [35, 86, 65, 76, 85, 69, 33] [35, 82, 69, 70, 33] [35, 78, 65, 77, 69, 63] [35, 78, 85, 77, 33] [35, 78, 47, 65] [35, 67, 89, 67, 76, 69, 33] [35, 76, 73, 78, 75, 33] i zeroT H ⟨fun h => (by simp at h; omega), fun _ H20 _ hI => ⟨by rw [hr]; rfl, hI.pres⟩⟩ hin hI
  | x :: l, k, d, H, hk, hl, hr => by
    intro hin hI
    have h9 : k < 9 := by
      have := congrArg List.length hl
      simp [NAMES] at this; omega
    have hx : ([] :: NAMES)[k]? = some x := by
      have := congrArg (fun l => l[0]?) hl
      simpa using this
    have hl' : ([] :: NAMES).drop (k + 1) = l := by rw [← List.drop_drop, hl]; rfl
    rw [flt_cons] at hr
    have next : (s.take x.length == x) = false → ∀ d, GoesT cfg 76 (Ret (tokL R0) H0) [] H0 [⟨i, zeroT.cs, 127⟩] (L76t_1 d (lwrap .i64 ((k : Int) + 1)) s [] [35, 68, 73, 86, 47, 48, 33] [35, 86, 65, 76, 85, 69, 33] [35, 82, 69, 70, 33] [35, 78, 65, 77, 69, 63] [35, 78, 85, 77, 33] [35, 78, 47, 65] [35, 67, 89, 67, 76, 69, 33] [35, 76, 73, 78, 75, 33]) (loopAt cfg 76 1) H := by
      intro hn d
      rw [lwrap_small (by omega) (by omega)]
      exact loop76_1 s hs H0 i R0 l (k + 1) d H (by omega) hl' (by rw [hr, hn, if_neg (by simp)])
    refine g76t_1 _ H0 d k s [] [35, 68, 73, 86, 47, 48, 33] [35, 86, 65, 76, 85, 69, 33] [35, 82, 69, 70, 33] [35, 78, 65, 77, 69, 63] [35, 78, 85, 77, 33] [35, 78, 47, 65] [35, 67, 89, 67, 76, 69, 33] [35, 76, 73, 78, 75, 33] i zeroT H ⟨fun _ => ⟨x, nag_at k x hx, fun _ => ⟨fun hlen => ⟨by simp at hlen; omega, fun he H16 _ hI => ⟨?_, hI.pres⟩, fun he d17 => next ?_ d17⟩, fun hlen d18 => next ?_ d18⟩, fun h => (by simp at h; omega)⟩, fun h => (by simp at h; omega)⟩ hin hI
    · rw [sub_take] at he
      rw [hr, he]; rfl
    · rw [sub_take] at he
      exact he
    · rw [beq_eq_false_iff_ne]
      intro e
      have := congrArg List.length e
      rw [List.length_take] at this
      simp at hlen; omega
end Go.Proofs.YtjihhflffkoffaaGreatDoor.Z
