/- Contracts of functions of the program; no condition. -/
import Derived.Test.YtjihhflffkoffaaGreatDoorTc
import Derived.Test.YtjihhflffkoffaaGreatDoorT2
import Derived.Test.YtjihhflffkoffaaGreatDoorT3
set_option linter.unusedSimpArgs false
set_option linter.unusedVariables false
set_option linter.unusedSectionVars false
set_option linter.unnecessarySimpa false
namespace Go.Proofs.YtjihhflffkoffaaGreatDoor.Z
open Go Go.Lm
set_option maxRecDepth 100000

theorem cutP_no {s : List UInt8} {c : UInt8} (h : s.head? ≠ some c) : cutP s [c] = (s, false) := by
  unfold cutP
  rw [if_neg]
  cases s with
  | nil => simp
  | cons b t =>
    simp at h
    simp [h]

theorem pow4 {d k : Nat} (h : d < 10 ^ k) (hk : k ≤ 4) : (d : Int) * 10 ^ (4 - k) < 10000 := by
  have h1 : d * 10 ^ (4 - k) < 10 ^ k * 10 ^ (4 - k) := Nat.mul_lt_mul_of_pos_right h (Nat.pow_pos (by omega))
  rw [← Nat.pow_add, show k + (4 - k) = 4 by omega] at h1
  have h2 : ((d * 10 ^ (4 - k) : Nat) : Int) < 10000 := by omega
  simpa using h2

/-- num.Parse of a text without a sign. -/
theorem s230 (s : List UInt8) (hs : s.length ≤ 1000) (hh : s.head? ≠ some 45) (H : LHeap) : CallL cfg 230 [.str s] H (Ret (parseL s) H) := by
  refine e230t _ s H fun hI => ⟨_, s130 s [45] H, Ret.use ⟨_, _, rfl⟩, fun s2 b3 H4 ⟨e, _⟩ hI => ?_⟩
  rw [cutP_no hh] at e
  cases e
  refine ⟨_, s231 s 46 H4 hs, Ret.use (cutL_sh s 46), fun s6 s7 b8 H9 ⟨e, _⟩ hI => ?_⟩
  have key : partsF s = (s6, s7, b8) ∧ s6.length ≤ 1000 ∧ s7.length ≤ 1000 := by
    unfold cutL at e
    unfold partsF
    cases hc : cutF 46 s with
    | none => rw [hc] at e; cases e; exact ⟨rfl, hs, by simp⟩
    | some p =>
      obtain ⟨x, y⟩ := p
      rw [hc] at e
      cases e
      have := congrArg List.length (cutF_eq hc)
      simp at this
      exact ⟨rfl, by omega, by omega⟩
  obtain ⟨kp, k6, k7⟩ := key
  refine ⟨_, s276 s6 k6 1 12 H9, CountR.sh, fun n11 b12 H13 ⟨_, n, b, e1, hb1, hn1, hlo1, hhi1⟩ hI => ⟨_, s276 s7 k7 1 4 H13, CountR.sh, fun n15 b16 H17 ⟨_, m, b', e2, hb2, hn2, hlo2, hhi2⟩ => ?_⟩⟩
  cases e1; cases e2
  have ok : parseOk s = (b12 && (!b8 || b16)) := by
    unfold parseOk
    rw [kp, hb1, hb2]
  have bad : ∀ {H' : LHeap}, parseOk s = false → PresX [] H H' → Ret (parseL s) H (.tuple [.int .i64 0, .bool false]) H' := fun h p => ⟨by unfold parseL; rw [h]; rfl, p⟩
  have good : parseOk s = true → ∀ d H', GoesT cfg 230 (Ret (parseL s) H) [] H [] (L230t_0 d 0 n15 false n11 (lwrap .i64 ((4 : Int) - ((s7.length : Nat) : Int)))) (loopAt cfg 230 0) H' := by
    intro h d H'
    have h1 : b12 = true := by rw [ok] at h; simp at h; exact h.1
    have h2 : digs s6 = true ∧ s6.length ≤ 12 := by
      rw [hb1] at h1
      simp at h1
      exact ⟨h1.1, by omega⟩
    have h3 : digs s7 = true ∧ s7.length ≤ 4 := by
      cases hb8 : b8 with
      | true =>
        rw [ok, hb8, hb2] at h
        simp at h
        exact ⟨h.2.1, by omega⟩
      | false =>
        have : s7 = [] := by
          unfold partsF at kp
          split at kp
          · cases kp; cases hb8
          · cases kp; rfl
        rw [this]; exact ⟨rfl, by simp⟩
    have v1 := hn1 h2.1 h2.2
    have v2 := hn2 h3.1 (by omega)
    have b1 := decF_12 h2.1 h2.2
    have b2 := decF_lt s7 0 h3.1
    have hw : lwrap .i64 ((4 : Int) - ((s7.length : Nat) : Int)) = ((4 - s7.length : Nat) : Int) := by rw [lwrap_small (by omega) (by omega)]; omega
    rw [hw, v1, v2]
    have hp : parseL s = toldL ((decF s6 0 : Int) * 10000 + (decF s7 0 : Int) * 10 ^ (4 - s7.length)) := by
      unfold parseL parseV
      rw [h, kp]; rfl
    rw [hp]
    have := loop230 H (decF s6 0 : Int) ⟨by omega, by omega⟩ (4 - s7.length) (by omega) (decF s7 0 : Int) (by omega) (pow4 (by simpa using b2) h3.2) _ rfl (4 - s7.length) 0 (by omega) d H'
    simpa using this
  refine ⟨fun h hI => bad ?_ hI.pres, fun h => ⟨fun h8 => ⟨fun h16 hI => bad ?_ hI.pres, fun h16 d => good ?_ d H17⟩, fun h8 d => good ?_ d H17⟩⟩
  · rw [ok]; simp at h; rw [h]; rfl
  · rw [ok, h8]; simp at h16; rw [h16]; simp
  · rw [ok, h8]; simp at h h16; rw [h, h16]; rfl
  · rw [ok, h8]; simp at h; rw [h]; rfl

/-! The document's numbers -/
theorem s283 (n : Int) (H : LHeap) : CallL cfg 283 [.int .i64 n] H (Ret (.bool (numF n)) H) := by
  refine e283u _ n H ⟨fun h hI => ⟨?_, hI.pres⟩, fun h hI => ⟨?_, hI.pres⟩⟩
  all_goals simp only [numF, h, Bool.true_and, Bool.false_and]
theorem s239 (n : Int) (H : LHeap) : CallL cfg 239 [.int .i64 n] H (Ret (toldL n) H) := by
  refine e239t _ n H fun hI => ⟨_, s283 n H, Ret.use ⟨_, rfl⟩, fun b H3 ⟨e, _⟩ => ⟨fun h hI => ⟨?_, hI.pres⟩, fun h hI => ⟨?_, hI.pres⟩⟩⟩
  · cases e
    have : numF n = false := by simpa using h
    unfold toldL; rw [this]; rfl
  · cases e
    have : numF n = true := by simpa using h
    unfold toldL; rw [this]; rfl

def digitsF (s : List UInt8) (l m : Int) : Bool := digs s && (decide (l ≤ (s.length : Int)) && decide ((s.length : Int) ≤ m))
theorem loop238 (s : List UInt8) (hs : s.length ≤ 1000) (l m : Int) (H0 : LHeap) : ∀ (C A : List UInt8) (d : Nat → LV) (H : LHeap), A ++ C = s → digs A = true →
    GoesT cfg 238 (Ret (.bool (digitsF s l m)) H0) [] H0 [] (L238t_0 d (A.length : Int) s l m) (loopAt cfg 238 0) H
  | [], A, d, H, hA, hd => by
    intro hin hI
    rw [List.append_nil] at hA
    subst hA
    refine g238t_0 _ H0 d A.length A l m H ⟨fun h => ?_, fun _ => ⟨fun h hI => ⟨?_, hI.pres⟩, fun h hI => ⟨?_, hI.pres⟩⟩⟩ hin hI
    · simp at h
    · have : decide (l ≤ (A.length : Int)) = true := by simpa using h
      unfold digitsF; rw [hd, this]; rfl
    · have : decide (l ≤ (A.length : Int)) = false := by simpa using h
      unfold digitsF; rw [hd, this]; rfl
  | b :: C, A, d, H, hA, hd => by
    intro hin hI
    have hb : byteAt s (A.length : Int) = (b.toNat : Int) := by rw [← hA]; exact byteAt_app A b C
    have hl : A.length + (C.length + 1) = s.length := by rw [← hA]; simp
    have rg : (0 : Int) ≤ (A.length : Int) ∧ (A.length : Int) < ((s.length : Nat) : Int) := by omega
    have no : digF (b.toNat : Int) = false → digitsF s l m = false := fun h => by
      unfold digitsF
      rw [← hA, digs_app]
      simp [digs, h]
    refine g238t_0 _ H0 d A.length s l m H ⟨fun h => ⟨rg, fun h1 hI => ⟨?_, hI.pres⟩, fun h1 => ⟨rg, fun h2 hI => ⟨?_, hI.pres⟩, fun h2 d6 => ?_⟩⟩, fun h => ?ge⟩ hin hI
    case ge => simp at h; omega
    · rw [no]; rw [hb] at h1; simp at h1; simp [digF]; omega
    · rw [no]; rw [hb] at h2; simp at h2; simp [digF]; omega
    · rw [hb] at h1 h2
      simp at h1 h2
      have hk : lwrap .i64 ((A.length : Int) + 1) = (((A ++ [b]).length : Nat) : Int) := by rw [lwrap_small (by omega) (by omega)]; simp
      rw [hk]
      exact loop238 s hs l m H0 C (A ++ [b]) d6 H (by rw [← hA]; simp) (by rw [digs_app, hd]; simp [digs, digF]; omega)
theorem s238 (s : List UInt8) (hs : s.length ≤ 1000) (l m : Int) (H : LHeap) : CallL cfg 238 [.str s, .int .i64 l, .int .i64 m] H (Ret (.bool (digitsF s l m)) H) :=
  e238t _ s l m H fun d => loop238 s hs l m H s [] d H rfl rfl

theorem decF_zeros (s : List UInt8) (n : Nat) : ∀ k, decF (s ++ List.replicate k 48) n = decF s n * 10 ^ k
  | 0 => by simp
  | k + 1 => by
    rw [List.replicate_succ', ← List.append_assoc, decF_app, decF_zeros s n k]
    simp [decF, Nat.pow_succ]
    rw [Nat.mul_comm, Nat.mul_assoc]
theorem decF_start (s : List UInt8) : ∀ n, decF s n = n * 10 ^ s.length + decF s 0 := by
  induction s with
  | nil => intro n; simp [decF]
  | cons b s ih =>
    intro n
    show decF s (10 * n + (b.toNat - 48)) = _ + decF s (10 * 0 + (b.toNat - 48))
    rw [ih (10 * n + (b.toNat - 48)), ih (10 * 0 + (b.toNat - 48))]
    rw [List.length_cons, Nat.pow_succ, Nat.add_mul, Nat.mul_zero, Nat.zero_add]
    rw [show 10 * n * 10 ^ s.length = n * (10 ^ s.length * 10) by rw [Nat.mul_comm 10 n, Nat.mul_assoc, Nat.mul_comm 10]]
    omega

theorem loop154_2 (s : List UInt8) (hl : s.length ≤ 16) (hd : digs s = true) (H0 : LHeap) (r : LV) (hr : toldL (decF s 0 : Int) = r) : ∀ (C A : List UInt8) (d : Nat → LV) (H : LHeap), A ++ C = s →
    GoesT cfg 154 (Ret r H0) [] H0 [] (L154t_2 d (A.length : Int) (decF A 0 : Int) s false) (loopAt cfg 154 2) H
  | [], A, d, H, hA => by
    intro hin hI
    rw [List.append_nil] at hA
    subst hA
    refine g154t_2 _ H0 d A.length (decF A 0) A false H ⟨fun h => ?_, fun _ => ⟨fun h => (by cases h), fun _ hI => ⟨_, s239 _ H, Ret.use (toldL_sh _), fun n11 b12 H13 ⟨e, _⟩ hI => ⟨by rw [← hr]; exact e, hI.pres⟩⟩⟩⟩ hin hI
    simp at h
  | b :: C, A, d, H, hA => by
    intro hin hI
    have hb : byteAt s (A.length : Int) = (b.toNat : Int) := by rw [← hA]; exact byteAt_app A b C
    have hll : A.length + (C.length + 1) = s.length := by rw [← hA]; simp
    have hdA : digs A = true ∧ digF (b.toNat : Int) = true := by
      rw [← hA, digs_app] at hd
      simp [digs] at hd
      exact ⟨by simpa [digs] using hd.1, hd.2.1⟩
    have hb2 : 48 ≤ b.toNat ∧ b.toNat ≤ 57 := by have := hdA.2; simp [digF] at this; omega
    have hlt := decF_lt A 0 hdA.1
    have hp : 10 ^ A.length ≤ 10 ^ 16 := Nat.pow_le_pow_right (by omega) (by omega)
    have e1 : lwrap .u8 ((b.toNat : Int) - 48) = (b.toNat : Int) - 48 := by
      rw [lwrap_eq]
      simp only [IntKind.wrap, IntKind.signed, IntKind.bits, Bool.false_and, Bool.false_eq_true, if_false]
      omega
    refine g154t_2 _ H0 d A.length (decF A 0) s false H ⟨fun h => ⟨by omega, fun d5 => ?_⟩, fun h => ?ge⟩ hin hI
    case ge => simp at h; omega
    rw [hb, e1, lwrap_small (n := (10 : Int) * (decF A 0 : Int)) (by omega) (by omega), lwrap_small (n := (b.toNat : Int) - 48) (by omega) (by omega), lwrap_small (n := (10 : Int) * (decF A 0 : Int) + ((b.toNat : Int) - 48)) (by omega) (by omega), lwrap_small (n := (A.length : Int) + 1) (by omega) (by omega)]
    have hdec : (10 : Int) * (decF A 0 : Int) + ((b.toNat : Int) - 48) = (decF (A ++ [b]) 0 : Int) := by
      rw [decF_app]
      show _ = ((10 * decF A 0 + (b.toNat - 48) : Nat) : Int)
      omega
    rw [hdec, show (A.length : Int) + 1 = (((A ++ [b]).length : Nat) : Int) by simp]
    exact loop154_2 s hl hd H0 r hr C (A ++ [b]) d5 H (by rw [← hA]; simp)

theorem loop154_1 (x y : List UInt8) (hx : digs x = true ∧ x.length ≤ 12) (hy : digs y = true ∧ y.length ≤ 4) (H0 : LHeap) (r : LV) (hr : toldL ((decF x 0 : Int) * 10000 + (decF y 0 : Int) * 10 ^ (4 - y.length)) = r) : ∀ (m k : Nat), y.length + k + m = 4 → ∀ (d : Nat → LV) (H : LHeap),
    GoesT cfg 154 (Ret r H0) [] H0 [] (L154t_1 d (y ++ List.replicate k 48) false x) (loopAt cfg 154 1) H
  | 0, k, hk, d, H => by
    intro hin hI
    refine g154t_1 _ H0 d (y ++ List.replicate k 48) false x H ⟨fun h => ?_, fun _ => ⟨by simp; omega, fun d6 => ?_⟩⟩ hin hI
    · simp at h; omega
    · refine loop154_2 (x ++ (y ++ List.replicate k 48)) (by simp; omega) ?_ H0 r ?_ _ [] d6 H rfl
      · rw [digs_app, digs_app, hx.1, hy.1]
        simp [digs, digF]
      · rw [← hr, decF_app, decF_start, List.length_append, List.length_replicate, decF_zeros]
        congr 1
        rw [show y.length + k = 4 by omega, show k = 4 - y.length by omega]
        simp
  | m + 1, k, hk, d, H => by
    intro hin hI
    refine g154t_1 _ H0 d (y ++ List.replicate k 48) false x H ⟨fun _ => ⟨by simp; omega, fun d4 => ?_⟩, fun h => ?_⟩ hin hI
    · have := loop154_1 x y hx hy H0 r hr m (k + 1) (by omega) d4 H
      rw [List.replicate_succ', ← List.append_assoc] at this
      exact this
    · simp at h; omega
end Go.Proofs.YtjihhflffkoffaaGreatDoor.Z
