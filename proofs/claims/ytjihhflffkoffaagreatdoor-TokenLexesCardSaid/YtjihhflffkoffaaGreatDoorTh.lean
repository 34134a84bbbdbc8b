/- Contracts of functions of the program; no condition. -/
import Derived.Test.YtjihhflffkoffaaGreatDoorTg
set_option linter.unusedSimpArgs false
set_option linter.unusedVariables false
set_option linter.unusedSectionVars false
set_option linter.unnecessarySimpa false
namespace Go.Proofs.YtjihhflffkoffaaGreatDoor.Z
open Go Go.Lm
set_option maxRecDepth 100000

theorem cellL_inv {o : Option RefC} {x : RefC} {b : Bool} (h : LV.tuple [x.lv, .bool b] = cellL o) : o = if b then some x else none := by
  cases o with
  | none =>
    simp only [cellL, LV.tuple.injEq, List.cons.injEq, LV.bool.injEq, and_true] at h
    rw [h.2]; rfl
  | some r =>
    simp only [cellL, LV.tuple.injEq, List.cons.injEq, LV.bool.injEq, and_true] at h
    rw [h.2, if_pos rfl]
    congr 1
    have := h.1
    cases x; cases r
    simp only [RefC.lv, RefC.cs, LV.agg.injEq, List.cons.injEq, LV.str.injEq, LV.bool.injEq, LV.int.injEq, and_true, true_and] at this
    obtain ⟨h1, h2, h3, h4, h5, h6⟩ := this
    subst h1; subst h2; subst h3; subst h4; subst h5; subst h6
    rfl

def tailR (b s : List UInt8) : Option RefC := match cutF 33 s with
  | some (x, y) => if nameF x then (cellF y).map (fun r => ⟨b, x, r.row, r.col, r.fixRow, r.fixCol⟩) else none
  | none => (cellF s).map (fun r => ⟨b, [], r.row, r.col, r.fixRow, r.fixCol⟩)
/-- A cell, perhaps of a sheet, of a book. -/
def refTF (s : List UInt8) : Option RefC :=
  if (cutP s [91]).2 then match cutF 93 (cutP s [91]).1 with
    | some (b, m) => if nameF b && (cutF 33 m).isSome then tailR b m else none
    | none => none
  else tailR [] s

theorem cut_inv {s x y : List UInt8} {b : Bool} {c : UInt8} (h : LV.tuple [.str x, .str y, .bool b] = cutL s c) : cutF c s = if b then some (x, y) else none := by
  unfold cutL at h
  cases k : cutF c s with
  | none =>
    rw [k] at h
    simp only [LV.tuple.injEq, List.cons.injEq, LV.str.injEq, LV.bool.injEq, and_true] at h
    rw [h.2.2]; rfl
  | some p =>
    obtain ⟨x', y'⟩ := p
    rw [k] at h
    simp only [LV.tuple.injEq, List.cons.injEq, LV.str.injEq, LV.bool.injEq, and_true] at h
    rw [h.2.2, h.1, h.2.1]; rfl
theorem cutF_len {c : UInt8} {s x y : List UInt8} (h : cutF c s = some (x, y)) : x.length + (y.length + 1) = s.length := by
  rw [cutF_eq h]; simp

theorem s235 (s : List UInt8) (hs : s.length ≤ 1000) (H : LHeap) : CallL cfg 235 [.str s] H (Ret (cellL (refTF s)) H) := by
  have bad : ∀ {H' : LHeap}, refTF s = none → PresX [] H H' → Ret (cellL (refTF s)) H (.tuple [.agg [.str [], .str [], .int .i64 0, .int .i64 0, .bool false, .bool false], .bool false]) H' := fun h p => ⟨by rw [h]; rfl, p⟩
  have good : ∀ {H' : LHeap} {b x : List UInt8} {m n : Int} {f g : Bool}, refTF s = some ⟨b, x, m, n, f, g⟩ → PresX [] H H' → Ret (cellL (refTF s)) H (.tuple [.agg [.str b, .str x, .int .i64 m, .int .i64 n, .bool f, .bool g], .bool true]) H' := fun h p => ⟨by rw [h]; rfl, p⟩
  refine e235t _ s H fun i1 H2 _ _ hI => ⟨_, s130 s [91] H2, Ret.use ⟨_, _, rfl⟩, fun s4 b5 H6 ⟨e, _⟩ => ?_⟩
  simp only [LV.tuple.injEq, List.cons.injEq, LV.str.injEq, LV.bool.injEq, and_true] at e
  obtain ⟨e1, e2⟩ := e
  have hl := cutP_le s [91]
  rw [← e1] at hl
  refine ⟨fun h5 hI => ⟨_, s231 s4 93 H6 (by omega), Ret.use (cutL_sh _ _), fun s8 s9 b10 H11 ⟨e10, _⟩ => ?_⟩, fun h5 hI => ⟨_, s231 s 33 H6 hs, Ret.use (cutL_sh _ _), fun s53 s54 b55 H56 ⟨e55, _⟩ => ?_⟩⟩
  · have q1 := cut_inv e10
    rw [h5] at e2
    have F0 : refTF s = match cutF 93 s4 with
        | some (b, m) => if nameF b && (cutF 33 m).isSome then tailR b m else none
        | none => none := by unfold refTF; rw [← e2, ← e1]; rfl
    rw [q1] at F0
    refine ⟨fun h10 H12 _ hI => bad ?_ hI.pres, fun h10 hI => ⟨_, s90 s8 H11, Ret.use ⟨_, rfl⟩, fun b14 H15 ⟨e14, _⟩ => ?_⟩⟩
    · have : b10 = false := by simpa using h10
      rw [F0, this]; rfl
    · have hb10 : b10 = true := by simpa using h10
      rw [hb10] at F0 q1
      have hl9 := cutF_len q1
      cases e14
      refine ⟨fun h14 H16 _ hI => bad ?_ hI.pres, fun h14 hI => ⟨_, s237 s9 33 H15, Ret.use ⟨_, rfl⟩, fun b18 H19 ⟨e18, _⟩ => ?_⟩⟩
      · have : nameF s8 = false := by simpa using h14
        rw [F0]; simp [this]
      · have hn8 : nameF s8 = true := by simpa using h14
        cases e18
        refine ⟨fun h18 H20 _ hI => bad ?_ hI.pres, fun h18 hI => ⟨_, s231 s9 33 H19 (by omega), Ret.use (cutL_sh _ _), fun s22 s23 b24 H25 ⟨e24, _⟩ => ?_⟩⟩
        · have : (cutF 33 s9).isSome = false := by simpa using h18
          rw [F0]; simp [this]
        · have hc : (cutF 33 s9).isSome = true := by simpa using h18
          have F1 : refTF s = tailR s8 s9 := by rw [F0]; simp [hn8, hc]
          have q2 := cut_inv e24
          unfold tailR at F1
          rw [q2] at F1
          refine ⟨fun h24 hI => ⟨_, s90 s22 H25, Ret.use ⟨_, rfl⟩, fun b27 H28 ⟨e27, _⟩ => ?_⟩, fun h24 hI => ?_⟩
          · rw [h24] at F1 q2
            have hl23 := cutF_len q2
            cases e27
            refine ⟨fun h27 H29 _ hI => bad ?_ hI.pres, fun h27 hI => ⟨_, s236 s23 (by omega) H28, Ret.use (cellL_sh _), fun x31 b32 H33 ⟨e32, _⟩ i34 H35 _ _ H36 _ => ⟨fun h32 H37 _ hI => bad ?_ hI.pres, fun h32 H38 _ H39 _ H40 _ hI => good ?_ hI.pres⟩⟩⟩
            · have : nameF s22 = false := by simpa using h27
              rw [F1]; simp [this]
            · have : nameF s22 = true := by simpa using h27
              have hb : b32 = false := by simpa using h32
              rw [F1]; simp [this, cellL_inv e32, hb]
            · have : nameF s22 = true := by simpa using h27
              have hb : b32 = true := by simpa using h32
              rw [F1]; simp [this, cellL_inv e32, hb]
          · rw [q2, h24] at hc
            cases hc
  · have h5' : b5 = false := h5
    rw [h5'] at e2
    have F1 : refTF s = tailR [] s := by unfold refTF; rw [← e2]; rfl
    have q2 := cut_inv e55
    unfold tailR at F1
    rw [q2] at F1
    refine ⟨fun h24 hI => ⟨_, s90 s53 H56, Ret.use ⟨_, rfl⟩, fun b27 H28 ⟨e27, _⟩ => ?_⟩, fun h24 hI => ⟨_, s236 s hs H56, Ret.use (cellL_sh _), fun x31 b32 H33 ⟨e32, _⟩ i34 H35 _ _ H36 _ => ⟨fun h32 H37 _ hI => bad ?_ hI.pres, fun h32 H38 _ H39 _ H40 _ hI => good ?_ hI.pres⟩⟩⟩
    · rw [h24] at F1 q2
      have hl23 := cutF_len q2
      cases e27
      refine ⟨fun h27 H29 _ hI => bad ?_ hI.pres, fun h27 hI => ⟨_, s236 s54 (by omega) H28, Ret.use (cellL_sh _), fun x31 b32 H33 ⟨e32, _⟩ i34 H35 _ _ H36 _ => ⟨fun h32 H37 _ hI => bad ?_ hI.pres, fun h32 H38 _ H39 _ H40 _ hI => good ?_ hI.pres⟩⟩⟩
      · have : nameF s53 = false := by simpa using h27
        rw [F1]; simp [this]
      · have : nameF s53 = true := by simpa using h27
        have hb : b32 = false := by simpa using h32
        rw [F1]; simp [this, cellL_inv e32, hb]
      · have : nameF s53 = true := by simpa using h27
        have hb : b32 = true := by simpa using h32
        rw [F1]; simp [this, cellL_inv e32, hb]
    · rw [h24] at F1
      have hb : b32 = false := by simpa using h32
      rw [F1]; simp [cellL_inv e32, hb]
    · rw [h24] at F1
      have hb : b32 = true := by simpa using h32
      rw [F1]; simp [cellL_inv e32, hb]

/-! The document's. -/
theorem loop284 (s : List UInt8) (c : UInt8) (hs : s.length ≤ 1000) (H0 : LHeap) (r : Int) : ∀ (C A : List UInt8) (d : Nat → LV) (H : LHeap), A ++ C = s → findByte c C A.length = r →
    GoesT cfg 284 (Ret (.int .i64 r) H0) [] H0 [] (L284t_0 d (A.length : Int) s (c.toNat : Int)) (loopAt cfg 284 0) H
  | [], A, d, H, hA, hr => by
    intro hin hI
    rw [List.append_nil] at hA
    subst hA
    exact g284t_0 _ H0 d A.length A c.toNat H ⟨fun h => (by simp at h), fun _ hI => ⟨by rw [← hr]; rfl, hI.pres⟩⟩ hin hI
  | b :: C, A, d, H, hA, hr => by
    intro hin hI
    have hb : byteAt s (A.length : Int) = (b.toNat : Int) := by rw [← hA]; exact byteAt_app A b C
    have hl : A.length + (C.length + 1) = s.length := by rw [← hA]; simp
    unfold findByte at hr
    refine g284t_0 _ H0 d A.length s c.toNat H ⟨fun _ => ⟨by omega, fun h hI => ⟨?_, hI.pres⟩, fun h d4 => ?_⟩, fun h => (by simp at h; omega)⟩ hin hI
    · rw [hb] at h
      have : b = c := UInt8.toNat_inj.1 (by have := eq_of_beq h; omega)
      subst this
      rw [beq_self_eq_true, if_pos rfl] at hr
      rw [← hr]
    · rw [hb] at h
      have hne : (b == c) = false := by
        rw [beq_eq_false_iff_ne] at h ⊢
        intro e; subst e; exact h rfl
      rw [hne, if_neg (by simp)] at hr
      rw [lwrap_small (by omega) (by omega), show (A.length : Int) + 1 = (((A ++ [b]).length : Nat) : Int) by simp]
      exact loop284 s c hs H0 r C (A ++ [b]) d4 H (by rw [← hA]; simp) (by simpa using hr)
theorem s284 (s : List UInt8) (c : UInt8) (hs : s.length ≤ 1000) (H : LHeap) : CallL cfg 284 [.str s, .int .u8 (c.toNat : Int)] H (Ret (.int .i64 (findByte c s 0)) H) :=
  e284t _ s _ H fun d => loop284 s c hs H _ s [] d H rfl rfl

theorem tailR_none {b s : List UInt8} (h : cutF 33 s = none) : tailR b s = (cellF s).map (fun r => ⟨b, [], r.row, r.col, r.fixRow, r.fixCol⟩) := by
  unfold tailR; rw [h]
theorem tailR_some {b s x y : List UInt8} (h : cutF 33 s = some (x, y)) : tailR b s = if nameF x then (cellF y).map (fun r => ⟨b, x, r.row, r.col, r.fixRow, r.fixCol⟩) else none := by
  unfold tailR; rw [h]

theorem cutF_cons (c b : UInt8) (s : List UInt8) : cutF c (b :: s) = if b == c then some ([], s) else match cutF c s with | some (x, y) => some (b :: x, y) | none => none := rfl
theorem cut_find {c : UInt8} {s : List UInt8} : (cutF c s = none ∧ findByte c s 0 = -1) ∨ (∃ x y, cutF c s = some (x, y) ∧ findByte c s 0 = (x.length : Int) ∧ s = x ++ c :: y ∧ x.length + (y.length + 1) = s.length) := by
  rw [find_cut]
  cases h : cutF c s with
  | none => exact .inl ⟨rfl, rfl⟩
  | some p => exact .inr ⟨p.1, p.2, rfl, by simp, cutF_eq h, cutF_len h⟩
theorem cut_sub {s x y : List UInt8} {c : UInt8} (hs : s.length ≤ 1000) (h : s = x ++ c :: y) : subStr s 0 (x.length : Int) = x ∧ subStr s (lwrap .i64 ((x.length : Int) + 1)) ((s.length : Nat) : Int) = y ∧ lwrap .i64 ((x.length : Int) + 1) = ((x.length + 1 : Nat) : Int) := by
  have hl : s.length = x.length + (y.length + 1) := by rw [h]; simp
  have hw : lwrap .i64 (((x.length : Nat) : Int) + 1) = ((x.length + 1 : Nat) : Int) := by rw [lwrap_small (by omega) (by omega)]; simp
  refine ⟨?_, ?_, hw⟩
  · rw [sub_take, h]; simp
  · rw [hw, sub_drop, h]; simp

theorem s241 (s : List UInt8) (hs : s.length ≤ 1000) (H : LHeap) : CallL cfg 241 [.str s] H (Ret (cellL (refTF s)) H) := by
  have bad : ∀ {H' : LHeap}, refTF s = none → PresX [] H H' → Ret (cellL (refTF s)) H (.tuple [.agg [.str [], .str [], .int .i64 0, .int .i64 0, .bool false, .bool false], .bool false]) H' := fun h p => ⟨by rw [h]; rfl, p⟩
  have good : ∀ {H' : LHeap} {b x : List UInt8} {m n : Int} {f g : Bool}, refTF s = some ⟨b, x, m, n, f, g⟩ → PresX [] H H' → Ret (cellL (refTF s)) H (.tuple [.agg [.str b, .str x, .int .i64 m, .int .i64 n, .bool f, .bool g], .bool true]) H' := fun h p => ⟨by rw [h]; rfl, p⟩
  refine e241t _ s H fun i1 H2 _ _ => ⟨fun h0 => ?full, fun h0 => ?empty⟩
  case empty =>
    have : s = [] := by simpa using h0
    subst this
    have hn : refTF [] = none := rfl
    refine fun hI => ⟨_, s284 [] 33 (by simp) _, Ret.use ⟨_, rfl⟩, fun n87 H88 ⟨e, _⟩ => ?_⟩
    cases e
    refine ⟨fun h => ?_, fun _ hI => ⟨_, s242 [] (by simp) _, Ret.use (cellL_sh _), fun x109 b110 H111 ⟨e, _⟩ i112 H113 _ _ H114 _ => ⟨fun _ H115 _ hI => bad hn hI.pres, fun h => ?_⟩⟩⟩
    · simp [findByte] at h
    · have := cellL_inv e
      rw [show cellF [] = none from rfl] at this
      simp at h
      rw [h] at this
      cases this
  case full =>
    cases s with
    | nil => simp at h0
    | cons a t =>
    have ha : byteAt (a :: t) 0 = (a.toNat : Int) := byteAt_app [] a t
    have ht : t.length ≤ 999 := by simpa using hs
    refine ⟨⟨by omega, by simp⟩, fun h91 hI => ⟨_, s284 _ 93 hs _, Ret.use ⟨_, rfl⟩, fun n5 H6 ⟨e5, _⟩ => ?book⟩, fun h91 hI => ⟨_, s284 _ 33 hs _, Ret.use ⟨_, rfl⟩, fun n54 H55 ⟨e54, _⟩ => ?plain⟩⟩
    case plain =>
      have hp : cutP (a :: t) [91] = (a :: t, false) := by
        refine cutP_no ?_
        rw [ha] at h91
        simp
        intro e; subst e; simp at h91
      have F0 : refTF (a :: t) = tailR [] (a :: t) := by unfold refTF; rw [hp]; rfl
      cases e54
      rcases cut_find (c := 33) (s := a :: t) with ⟨k, kf⟩ | ⟨x, y, k, kf, ks, kl⟩
      · rw [kf]
        rw [tailR_none k] at F0
        refine ⟨fun h => (by simp at h), fun _ hI => ⟨_, s242 _ hs _, Ret.use (cellL_sh _), fun x32 b33 H34 ⟨e33, _⟩ i35 H36 _ _ H37 _ => ⟨fun h H38 _ hI => bad ?_ hI.pres, fun h H39 _ H40 _ H41 _ hI => good ?_ hI.pres⟩⟩⟩
        · have hb : b33 = false := by simpa using h
          rw [F0]; simp [cellL_inv e33, hb]
        · have hb : b33 = true := by simpa using h
          rw [F0]; simp [cellL_inv e33, hb]
      · rw [kf]
        rw [tailR_some k] at F0
        obtain ⟨c1, c2, c3⟩ := cut_sub hs ks
        rw [c1, c2]
        refine ⟨fun _ => ⟨by omega, fun hI => ⟨_, x97 x _, Ret.use ⟨_, rfl⟩, fun b25 H26 ⟨e25, _⟩ => ⟨fun h25 H27 _ hI => bad ?_ hI.pres, fun h25 => ⟨by omega, by omega, fun hI => ⟨_, s242 y (by omega) _, Ret.use (cellL_sh _), fun x32 b33 H34 ⟨e33, _⟩ i35 H36 _ _ H37 _ => ⟨fun h H38 _ hI => bad ?_ hI.pres, fun h H39 _ H40 _ H41 _ hI => good ?_ hI.pres⟩⟩⟩⟩⟩⟩, fun h => (by simp at h)⟩
        · cases e25
          have : nameF x = false := by simpa using h25
          rw [F0]; simp [this]
        · cases e25
          have : nameF x = true := by simpa using h25
          have hb : b33 = false := by simpa using h
          rw [F0]; simp [this, cellL_inv e33, hb]
        · cases e25
          have : nameF x = true := by simpa using h25
          have hb : b33 = true := by simpa using h
          rw [F0]; simp [this, cellL_inv e33, hb]
    case book =>
      have hab : a = 91 := by
        rw [ha] at h91
        exact UInt8.toNat_inj.1 (by show a.toNat = 91; simp at h91; omega)
      subst hab
      have hp : cutP (91 :: t) [91] = (t, true) := rfl
      have F0 : refTF (91 :: t) = match cutF 93 t with
        | some (b, m) => if nameF b && (cutF 33 m).isSome then tailR b m else none
        | none => none := by unfold refTF; rw [hp]; rfl
      cases e5
      have hcut : findByte 93 (91 :: t) 0 = match cutF 93 t with | some (x, _) => ((x.length + 1 : Nat) : Int) | none => -1 := by
        rw [find_cut, cutF_cons, if_neg (by decide)]
        cases cutF 93 t with
        | none => rfl
        | some p => simp
      rcases cut_find (c := 93) (s := t) with ⟨k, kf⟩ | ⟨b, m, k, kf, ks, kl⟩
      · rw [k] at F0 hcut
        rw [hcut]
        exact ⟨fun _ H7 _ hI => bad F0 hI.pres, fun h => (by simp at h)⟩
      · rw [k] at F0 hcut
        simp only at F0 hcut
        rw [hcut]
        have hw : lwrap .i64 (((b.length + 1 : Nat) : Int) + 1) = ((b.length + 2 : Nat) : Int) := by rw [lwrap_small (by omega) (by omega)]; simp; omega
        have c1 : subStr (91 :: t) 1 ((b.length + 1 : Nat) : Int) = b := by
          unfold subStr
          rw [ks]; simp
        have c2 : subStr (91 :: t) ((b.length + 2 : Nat) : Int) (((91 :: t).length : Nat) : Int) = m := by
          rw [sub_drop, ks]; simp
        rw [hw, c1, c2]
        have hm : m.length ≤ 1000 := by omega
        have hlen : (((91 :: t).length : Nat) : Int) = (t.length : Int) + 1 := by simp
        refine ⟨fun h => (by simp at h; omega), fun _ => ⟨by omega, fun hI => ⟨_, x97 b _, Ret.use ⟨_, rfl⟩, fun b10 H11 ⟨e10, _⟩ => ⟨fun h10 H12 _ hI => bad ?_ hI.pres, fun h10 => ⟨by omega, by omega, fun hI => ⟨_, s284 m 33 hm _, Ret.use ⟨_, rfl⟩, fun n17 H18 ⟨e17, _⟩ => ⟨fun h17 H19 _ hI => bad ?_ hI.pres, fun h17 hI => ⟨_, s284 m 33 hm _, Ret.use ⟨_, rfl⟩, fun n21 H22 ⟨e21, _⟩ => ?_⟩⟩⟩⟩⟩⟩⟩⟩
        · cases e10
          have : nameF b = false := by simpa using h10
          rw [F0]; simp [this]
        · cases e10; cases e17
          rcases cut_find (c := 33) (s := m) with ⟨k2, kf2⟩ | ⟨x, y, k2, kf2, ks2, kl2⟩
          · rw [F0, k2]; simp
          · rw [kf2] at h17; simp at h17; omega
        · cases e10; cases e17; cases e21
          have hnb : nameF b = true := by simpa using h10
          rcases cut_find (c := 33) (s := m) with ⟨k2, kf2⟩ | ⟨x, y, k2, kf2, ks2, kl2⟩
          · rw [kf2] at h17; simp at h17
          · rw [kf2]
            rw [k2] at F0
            simp only [Option.isSome_some, Bool.and_true, hnb, if_true, tailR_some k2] at F0
            obtain ⟨c1, c2, c3⟩ := cut_sub hm ks2
            rw [c1, c2]
            refine ⟨fun _ => ⟨by omega, fun hI => ⟨_, x97 x _, Ret.use ⟨_, rfl⟩, fun b25 H26 ⟨e25, _⟩ => ⟨fun h25 H27 _ hI => bad ?_ hI.pres, fun h25 => ⟨by omega, by omega, fun hI => ⟨_, s242 y (by omega) _, Ret.use (cellL_sh _), fun x32 b33 H34 ⟨e33, _⟩ i35 H36 _ _ H37 _ => ⟨fun h H38 _ hI => bad ?_ hI.pres, fun h H39 _ H40 _ H41 _ hI => good ?_ hI.pres⟩⟩⟩⟩⟩⟩, fun h => (by simp at h)⟩
            · cases e25
              have : nameF x = false := by simpa using h25
              rw [F0]; simp [this]
            · cases e25
              have : nameF x = true := by simpa using h25
              have hb : b33 = false := by simpa using h
              rw [F0]; simp [this, cellL_inv e33, hb]
            · cases e25
              have : nameF x = true := by simpa using h25
              have hb : b33 = true := by simpa using h
              rw [F0]; simp [this, cellL_inv e33, hb]
end Go.Proofs.YtjihhflffkoffaaGreatDoor.Z
