/- Contracts of functions of the program; no condition. -/
import Derived.Test.YtjihhflffkoffaaGreatDoorNc
import Derived.Test.YtjihhflffkoffaaGreatDoorLe
set_option linter.unusedSimpArgs false
set_option linter.unusedVariables false
set_option linter.unusedSectionVars false
set_option linter.unnecessarySimpa false
namespace Go.Proofs.YtjihhflffkoffaaGreatDoor.Z
open Go Go.Lm
set_option maxRecDepth 100000

/-- The names that a slice holds. -/
structure NamesAt (H : LHeap) (a : Option LAddr) (l : Nat) (nm : List (List UInt8 × List UInt8 × List UInt8)) : Prop where
  len : nm.length = l
  big : l ≤ maxLen
  some : ∀ i, i < l → a.isSome = true ∧ (adr a).id < H.next
  load : ∀ (i : Nat) (x : List UInt8 × List UInt8 × List UInt8), nm[i]? = Option.some x → loadT cfg.P H 33 ⟨(adr a).id, (adr a).ver, (adr a).off + i * 3⟩ = Option.some (.agg [.str x.1, .str x.2.1, .str x.2.2])

theorem NamesAt.on {H H' : LHeap} {a : Option LAddr} {l : Nat} {nm : List (List UInt8 × List UInt8 × List UInt8)} (h : NamesAt H a l nm) (p : PresX [] H H') : NamesAt H' a l nm :=
  ⟨h.len, h.big, fun i hi => ⟨(h.some i hi).1, Nat.lt_of_lt_of_le (h.some i hi).2 p.next⟩, fun i x hx => p.load0 (a := ⟨(adr a).id, (adr a).ver, (adr a).off + i * 3⟩) (h.some i (by have := (List.getElem?_eq_some_iff.1 hx).1; rw [h.len] at this; exact this)).2 (h.load i x hx)⟩

def isN (sc n : List UInt8) (x : List UInt8 × List UInt8 × List UInt8) : Bool := x.1 == sc && x.2.1 == n

def findAt (sc n : List UInt8) : List (List UInt8 × List UInt8 × List UInt8) → Nat → Int
  | [], _ => -1
  | x :: l, i => if isN sc n x then i else findAt sc n l (i + 1)

theorem s165 (s0 s1 s2 sc n : List UInt8) (p q : LAddr) (H : LHeap) (hp : p.id < H.next) (hq : q.id < H.next) (lp : loadT cfg.P H 9 p = some (.str sc)) (lq : loadT cfg.P H 9 q = some (.str n)) :
    CallL cfg 165 [.agg [.str s0, .str s1, .str s2], .ptr (some p), .ptr (some q)] H (Ret (.bool (isN sc n (s0, s1, s2))) H) := by
  refine e165 _ s0 s1 s2 p q H fun i H1 hI => ⟨sc, hI.pres.load0 hp lp, fun h hI => ⟨n, hI.pres.load0 hq lq, fun hI => ?_⟩, fun h hI => ?_⟩
  · have : isN sc n (s0, s1, s2) = (s1 == n) := by simp [isN, h]
    rw [this]
    exact .mk hI.pres
  · have : isN sc n (s0, s1, s2) = false := by simp [isN, h]
    rw [this]
    exact .mk hI.pres

theorem loop164 (a : Option LAddr) (l : Nat) (c : Cap) (nm : List (List UInt8 × List UInt8 × List UInt8)) (sc n : List UInt8) (p q : LAddr) (H0 : LHeap) (hN : NamesAt H0 a l nm) (hp : p.id < H0.next) (hq : q.id < H0.next) (lp : loadT cfg.P H0 9 p = some (.str sc)) (lq : loadT cfg.P H0 9 q = some (.str n)) :
    ∀ (m i : Nat), i + m = l → ∀ (d : Nat → LV) (H : LHeap), GoesT cfg 164 (Ret (.int .i64 (findAt sc n (nm.drop i) i)) H0) [] H0 [] (L164_0 d (i : Int) p q a l c (l : Int)) (loopAt cfg 164 0) H
  | 0, i, hi, d, H => by
    intro hin hI
    refine g164_0 _ H0 d i p q a l c l H ⟨fun h => ?_, fun h hI => ?_⟩ hin hI
    · simp at h; omega
    · rw [List.drop_eq_nil_of_le (by rw [hN.len]; omega)]
      exact .mk hI.pres
  | m + 1, i, hi, d, H => by
    intro hin hI
    have hil : i < nm.length := by rw [hN.len]; omega
    have hsome := hN.some i (by omega)
    have hld := (hN.on hI.pres).load i _ (List.getElem?_eq_getElem hil)
    have hdrop : nm.drop i = nm[i] :: nm.drop (i + 1) := List.drop_eq_getElem_cons hil
    refine g164_0 _ H0 d i p q a l c l H ⟨fun h => ⟨⟨by omega, by omega, hsome.1⟩, fun _ => ⟨nm[i].1, nm[i].2.1, nm[i].2.2, by simpa using hld, fun hI => ⟨_, s165 nm[i].1 nm[i].2.1 nm[i].2.2 sc n p q H (Nat.lt_of_lt_of_le hp hI.pres.next) (Nat.lt_of_lt_of_le hq hI.pres.next) (hI.pres.load0 hp lp) (hI.pres.load0 hq lq), Ret.use ⟨_, rfl⟩, fun b H1 ⟨e, p1⟩ => ⟨fun hb hI => ?yes, fun hb d1 => ?no⟩⟩⟩⟩, fun h => ?ge⟩ hin hI
    case ge => simp at h; omega
    case yes =>
      cases e
      rw [hdrop]
      unfold findAt
      have hb' : isN sc n nm[i] = true := hb
      rw [if_pos hb']
      exact .mk hI.pres
    case no =>
      cases e
      rw [hdrop]
      unfold findAt
      have hb' : isN sc n nm[i] = false := hb
      rw [hb']
      have hbig := hN.big
      unfold maxLen at hbig
      rw [lwrap_small (by omega) (by omega)]
      exact loop164 a l c nm sc n p q H0 hN hp hq lp lq m (i + 1) (by omega) d1 H1

theorem s164 (a : Option LAddr) (l : Nat) (c : Cap) (nm : List (List UInt8 × List UInt8 × List UInt8)) (sc n : List UInt8) (p q : LAddr) (H0 : LHeap) (hN : NamesAt H0 a l nm) (hp : p.id < H0.next) (hq : q.id < H0.next) (lp : loadT cfg.P H0 9 p = some (.str sc)) (lq : loadT cfg.P H0 9 q = some (.str n)) :
    CallL cfg 164 [.slice a l c, .func (.func 165) [] [.ptr (some p), .ptr (some q)]] H0 (Ret (.int .i64 (findAt sc n nm 0)) H0) :=
  e164 _ a l c p q H0 fun d => loop164 a l c nm sc n p q H0 hN hp hq lp lq l 0 (by omega) d H0

theorem s80 (a : Option LAddr) (l : Nat) (c : Cap) (nm : List (List UInt8 × List UInt8 × List UInt8)) (sc n : List UInt8) (H : LHeap) (hN : NamesAt H a l nm) :
    CallL cfg 80 [.slice a l c, .str sc, .str n] H (Ret (.int .i64 (findAt sc n nm 0)) H) := by
  refine e80 _ a l c sc n H fun i H1 j H2 hI => ⟨_, s164 a l c nm sc n ⟨i, 1, 0⟩ ⟨j, 1, 0⟩ H2 (hN.on hI.pres) (hI.slot 0 _ rfl).1 (hI.slot 1 _ rfl).1
    (slotLoad_spec (s := ⟨i, [.str sc], 9⟩) (hI.slot 0 _ rfl).2.1 (by kernel_rfl)) (slotLoad_spec (s := ⟨j, [.str n], 9⟩) (hI.slot 1 _ rfl).2.1 (by kernel_rfl)), Ret.use ⟨_, rfl⟩, fun m H3 ⟨e, p⟩ hI => ?_⟩
  cases e
  exact .mk hI.pres

/-- Find. -/
def findN (sc n : List UInt8) (nm : List (List UInt8 × List UInt8 × List UInt8)) : Option (List UInt8 × List UInt8 × List UInt8) := nm.find? (isN sc n)

def optN : Option (List UInt8 × List UInt8 × List UInt8) → LV
  | some x => .tuple [.agg [.str x.1, .str x.2.1, .str x.2.2], .bool true]
  | none => .tuple [.agg [.str [], .str [], .str []], .bool false]

theorem findAt_spec (sc n : List UInt8) : ∀ (nm : List (List UInt8 × List UInt8 × List UInt8)) (k : Nat), (findN sc n nm = none ∧ findAt sc n nm k = -1) ∨ ∃ i x, nm[i]? = some x ∧ findN sc n nm = some x ∧ findAt sc n nm k = ((k + i : Nat) : Int)
  | [], k => .inl ⟨rfl, rfl⟩
  | y :: nm, k => by
    unfold findAt
    by_cases h : isN sc n y = true
    · refine .inr ⟨0, y, rfl, ?_, by rw [if_pos h]; rfl⟩
      simp [findN, h]
    · rw [if_neg h]
      have hf : findN sc n (y :: nm) = findN sc n nm := by simp [findN, h]
      rcases findAt_spec sc n nm (k + 1) with ⟨h1, h2⟩ | ⟨i, x, h1, h2, h3⟩
      · exact .inl ⟨by rw [hf]; exact h1, h2⟩
      · exact .inr ⟨i + 1, x, by simpa using h1, by rw [hf]; exact h2, by rw [h3]; omega⟩

theorem s25 (a : Option LAddr) (l : Nat) (c : Cap) (nm : List (List UInt8 × List UInt8 × List UInt8)) (sc n : List UInt8) (H : LHeap) (hN : NamesAt H a l nm) :
    CallL cfg 25 [.slice a l c, .str sc, .str n] H (Ret (optN (findN sc n nm)) H) := by
  refine e25 _ a l c sc n H fun i H1 hI => ⟨_, s80 a l c nm sc n H1 (hN.on hI.pres), Ret.use ⟨_, rfl⟩, fun m H2 ⟨e, p⟩ => ?_⟩
  cases e
  rcases findAt_spec sc n nm 0 with ⟨h1, h2⟩ | ⟨j, x, h1, h2, h3⟩
  · rw [h1, h2]
    exact ⟨fun _ H3 hI => .mk hI.pres, fun h => by simp at h⟩
  · rw [h2, h3]
    have hj : j < l := by have := (List.getElem?_eq_some_iff.1 h1).1; rw [hN.len] at this; exact this
    refine ⟨fun h => by simp at h; omega, fun h => ⟨⟨by omega, by omega, (hN.some j hj).1⟩, fun hI => ⟨x.1, x.2.1, x.2.2, ?_, fun H3 hI => .mk hI.pres⟩⟩⟩
    have := (hN.on hI.pres).load j x h1
    simpa using this

def resN (sc n : List UInt8) (nm : List (List UInt8 × List UInt8 × List UInt8)) : Option (List UInt8 × List UInt8 × List UInt8) := match findN sc n nm with
  | some x => some x
  | none => findN [] n nm
theorem s26 (a : Option LAddr) (l : Nat) (c : Cap) (nm : List (List UInt8 × List UInt8 × List UInt8)) (sc n : List UInt8) (H : LHeap) (hN : NamesAt H a l nm) :
    CallL cfg 26 [.slice a l c, .str sc, .str n] H (Ret (optN (resN sc n nm)) H) := by
  have sh : ∀ x, hasSh (.tuple [.agg [.str, .str, .str], .bool]) (optN x) := fun x => by
    cases x with
    | none => exact ⟨_, _, _, _, rfl⟩
    | some x => exact ⟨_, _, _, _, rfl⟩
  refine e26 _ a l c sc n H fun i H1 hI => ⟨_, s25 a l c nm sc n H1 (hN.on hI.pres), Ret.use (sh _), fun x0 x1 x2 b H2 ⟨e, p⟩ j H3 H4 => ⟨fun hb H5 hI => ?_, fun hb hI => ⟨_, s25 a l c nm [] n H4 (hN.on hI.pres), Ret.use (sh _), fun y0 y1 y2 b' H5 ⟨e', p'⟩ k H6 H7 => ⟨fun hb' H8 hI => ?_, fun hb' H8 hI => ?_⟩⟩⟩⟩
  all_goals unfold resN
  · cases hf : findN sc n nm with
    | none => rw [hf] at e; cases e; cases hb
    | some x => rw [hf] at e; cases e; exact .mk hI.pres
  · cases hf : findN sc n nm with
    | some x => rw [hf] at e; cases e; cases hb
    | none =>
      simp only
      cases hg : findN [] n nm with
      | none => rw [hg] at e'; cases e'; cases hb'
      | some x => rw [hg] at e'; cases e'; exact .mk hI.pres
  · cases hf : findN sc n nm with
    | some x => rw [hf] at e; cases e; cases hb
    | none =>
      simp only
      cases hg : findN [] n nm with
      | none => exact .mk hI.pres
      | some x => rw [hg] at e'; cases e'; cases hb'

theorem s5 (a : Option LAddr) (l : Nat) (c : Cap) (nm : List (List UInt8 × List UInt8 × List UInt8)) (sc n : List UInt8) (H : LHeap) (hN : NamesAt H a l nm) :
    CallL cfg 5 [.slice a l c, .str sc, .str n] H (Ret (.bool true) H) := by
  have sh : ∀ x, hasSh (.tuple [.agg [.str, .str, .str], .bool]) (optN x) := fun x => by
    cases x with
    | none => exact ⟨_, _, _, _, rfl⟩
    | some x => exact ⟨_, _, _, _, rfl⟩
  refine e5 _ a l c sc n H ⟨fun _ hI => .mk hI.pres, fun _ hI => ⟨_, s25 a l c nm sc n H (hN.on hI.pres), Ret.use (sh _), fun x0 x1 x2 b H1 ⟨e1, p1⟩ i H2 H3 hI => ⟨_, s25 a l c nm [] n H3 (hN.on hI.pres), Ret.use (sh _), fun y0 y1 y2 b' H4 ⟨e2, p2⟩ j H5 H6 hI =>
    ⟨_, s26 a l c nm sc n H6 (hN.on hI.pres), Ret.use (sh _), fun z0 z1 z2 b'' H7 ⟨e3, p3⟩ k H8 H9 => ?_⟩⟩⟩⟩
  unfold resN at e3
  cases hf : findN sc n nm with
  | some x =>
    rw [hf] at e1 e3
    cases e1; cases e3
    exact ⟨fun _ => ⟨fun _ => ⟨fun _ hI => .mk hI.pres, fun h => by simp at h⟩, fun h => by cases h⟩, fun h => by cases h⟩
  | none =>
    rw [hf] at e1 e3
    cases e1
    simp only at e3
    refine ⟨fun h => (by cases h), fun _ => ?_⟩
    cases hg : findN [] n nm with
    | some x =>
      rw [hg] at e2 e3
      cases e2; cases e3
      exact ⟨fun _ => ⟨fun _ => ⟨fun _ hI => .mk hI.pres, fun h => by simp at h⟩, fun h => by cases h⟩, fun h => by cases h⟩
    | none =>
      rw [hg] at e2 e3
      cases e2; cases e3
      exact ⟨fun h => (by cases h), fun _ => ⟨fun _ => ⟨fun _ hI => .mk hI.pres, fun h => by simp at h⟩, fun h => by cases h⟩⟩

/-- The names of a slice that was read. -/
theorem names_at {H : LHeap} {a : Option LAddr} {l : Nat} {q : Cap} {xs : Nat → List LV} {ds : List D} (h : SliceAt Tryz.prog H 33 a l q xs ds) (hid : ∀ i, i < l → (adr a).id < H.next) : ∃ nm, NamesAt H a l nm := by
  have c33 : Tryz.prog.cellsOf 33 = 3 := by kernel_rfl
  have each : ∀ i, i < l → ∃ x : List UInt8 × List UInt8 × List UInt8, xs i = [.str x.1, .str x.2.1, .str x.2.2] := by
    intro i hi
    have hl : i < ds.length := by rw [h.len]; exact hi
    have hr := rep_leaves 10 33 [9, 9, 9] (xs i) _ (by kernel_rfl) (h.rep i _ (List.getElem?_eq_getElem hl))
    obtain ⟨c0, t0, g0, e0, z0, al⟩ := AllRep.head hr
    obtain ⟨c1, t1, g1, rfl, z1, al⟩ := AllRep.head al
    obtain ⟨c2, t2, g2, rfl, z2, al⟩ := AllRep.head al
    obtain rfl := AllRep.last al
    obtain ⟨s0, rfl, _⟩ := Rep.str_inv (t := 9) (by kernel_rfl) z0
    obtain ⟨s1, rfl, _⟩ := Rep.str_inv (t := 9) (by kernel_rfl) z1
    obtain ⟨s2, rfl, _⟩ := Rep.str_inv (t := 9) (by kernel_rfl) z2
    exact ⟨(s0, s1, s2), e0⟩
  have hnm : ∀ m, m ≤ l → ∃ nm : List (List UInt8 × List UInt8 × List UInt8), nm.length = m ∧ ∀ (i : Nat) (x : List UInt8 × List UInt8 × List UInt8), nm[i]? = some x → xs i = [.str x.1, .str x.2.1, .str x.2.2] := by
    intro m
    induction m with
    | zero => intro _; exact ⟨[], rfl, fun i x h => by simp at h⟩
    | succ m ih =>
      intro hm
      obtain ⟨nm, h1, h2⟩ := ih (by omega)
      obtain ⟨x, hx⟩ := each m (by omega)
      refine ⟨nm ++ [x], by simp [h1], fun i y hi => ?_⟩
      by_cases him : i < m
      · rw [List.getElem?_append_left (by omega)] at hi; exact h2 i y hi
      · rw [List.getElem?_append_right (by omega)] at hi
        have : i = m := by
          have := (List.getElem?_eq_some_iff.1 hi).1
          simp at this
          omega
        subst this
        simp [h1] at hi
        subst hi
        exact hx
  obtain ⟨nm, h1, h2⟩ := hnm l (Nat.le_refl _)
  refine ⟨nm, h1, h.cap, fun i hi => ⟨h.some i hi, hid i hi⟩, fun i x hx => ?_⟩
  have hi : i < l := by have := (List.getElem?_eq_some_iff.1 hx).1; omega
  have hl := h.load i hi
  rw [c33, h2 i x hx] at hl
  have ha : isAggT cfg.P 33 = some true := by kernel_rfl
  have hs : sizeOfT cfg.P 33 = some 3 := by kernel_rfl
  unfold loadT
  rw [ha, hs]
  simp only [hl]
  rfl
end Go.Proofs.YtjihhflffkoffaaGreatDoor.Z
