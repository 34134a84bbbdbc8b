/- Contracts of functions of the program; no condition. -/
import Derived.Test.YtjihhflffkoffaaGreatDoorGa
import Derived.Test.YtjihhflffkoffaaGreatDoorW13
import Derived.Test.YtjihhflffkoffaaGreatDoorCl
set_option linter.unusedSimpArgs false
set_option linter.unusedVariables false
set_option linter.unusedSectionVars false
set_option linter.unnecessarySimpa false
namespace Go.Proofs.YtjihhflffkoffaaGreatDoor.Z
open Go Go.Lm
set_option maxRecDepth 100000

/-- Some text, of which that is so. -/
def GoodS (P : List UInt8 → Prop) (H : LHeap) : LV → LHeap → Prop := fun v H' => PresX [] H H' ∧ ∃ s : List UInt8, v = .str s ∧ P s
theorem GoodS.sh {P : List UInt8 → Prop} {H : LHeap} : ∀ v H', GoodS P H v H' → PresX [] H H' ∧ hasSh .str v := fun v H' ⟨h1, b, e, _⟩ => ⟨h1, b, e⟩
theorem GoodS.mk {P : List UInt8 → Prop} {H H' : LHeap} {s : List UInt8} (h : PresX [] H H') (k : P s) : GoodS P H (.str s) H' := ⟨h, s, rfl, k⟩

theorem u8_some (n : Int) : ∃ b : UInt8, LV.int .u8 (lwrap .u8 n) = .int .u8 (b.toNat : Int) := by
  have h : 0 ≤ lwrap .u8 n ∧ lwrap .u8 n < 256 := by
    rw [lwrap_eq]
    simp only [IntKind.wrap, IntKind.signed, IntKind.bits, Bool.false_and, Bool.false_eq_true, if_false]
    omega
  refine ⟨UInt8.ofNat (lwrap .u8 n).toNat, ?_⟩
  congr 1
  rw [UInt8.toNat_ofNat']
  omega

/-- A row of one byte. -/
theorem load_byte {H H' : LHeap} {n : Int} {b : UInt8} (hb : LV.int .u8 (lwrap .u8 n) = .int .u8 (b.toNat : Int)) (hp : PresX [] (H.push (.cells [.int .u8 (lwrap .u8 n)] 5 1 1 .none false true)) H') : loadN H' ⟨H.next, 1, 0⟩ 1 = some (bcs [b]) := by
  refine (hp.keep H.next (Nat.lt_succ_self _) (by simp)).loads ⟨H.next, 1, 0⟩ _ _ rfl ?_
  unfold loadN
  simp only [LHeap.get_push, if_true, hb]
  rfl

theorem s296_1 (H0 : LHeap) (n : Int) (h0 : 0 ≤ n) (h9 : n ≤ 9) (s : List UInt8) (hs : s.length ≤ 20) (d : Nat → LV) (H : LHeap) : GoesT cfg 296 (GoodS (fun t => t.length ≤ s.length + 2) H0) [] H0 [] (L296t_0 d n s) (loopAt cfg 296 0) H := by
  intro hin hI
  obtain ⟨b, hb⟩ := u8_some (lwrap .u64 (48 + Int.tmod n 10))
  refine g296t_0 _ H0 d n s H (fun H2 e2 => ⟨[b], H2, conv_from (load_byte hb (e2 ▸ .refl _ _)), by simp; omega, fun _ hI => .mk hI.pres (by simp), fun h => ?_⟩) hin hI
  have : Int.tdiv n 10 = 0 := by rw [Int.tdiv_eq_ediv_of_nonneg h0]; omega
  rw [this] at h
  simp [lwrap] at h

theorem s296_2 (H0 : LHeap) (n : Int) (h0 : 0 ≤ n) (h9 : n ≤ 99) (d : Nat → LV) (H : LHeap) : GoesT cfg 296 (GoodS (fun t => t.length ≤ 3) H0) [] H0 [] (L296t_0 d n []) (loopAt cfg 296 0) H := by
  intro hin hI
  obtain ⟨b, hb⟩ := u8_some (lwrap .u64 (48 + Int.tmod n 10))
  refine g296t_0 _ H0 d n [] H (fun H2 e2 => ⟨[b], H2, conv_from (load_byte hb (e2 ▸ .refl _ _)), by simp, fun _ hI => .mk hI.pres (by simp), fun h d7 => ?_⟩) hin hI
  have hd : Int.tdiv n 10 = n / 10 := Int.tdiv_eq_ediv_of_nonneg h0
  have hw : lwrap .u64 (Int.tdiv n 10) = n / 10 := by
    rw [hd, lwrap_eq]
    simp only [IntKind.wrap, IntKind.signed, IntKind.bits, Bool.false_and, Bool.false_eq_true, if_false]
    omega
  rw [hw]
  exact s296_1 H0 (n / 10) (by omega) (by omega) ([b] ++ []) (by simp) d7 H2

theorem s293 (n : Int) (H : LHeap) (h0 : 0 ≤ n) (h9 : n ≤ 99) : CallL cfg 293 [.int .i64 n] H (GoodS (fun t => t.length ≤ 3) H) := by
  have hw : lwrap .u64 n = n := by
    rw [lwrap_eq]
    simp only [IntKind.wrap, IntKind.signed, IntKind.bits, Bool.false_and, Bool.false_eq_true, if_false]
    omega
  refine e293t _ n H ⟨fun h => ?_, fun _ hI => ?_⟩
  · simp at h; omega
  · rw [hw]
    refine ⟨_, e296t _ n H fun d => s296_2 H n h0 h9 d H, GoodS.sh, fun s6 H7 ⟨_, t, e, ht⟩ hI => .mk hI.pres ?_⟩
    cases e; exact ht

theorem s253 (n m : Int) (H : LHeap) (hr : 1 ≤ n ∧ n ≤ 64) (hm : 1 ≤ m ∧ m ≤ 26) : CallL cfg 253 [.int .i64 n, .int .i64 m] H (GoodS (fun t => 1 ≤ t.length ∧ t.length ≤ 4) H) := by
  refine e253t _ n m H fun hI => ⟨_, s285 n m H, Ret.use ⟨_, rfl⟩, fun b3 H4 ⟨e3, _⟩ => ⟨fun h hI => ?_, fun _ H5 e5 => ?_⟩⟩
  · cases e3
    rw [decide_eq_true (by omega)] at h
    cases h
  · obtain ⟨b, hb⟩ := u8_some (lwrap .i64 (lwrap .i64 (65 + m) - 1))
    refine ⟨[b], H5, conv_from (load_byte hb (e5 ▸ .refl _ _)), fun hI => ⟨⟨H5, conv_from (load_byte hb (e5 ▸ .refl _ _))⟩, rfl, fun hI => ⟨_, s293 n H5 (by omega) (by omega), GoodS.sh, fun s12 H13 ⟨p13, t, e, ht⟩ => ?_⟩⟩⟩
    cases e
    exact ⟨by simp; omega, fun hI => ⟨⟨H13, conv_from (load_byte hb (e5 ▸ p13))⟩, rfl, fun hI => .mk hI.pres ⟨by simp, by simp; omega⟩⟩⟩

theorem sub_len (s : List UInt8) (i j : Int) : (subStr s i j).length ≤ s.length := by
  unfold subStr
  rw [List.length_take, List.length_drop]
  omega

/-- A cell's text. -/
theorem s265 (r : RefC) (H : LHeap) (hr : RefOk r) : CallL cfg 265 [r.lv] H (GoodS (fun t => t.length ≤ 20) H) := by
  refine e265t _ r H fun i1 H2 _ _ hI => ⟨_, s253 r.row r.col H2 hr.row hr.col, GoodS.sh, fun s4 H5 ⟨_, t, e, ht1, ht2⟩ => ?_⟩
  cases e
  have l1 := sub_len s4 0 1
  have l2 := sub_len s4 1 ((s4.length : Nat) : Int)
  refine ⟨⟨by omega, by omega, by omega⟩, fun _ => ⟨by omega, fun _ => ⟨by simp; omega, ⟨by omega, by omega, by omega⟩, by simp; omega, fun hI => .mk hI.pres (by simp; omega)⟩, fun _ => ⟨⟨by omega, by omega, by omega⟩, by simp; omega, fun hI => .mk hI.pres (by simp; omega)⟩⟩, fun _ => ⟨fun _ => ⟨by omega, ⟨by omega, by omega, by omega⟩, by simp; omega, fun hI => .mk hI.pres (by simp; omega)⟩, fun _ => ⟨⟨by omega, by omega, by omega⟩, by omega, fun hI => .mk hI.pres (by simp; omega)⟩⟩⟩

/-- A ref's text. -/
theorem s201 (r : RefC) (H : LHeap) : CallL cfg 201 [r.lv] H (GoodS (fun t => t.length ≤ 100) H) := by
  refine e201t _ r H fun i1 H2 _ _ hI => ⟨_, s259 r H2, GoodB.sh, fun b4 H5 ⟨_, b, e, hb⟩ => ⟨fun _ hI => .mk hI.pres (by simp), fun h4 hI => ?_⟩⟩
  have hr : RefOk r := by cases e; exact hb (by simpa using h4)
  have h1 := hr.sheet
  have h2 := hr.book
  refine ⟨_, s265 r H5 hr, GoodS.sh, fun s7 H8 ⟨_, t, e, ht⟩ => ?_⟩
  cases e
  refine ⟨fun _ => ⟨by omega, by simp; omega, fun _ => ⟨by omega, by simp; omega, by simp; omega, fun hI => .mk hI.pres (by simp; omega)⟩, fun _ hI => .mk hI.pres (by simp; omega)⟩, fun _ => ⟨fun _ => ⟨by omega, by simp; omega, by simp; omega, fun hI => .mk hI.pres (by simp; omega)⟩, fun _ hI => .mk hI.pres (by omega)⟩⟩

/-- An area's text: there is one for good corners alone. -/
theorem s202 (r t : RefC) (H : LHeap) : CallL cfg 202 [r.lv, t.lv] H (GoodS (fun s => s ≠ [] → RefOk r ∧ RefOk t) H) := by
  refine e202t _ r t H fun i2 H3 _ _ i4 H5 _ _ hI => ⟨_, s259 r H5, GoodB.sh, fun b7 H8 ⟨_, b, e, hb⟩ => ⟨fun _ hI => .mk hI.pres (fun h => absurd rfl h), fun h7 hI => ⟨_, s259 t H8, GoodB.sh, fun b10 H11 ⟨_, b', e', hb'⟩ => ⟨fun _ hI => .mk hI.pres (fun h => absurd rfl h), fun h10 => ⟨fun _ hI => .mk hI.pres (fun h => absurd rfl h), fun hs => ⟨rfl, fun hI => ?_⟩⟩⟩⟩⟩⟩
  have hr : RefOk r := by cases e; exact hb (by simpa using h7)
  have ht : RefOk t := by cases e'; exact hb' (by simpa using h10)
  refine ⟨_, s201 r H11, GoodS.sh, fun s14 H15 ⟨_, u, e, hu⟩ => ?_⟩
  cases e
  refine ⟨by omega, rfl, fun hI => ⟨_, s265 t H15 ht, GoodS.sh, fun s19 H20 ⟨_, w, e, hw⟩ => ?_⟩⟩
  cases e
  exact ⟨by simp; omega, fun hI => .mk hI.pres fun _ => ⟨hr, ht⟩⟩

theorem s283 (n : Int) (H : LHeap) : CallL cfg 283 [.int .i64 n] H (GoodB True H) :=
  e283t _ n H ⟨fun _ hI => .mk hI.pres fun _ => trivial, fun _ hI => .no hI.pres⟩

theorem s258 (v : ValC) (H : LHeap) : CallL cfg 258 [v.lv] H (GoodB True H) := by
  refine e258t _ v H fun i1 H2 _ _ => ⟨fun _ hI => .mk hI.pres fun _ => trivial, fun _ => ⟨fun _ hI => ⟨_, s283 v.n H2, GoodB.sh, fun b5 H6 _ => ⟨fun _ hI => .mk hI.pres fun _ => trivial, fun _ hI => .no hI.pres⟩⟩, fun _ => ⟨fun _ => ⟨fun _ hI => .mk hI.pres fun _ => trivial, fun _ hI => .no hI.pres⟩, fun _ => ⟨fun _ => ⟨fun _ hI => .mk hI.pres fun _ => trivial, fun _ => ⟨fun _ hI => .mk hI.pres fun _ => trivial, fun _ hI => .no hI.pres⟩⟩, fun _ => ⟨fun _ => ⟨fun _ => ⟨fun _ hI => .mk hI.pres fun _ => trivial, fun _ hI => .no hI.pres⟩, fun _ hI => .no hI.pres⟩, fun _ hI => .no hI.pres⟩⟩⟩⟩⟩

theorem s204 (s : List UInt8) (H : LHeap) : CallL cfg 204 [.str s] H (AnyN H) := by
  refine e204t _ s H ⟨fun _ hI => ⟨hI.pres, _, rfl⟩, fun _ => ⟨fun _ hI => ⟨hI.pres, _, rfl⟩, fun _ => ⟨fun _ hI => ⟨hI.pres, _, rfl⟩, fun _ => ⟨fun _ hI => ⟨hI.pres, _, rfl⟩, fun _ => ⟨fun _ hI => ⟨hI.pres, _, rfl⟩, fun _ => ⟨fun _ hI => ⟨hI.pres, _, rfl⟩, fun _ => ⟨fun _ hI => ⟨hI.pres, _, rfl⟩, fun _ => ⟨fun _ hI => ⟨hI.pres, _, rfl⟩, fun _ => ⟨fun _ hI => ⟨hI.pres, _, rfl⟩, fun _ => ⟨fun _ hI => ⟨hI.pres, _, rfl⟩, fun _ => ⟨fun _ hI => ⟨hI.pres, _, rfl⟩, fun _ => ⟨fun _ hI => ⟨hI.pres, _, rfl⟩, fun _ hI => ⟨hI.pres, _, rfl⟩⟩⟩⟩⟩⟩⟩⟩⟩⟩⟩⟩⟩

/-- A node that is right by itself. -/
def RightX : Nd → Prop
  | .mk x l => (x.kind = 2 → x.s = [] ∧ (x.valueKind = 0 ∧ x.valueN = 0 ∧ x.valueS = []) ∧ (x.toBook = [] ∧ x.toSheet = [] ∧ x.toRow = 0 ∧ x.toCol = 0 ∧ x.toFixRow = false ∧ x.toFixCol = false) ∧ 1 ≤ x.refRow ∧ x.refRow ≤ 64 ∧ 1 ≤ x.refCol ∧ x.refCol ≤ 26 ∧ l = []) ∧
    (x.kind = 3 → x.s = [] ∧ (x.valueKind = 0 ∧ x.valueN = 0 ∧ x.valueS = []) ∧ 1 ≤ x.refRow ∧ x.refRow ≤ 64 ∧ 1 ≤ x.refCol ∧ x.refCol ≤ 26 ∧ 1 ≤ x.toRow ∧ x.toRow ≤ 64 ∧ 1 ≤ x.toCol ∧ x.toCol ≤ 26 ∧ l = [])

theorem same_end {x w : NdC} {l : List Nd} {H0 H1 : LHeap} {kn : List Slot} {Q : Prop} (hN : NdAt H1 (.mk x l)) (ha : w.argsA = x.argsA) (hl : w.argsL = x.argsL) (hq : headEq x w = true → Q) :
    ∃ S : LV → LHeap → Prop, CallL cfg 53 [x.lv, w.lv] H1 S ∧ (∀ v H', S v H' → PresX [] H1 H' ∧ hasSh .bool v) ∧ ∀ (b : Bool) (H' : LHeap), S (.bool b) H' → Inv [] H0 kn H' → GoodB Q H0 (.bool b) H' := by
  have hw : NdAt H1 (.mk w l) := by
    unfold NdAt at hN ⊢
    rw [ha, hl]
    exact hN
  refine ⟨_, s53 (.mk x l) (.mk w l) H1 hN hw, Ret.use ⟨_, rfl⟩, fun b H' ⟨e, _⟩ hI => .mk hI.pres fun hb => hq ?_⟩
  cases e
  unfold sameT at hb
  simp only [Bool.and_eq_true] at hb
  exact hb.1

theorem tail_end {x w : NdC} {l : List Nd} {H0 H1 : LHeap} {kn : List Slot} {Q : Prop} (hN : NdAt H0 (.mk x l)) (ha : w.argsA = x.argsA) (hl : w.argsL = x.argsL) (hq : headEq x w = true → (x.kind < 5 → l = []) → Q) :
    (((decide (x.kind < 5)) = true → (((decide (((x.argsL : Nat) : Int) > 0)) = true → (Inv [] H0 kn H1 → GoodB Q H0 (.bool Bool.false) H1))
 ∧ ((decide (((x.argsL : Nat) : Int) > 0)) = false → (Inv [] H0 kn H1 → ∃ S : LV → LHeap → Prop, CallL cfg 53 [x.lv, w.lv] H1 S ∧ (∀ v H', S v H' → PresX [] H1 H' ∧ hasSh .bool v) ∧
  (∀ (b : Bool) (H' : LHeap), S (.bool b) H' → (Inv [] H0 kn H' → GoodB Q H0 (.bool b) H'))))))
 ∧ ((decide (x.kind < 5)) = false → (Inv [] H0 kn H1 → ∃ S : LV → LHeap → Prop, CallL cfg 53 [x.lv, w.lv] H1 S ∧ (∀ v H', S v H' → PresX [] H1 H' ∧ hasSh .bool v) ∧
  (∀ (b : Bool) (H' : LHeap), S (.bool b) H' → (Inv [] H0 kn H' → GoodB Q H0 (.bool b) H'))))) := by
  have hlen : l.length = x.argsL := by unfold NdAt at hN; exact hN.1
  refine ⟨fun hk => ⟨fun _ hI => .no hI.pres, fun h0 hI => same_end (hN.on hI.pres) ha hl fun h => hq h fun _ => ?_⟩, fun hk hI => same_end (hN.on hI.pres) ha hl fun h => hq h fun hk' => ?_⟩
  · simp at h0
    exact List.eq_nil_of_length_eq_zero (by omega)
  · simp at hk
    omega

/-- Is a node right by itself? -/
theorem s193 (N : Nd) (H : LHeap) (hS : N.root.s.length ≤ 9223372036854775807) (hN : NdAt H N) : CallL cfg 193 [N.root.lv] H (GoodB (RightX N) H) := by
  match N, hS, hN with
  | .mk x l, hS, hN =>
    refine e193t _ x H fun i1 H2 _ _ hI => ⟨_, s257 x H2, Ret.use ⟨_, rfl⟩, fun x4 H5 ⟨e4, _⟩ i6 H7 _ _ H8 _ => ?_⟩
    obtain rfl := NdC.lv_inj e4
    have other : x.kind ≠ 2 → x.kind ≠ 3 → RightX (.mk x l) := fun h2 h3 => ⟨fun h => absurd h h2, fun h => absurd h h3⟩
    refine ⟨fun k1 H9 _ hI => ⟨_, s258 ⟨x.valueKind, x.valueN, x.valueS⟩ H9, GoodB.sh, fun b11 H12 _ => ⟨fun _ hI => .no hI.pres, fun _ => ⟨fun _ hI => .no hI.pres, fun _ => ⟨fun _ => ⟨fun _ hI => .no hI.pres, fun _ H13 _ => ?v1⟩, fun _ H20 _ => ?v2⟩⟩⟩⟩, fun k1 => ⟨fun k2 H27 _ hI => ⟨_, s259 (refOf x) H27, GoodB.sh, fun b29 H30 ⟨_, b, e, hb⟩ => ⟨fun _ hI => .no hI.pres, fun h29 H31 _ => ?ref⟩⟩, fun k2 => ⟨fun k3 => ⟨rfl, fun H39 _ => ⟨rfl, fun H41 _ hI => ⟨_, s202 (refOf x) (toOf x) H41, GoodS.sh, fun s44 H45 ⟨_, t, e, ht⟩ => ⟨fun _ hI => .no hI.pres, fun h44 H46 _ => ?area⟩⟩⟩⟩, fun k3 => ⟨fun k4 => ⟨rfl, fun H54 _ => ⟨rfl, fun H56 _ hI => ⟨_, s97 x.s H56, GoodB.sh, fun b59 H60 _ => ⟨fun _ hI => .no hI.pres, fun _ => ⟨fun _ hI => ⟨_, s97 x.refBook H60, GoodB.sh, fun b62 H63 _ => ⟨fun _ hI => .no hI.pres, fun _ H64 _ => ?n1⟩⟩, fun _ H71 _ => ?n2⟩⟩⟩⟩⟩,
      fun k4 => ⟨fun k5 => ⟨rfl, fun H79 _ => ⟨rfl, fun H81 _ => ⟨fun _ => ⟨fun _ hI => .no hI.pres, fun _ => ⟨fun _ hI => .no hI.pres, fun _ H83 _ => ?u1⟩⟩, fun _ => ⟨fun _ hI => .no hI.pres, fun _ H90 _ => ?u2⟩⟩⟩⟩, fun k5 => ⟨fun k6 => ⟨rfl, fun H98 _ => ⟨rfl, fun H100 _ hI => ⟨_, s204 x.s H100, AnyN.sh, fun n103 H104 _ => ⟨fun _ hI => .no hI.pres, fun _ => ⟨fun _ hI => .no hI.pres, fun _ H105 _ => ?b1⟩⟩⟩⟩⟩, fun k6 => ⟨fun k7 => ⟨rfl, fun H113 _ => ⟨rfl, fun H115 _ => ⟨rfl, fun hI => ⟨_, s252 x.s H115 hS, Ret.use ⟨_, rfl⟩, fun s119 H120 _ => ⟨fun _ _ => ⟨rfl, fun _ _ hI => .no hI.pres⟩, fun _ => ⟨rfl, fun hI => ⟨_, s97 x.s H120, GoodB.sh, fun b126 H127 _ => ⟨fun _ => ⟨rfl, fun hI => ⟨_, s182 x.s H127 hS, AnyN.sh, fun n130 H131 _ => ⟨fun _ _ hI => .no hI.pres, fun _ => ⟨rfl, fun _ hI => .no hI.pres, fun _ H134 _ => ?c1⟩⟩⟩⟩, fun _ _ _ => ⟨rfl, fun _ hI => .no hI.pres, fun _ H143 _ => ?c2⟩⟩⟩⟩⟩⟩⟩⟩⟩, fun k7 hI => .no hI.pres⟩⟩⟩⟩⟩⟩⟩
    case v1 => exact tail_end (w := { kindN x with valueKind := x.valueKind, valueN := x.valueN, valueS := x.valueS, argsA := x.argsA, argsL := x.argsL, argsQ := x.argsQ }) hN rfl rfl fun _ _ => other (by simp at k1; omega) (by simp at k1; omega)
    case v2 => exact tail_end (w := { kindN x with valueKind := x.valueKind, valueN := x.valueN, valueS := x.valueS, argsA := x.argsA, argsL := x.argsL, argsQ := x.argsQ }) hN rfl rfl fun _ _ => other (by simp at k1; omega) (by simp at k1; omega)
    case ref =>
      have hr : RefOk (refOf x) := by cases e; exact hb (by simpa using h29)
      refine tail_end (w := { kindN x with refBook := x.refBook, refSheet := x.refSheet, refRow := x.refRow, refCol := x.refCol, refFixRow := x.refFixRow, refFixCol := x.refFixCol, argsA := x.argsA, argsL := x.argsL, argsQ := x.argsQ }) hN rfl rfl fun h ha => ⟨fun _ => ?_, fun h3 => ?_⟩
      · simp [headEq, eqV, eqR, eqT, kindN] at h
        simp at k2
        have := hr.row; have := hr.col
        simp only [refOf] at *
        exact ⟨h.1, ⟨h.2.1.1, h.2.1.2.1, h.2.1.2.2⟩, ⟨h.2.2.1, h.2.2.2.1, h.2.2.2.2.1, h.2.2.2.2.2.1, h.2.2.2.2.2.2.1, h.2.2.2.2.2.2.2⟩, by omega, by omega, by omega, by omega, ha (by omega)⟩
      · simp at k2; omega
    case area =>
      have hr : RefOk (refOf x) ∧ RefOk (toOf x) := by cases e; exact ht (by simpa using h44)
      refine tail_end (w := { kindN x with refBook := x.refBook, refSheet := x.refSheet, refRow := x.refRow, refCol := x.refCol, refFixRow := x.refFixRow, refFixCol := x.refFixCol, toBook := x.toBook, toSheet := x.toSheet, toRow := x.toRow, toCol := x.toCol, toFixRow := x.toFixRow, toFixCol := x.toFixCol, argsA := x.argsA, argsL := x.argsL, argsQ := x.argsQ }) hN rfl rfl fun h ha => ⟨fun h2 => ?_, fun _ => ?_⟩
      · simp at k3; omega
      · simp [headEq, eqV, eqR, eqT, kindN] at h
        simp at k3
        have := hr.1.row; have := hr.1.col; have := hr.2.row; have := hr.2.col
        simp only [refOf, toOf] at *
        exact ⟨h.1, ⟨h.2.1, h.2.2.1, h.2.2.2⟩, by omega, by omega, by omega, by omega, by omega, by omega, by omega, by omega, ha (by omega)⟩
    case n1 => exact tail_end (w := { kindN x with s := x.s, refBook := x.refBook, argsA := x.argsA, argsL := x.argsL, argsQ := x.argsQ }) hN rfl rfl fun _ _ => other (by simp at k4; omega) (by simp at k4; omega)
    case n2 => exact tail_end (w := { kindN x with s := x.s, refBook := x.refBook, argsA := x.argsA, argsL := x.argsL, argsQ := x.argsQ }) hN rfl rfl fun _ _ => other (by simp at k4; omega) (by simp at k4; omega)
    case u1 => exact tail_end (w := { kindN x with s := x.s, argsA := x.argsA, argsL := x.argsL, argsQ := x.argsQ }) hN rfl rfl fun _ _ => other (by simp at k5; omega) (by simp at k5; omega)
    case u2 => exact tail_end (w := { kindN x with s := x.s, argsA := x.argsA, argsL := x.argsL, argsQ := x.argsQ }) hN rfl rfl fun _ _ => other (by simp at k5; omega) (by simp at k5; omega)
    case b1 => exact tail_end (w := { kindN x with s := x.s, argsA := x.argsA, argsL := x.argsL, argsQ := x.argsQ }) hN rfl rfl fun _ _ => other (by simp at k6; omega) (by simp at k6; omega)
    case c1 => exact tail_end (w := { kindN x with s := x.s, argsA := x.argsA, argsL := x.argsL, argsQ := x.argsQ }) hN rfl rfl fun _ _ => other (by simp at k7; omega) (by simp at k7; omega)
    case c2 => exact tail_end (w := { kindN x with s := x.s, argsA := x.argsA, argsL := x.argsL, argsQ := x.argsQ }) hN rfl rfl fun _ _ => other (by simp at k7; omega) (by simp at k7; omega)
end Go.Proofs.YtjihhflffkoffaaGreatDoor.Z
