/- Contracts of functions of the program; no condition. -/
import Derived.Test.YtjihhflffkoffaaGreatDoorFb
import Derived.Test.YtjihhflffkoffaaGreatDoorCe
set_option linter.unusedSimpArgs false
set_option linter.unusedVariables false
set_option linter.unusedSectionVars false
set_option linter.unnecessarySimpa false
namespace Go.Proofs.YtjihhflffkoffaaGreatDoor.Z
open Go Go.Lm
set_option maxRecDepth 100000

def refO (n : NdC) : RefC := ⟨n.refBook, n.refSheet, n.refRow, n.refCol, n.refFixRow, n.refFixCol⟩
def toO (n : NdC) : RefC := ⟨n.toBook, n.toSheet, n.toRow, n.toCol, n.toFixRow, n.toFixCol⟩
def valO (n : NdC) : ValC := ⟨n.valueKind, n.valueN, n.valueS⟩

def vZ (x : NdC) : Bool := ((0 : Int) == x.valueKind) && (((0 : Int) == x.valueN) && ([] == x.valueS))
def rZ (x : NdC) : Bool := ([] == x.refBook) && (([] == x.refSheet) && (((0 : Int) == x.refRow) && (((0 : Int) == x.refCol) && ((false == x.refFixRow) && (false == x.refFixCol)))))
def rB (x : NdC) : Bool := (x.refBook == x.refBook) && (([] == x.refSheet) && (((0 : Int) == x.refRow) && (((0 : Int) == x.refCol) && ((false == x.refFixRow) && (false == x.refFixCol)))))
def tZ (x : NdC) : Bool := ([] == x.toBook) && (([] == x.toSheet) && (((0 : Int) == x.toRow) && (((0 : Int) == x.toCol) && ((false == x.toFixRow) && (false == x.toFixCol)))))
def vS (x : NdC) : Bool := (x.valueKind == x.valueKind) && ((x.valueN == x.valueN) && (x.valueS == x.valueS))
def rS (x : NdC) : Bool := (x.refBook == x.refBook) && ((x.refSheet == x.refSheet) && ((x.refRow == x.refRow) && ((x.refCol == x.refCol) && ((x.refFixRow == x.refFixRow) && (x.refFixCol == x.refFixCol)))))
def tS (x : NdC) : Bool := (x.toBook == x.toBook) && ((x.toSheet == x.toSheet) && ((x.toRow == x.toRow) && ((x.toCol == x.toCol) && ((x.toFixRow == x.toFixRow) && (x.toFixCol == x.toFixCol)))))
def tailF (A B C D e : Bool) : Bool := A && (B && (C && (D && e)))

/-- Is a node right? -/
def shapeF (x : NdC) : Bool :=
  if x.kind == 1 then (valF (valO x) && ((x.valueKind != 0) && ((x.valueKind != 1) || decide (x.valueN ≥ 0)))) && tailF ([] == x.s) (vS x) (rZ x) (tZ x) ((0 : Int) == ((x.argsL : Nat) : Int))
  else if x.kind == 2 then refF (refO x) && tailF ([] == x.s) (vZ x) (rS x) (tZ x) ((0 : Int) == ((x.argsL : Nat) : Int))
  else if x.kind == 3 then areaF (refO x) (toO x) && tailF ([] == x.s) (vZ x) (rS x) (tS x) ((0 : Int) == ((x.argsL : Nat) : Int))
  else if x.kind == 4 then (nameF x.s && ((x.refBook == []) || nameF x.refBook)) && tailF (x.s == x.s) (vZ x) (rB x) (tZ x) ((0 : Int) == ((x.argsL : Nat) : Int))
  else if x.kind == 5 then ((x.s == [45]) || (x.s == [37])) && tailF (x.s == x.s) (vZ x) (rZ x) (tZ x) ((1 : Int) == ((x.argsL : Nat) : Int))
  else if x.kind == 6 then decide (bindsF x.s > 0) && tailF (x.s == x.s) (vZ x) (rZ x) (tZ x) ((2 : Int) == ((x.argsL : Nat) : Int))
  else if x.kind == 7 then ((x.s.map upB == x.s) && ((nameF x.s || ((x.s == [84, 82, 85, 69]) || (x.s == [70, 65, 76, 83, 69]))) && decide (((x.argsL : Nat) : Int) ≤ 16))) && tailF (x.s == x.s) (vZ x) (rZ x) (tZ x) (((x.argsL : Nat) : Int) == ((x.argsL : Nat) : Int))
  else false

theorem chain4 {A B C D e t : Bool} {I : Prop} {H0 H' : LHeap} (ht : t = tailF A B C D e) (k : I → PresX [] H0 H') :
    (((A = true → (((B = true → (((C = true → (((D = true → (I → Ret (.bool t) H0 (.bool e) H'))
 ∧ (D = false → (I → Ret (.bool t) H0 (.bool false) H')))))
 ∧ (C = false → (I → Ret (.bool t) H0 (.bool false) H')))))
 ∧ (B = false → (I → Ret (.bool t) H0 (.bool false) H')))))
 ∧ (A = false → (I → Ret (.bool t) H0 (.bool false) H')))) := by
  subst ht
  refine ⟨fun a => ⟨fun b => ⟨fun c => ⟨fun d hI => ⟨?_, k hI⟩, fun d hI => ⟨?_, k hI⟩⟩, fun c hI => ⟨?_, k hI⟩⟩, fun b hI => ⟨?_, k hI⟩⟩, fun a hI => ⟨?_, k hI⟩⟩
  all_goals simp only [tailF, *, Bool.true_and, Bool.false_and]

theorem s192 (x : NdC) (H : LHeap) (hs : x.s.length ≤ 9223372036854775807) : CallL cfg 192 [x.lv] H (Ret (.bool (shapeF x)) H) := by
  have no : ∀ {H' : LHeap}, shapeF x = false → PresX [] H H' → Ret (.bool (shapeF x)) H (.bool false) H' := fun h p => ⟨by rw [h], p⟩
  refine e192t _ x H fun i1 H2 _ _ i3 H4 _ _ i5 H6 _ _ i7 H8 _ _ => ⟨fun k1 H9 _ hI => ⟨_, s255 (valO x) H9, Ret.use ⟨_, rfl⟩, fun b11 H12 ⟨e, _⟩ => ⟨fun hb => ⟨fun v0 => ⟨fun v1 => chain4 ?a1 Inv.pres, fun v1 => ⟨fun vn => chain4 ?a2 Inv.pres, fun vn hI => no ?a3 hI.pres⟩⟩, fun v0 hI => no ?a4 hI.pres⟩, fun hb hI => no ?a5 hI.pres⟩⟩,
    fun k1 => ⟨fun k2 H19 _ hI => ⟨_, s256 (refO x) H19, Ret.use ⟨_, rfl⟩, fun b21 H22 ⟨e, _⟩ => ⟨fun hb => chain4 ?b1 Inv.pres, fun hb hI => no ?b2 hI.pres⟩⟩,
    fun k2 => ⟨fun k3 => ⟨rfl, fun H27 _ => ⟨rfl, fun H29 _ hI => ⟨_, s196 (refO x) (toO x) H29, GoodS.sh, fun s32 H33 ⟨_, t, e, ht⟩ => ⟨fun hb => chain4 ?c1 Inv.pres, fun hb hI => no ?c2 hI.pres⟩⟩⟩⟩,
    fun k3 => ⟨fun k4 => ⟨rfl, fun H38 _ hI => ⟨_, s90 x.s H38, Ret.use ⟨_, rfl⟩, fun b41 H42 ⟨e, _⟩ => ⟨fun hb => ⟨fun hk => chain4 ?d1 Inv.pres, fun hk hI => ⟨_, s90 x.refBook H42, Ret.use ⟨_, rfl⟩, fun b47 H48 ⟨e2, _⟩ => ⟨fun hb2 => chain4 ?d2 Inv.pres, fun hb2 hI => no ?d3 hI.pres⟩⟩⟩, fun hb hI => no ?d4 hI.pres⟩⟩⟩,
    fun k4 => ⟨fun k5 => ⟨fun hm => chain4 ?e1 Inv.pres, fun hm => ⟨fun hp => chain4 ?e2 Inv.pres, fun hp hI => no ?e3 hI.pres⟩⟩,
    fun k5 => ⟨fun k6 hI => ⟨_, s198 x.s H8, Ret.use ⟨_, rfl⟩, fun n59 H60 ⟨e, _⟩ => ⟨fun hb => chain4 ?f1 Inv.pres, fun hb hI => no ?f2 hI.pres⟩⟩,
    fun k6 => ⟨fun k7 => ⟨rfl, fun hI => ⟨_, s175 x.s H8 hs, Ret.use ⟨_, rfl⟩, fun s66 H67 ⟨e, _⟩ => ⟨fun hu hI => ⟨_, s90 x.s H67, Ret.use ⟨_, rfl⟩, fun b69 H70 ⟨e2, _⟩ => ⟨fun hb => ⟨fun ha => chain4 ?g1 Inv.pres, fun ha hI => no ?g2 hI.pres⟩, fun hb => ⟨fun ht => ⟨fun ha => chain4 ?g3 Inv.pres, fun ha hI => no ?g4 hI.pres⟩, fun ht => ⟨fun hf => ⟨fun ha => chain4 ?g5 Inv.pres, fun ha hI => no ?g6 hI.pres⟩, fun hf hI => no ?g7 hI.pres⟩⟩⟩⟩, fun hu hI => no ?g8 hI.pres⟩⟩⟩, fun k7 hI => no ?h1 hI.pres⟩⟩⟩⟩⟩⟩⟩
  case a1 => cases e; simp only [shapeF, k1, if_true, hb, v0, v1, Bool.true_and, Bool.true_or]; rfl
  case a2 => cases e; simp only [shapeF, k1, if_true, hb, v0, v1, vn, Bool.true_and, Bool.or_true]; rfl
  case a3 => cases e; simp only [shapeF, k1, if_true, hb, v0, v1, vn, Bool.true_and, Bool.or_self, Bool.and_false, Bool.false_and]
  case a4 => cases e; simp only [shapeF, k1, if_true, v0, Bool.false_and, Bool.and_false]
  case a5 => cases e; simp only [shapeF, k1, if_true, hb, Bool.false_and]
  all_goals simp only [shapeF, k1, Bool.false_eq_true, if_false]
  case b1 => cases e; simp only [k2, if_true, hb, Bool.true_and]; rfl
  case b2 => cases e; simp only [k2, if_true, hb, Bool.false_and]
  all_goals simp only [k2, Bool.false_eq_true, if_false]
  case c1 => cases e; rw [hb] at ht; simp only [k3, if_true, ← ht, Bool.true_and]; rfl
  case c2 => cases e; rw [hb] at ht; simp only [k3, if_true, ← ht, Bool.false_and]
  all_goals simp only [k3, Bool.false_eq_true, if_false]
  case d1 => cases e; simp only [k4, if_true, hb, hk, Bool.true_and, Bool.true_or]; rfl
  case d2 => cases e; cases e2; simp only [k4, if_true, hb, hk, hb2, Bool.true_and, Bool.or_true]; rfl
  case d3 => cases e; cases e2; simp only [k4, if_true, hb, hk, hb2, Bool.true_and, Bool.or_self, Bool.and_false, Bool.false_and]
  case d4 => cases e; simp only [k4, if_true, hb, Bool.false_and]
  all_goals simp only [k4, Bool.false_eq_true, if_false]
  case e1 => simp only [k5, if_true, hm, Bool.true_and, Bool.true_or]; rfl
  case e2 => simp only [k5, if_true, hm, hp, Bool.true_and, Bool.or_true]; rfl
  case e3 => simp only [k5, if_true, hm, hp, Bool.or_self, Bool.false_and]
  all_goals simp only [k5, Bool.false_eq_true, if_false]
  case f1 => cases e; simp only [k6, if_true, hb, Bool.true_and]; rfl
  case f2 => cases e; simp only [k6, if_true, hb, Bool.false_and]
  all_goals simp only [k6, Bool.false_eq_true, if_false]
  case h1 => simp only [k7, Bool.false_eq_true, if_false]
  all_goals cases e
  all_goals simp only [k7, if_true, hu, Bool.true_and, Bool.false_and]
  all_goals cases e2
  case g1 => simp only [hb, ha, Bool.true_and, Bool.true_or]; rfl
  case g2 => simp only [hb, ha, Bool.and_false, Bool.false_and]
  case g3 => simp only [hb, ht, ha, Bool.true_and, Bool.true_or, Bool.or_true]; rfl
  case g4 => simp only [hb, ht, ha, Bool.and_false, Bool.false_and]
  case g5 => simp only [hb, ht, hf, ha, Bool.true_and, Bool.or_true]; rfl
  case g6 => simp only [hb, ht, hf, ha, Bool.and_false, Bool.false_and]
  case g7 => simp only [hb, ht, hf, Bool.or_self, Bool.false_and]
end Go.Proofs.YtjihhflffkoffaaGreatDoor.Z
