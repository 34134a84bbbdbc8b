/- Contracts of functions of the program; no condition. -/
import Derived.Test.YtjihhflffkoffaaGreatDoorCt
set_option linter.unusedSimpArgs false
set_option linter.unusedVariables false
set_option linter.unusedSectionVars false
set_option linter.unnecessarySimpa false
namespace Go.Proofs.YtjihhflffkoffaaGreatDoor.Z
open Go Go.Lm
set_option maxRecDepth 100000

def eqV (x y : NdC) : Bool := (x.valueKind == y.valueKind) && ((x.valueN == y.valueN) && (x.valueS == y.valueS))
def eqR (x y : NdC) : Bool := (x.refBook == y.refBook) && ((x.refSheet == y.refSheet) && ((x.refRow == y.refRow) && ((x.refCol == y.refCol) && ((x.refFixRow == y.refFixRow) && (x.refFixCol == y.refFixCol)))))
def eqT (x y : NdC) : Bool := (x.toBook == y.toBook) && ((x.toSheet == y.toSheet) && ((x.toRow == y.toRow) && ((x.toCol == y.toCol) && ((x.toFixRow == y.toFixRow) && (x.toFixCol == y.toFixCol)))))
def headEq (x y : NdC) : Bool := (x.kind == y.kind) && ((x.s == y.s) && (eqV x y && (eqR x y && eqT x y)))

mutual
def sameT : Nd → Nd → Bool
  | .mk x l, .mk y m => headEq x y && sameTs l m
def sameTs : List Nd → List Nd → Bool
  | [], [] => true
  | a :: l, b :: m => sameT a b && sameTs l m
  | _, _ => false
end

theorem sameTs_len : ∀ {l m : List Nd}, l.length ≠ m.length → sameTs l m = false
  | [], [], h => by simp at h
  | [], _ :: _, _ => by unfold sameTs; rfl
  | _ :: _, [], _ => by unfold sameTs; rfl
  | a :: l, b :: m, h => by
    unfold sameTs
    rw [sameTs_len (by simpa using h), Bool.and_false]

mutual
theorem s60 : ∀ (n m : Nd) (H : LHeap), NdAt H n → NdAt H m → CallL cfg 60 [n.root.lv, m.root.lv] H (Ret (.bool (sameT n m)) H)
  | .mk x l, .mk y m, H, hn, hm => by
    have key : ∀ {H' : LHeap} {b : Bool}, sameT (.mk x l) (.mk y m) = b → PresX [] H H' → Ret (.bool (sameT (.mk x l) (.mk y m))) H (.bool b) H' := fun e p => by rw [e]; exact .mk p
    have no : headEq x y = false → sameT (.mk x l) (.mk y m) = false := fun h => by unfold sameT; rw [h]; rfl
    unfold NdAt at hn hm
    refine e60 _ x y H fun i H1 j H2 => ⟨fun k => ⟨fun s => ⟨fun v => ⟨fun r => ⟨fun t hI => ⟨_, s129 l m x.argsA y.argsA x.argsL y.argsL x.argsQ y.argsQ H2 hn.1 hm.1 hn.2.1 hm.2.1 (hn.2.2.on hI.pres) (hm.2.2.on hI.pres), Ret.use ⟨_, rfl⟩, fun b H3 ⟨e, p⟩ hI => ?yes⟩,
      fun t hI => key (no ?n1) hI.pres⟩, fun r hI => key (no ?n2) hI.pres⟩, fun v hI => key (no ?n3) hI.pres⟩, fun s hI => key (no ?n4) hI.pres⟩, fun k hI => key (no ?n5) hI.pres⟩
    case yes =>
      cases e
      refine key ?_ hI.pres
      have hh : headEq x y = true := by unfold headEq eqV eqR eqT; rw [k, s, v, r, t]; rfl
      unfold sameT
      rw [hh]
      rfl
    case n1 => unfold headEq eqV eqR eqT; rw [t]; simp
    case n2 => unfold headEq eqV eqR; rw [r]; simp
    case n3 => unfold headEq eqV; rw [v]; simp
    case n4 => unfold headEq; rw [s]; simp
    case n5 => unfold headEq; rw [k]; simp
  termination_by n => (SizeOf.sizeOf n, 0)
theorem s129 : ∀ (l m : List Nd) (a b : Option LAddr) (k j : Nat) (q e : Cap) (H : LHeap), l.length = k → m.length = j → k ≤ maxLen → j ≤ maxLen → NdsAt H l a 0 → NdsAt H m b 0 →
    CallL cfg 129 [.slice a k q, .slice b j e, .func (.func 60) [] []] H (Ret (.bool (sameTs l m)) H)
  | l, m, a, b, k, j, q, e, H, hk, hj, bk, bj, hl, hm => by
    refine e129 _ a b k j q e H ⟨fun h hI => ?_, fun h d => ?_⟩
    · have hne : l.length ≠ m.length := by rw [hk, hj]; intro hc; rw [hc] at h; simp at h
      rw [sameTs_len hne]
      exact .mk hI.pres
    · have hkj : k = j := by simp at h; omega
      have := loop129 l m a b k q e H bk 0 (by omega) (by omega) hl hm (sameTs l m) rfl d H
      rw [← hkj]
      exact this
  termination_by l => (SizeOf.sizeOf l, 1)
theorem loop129 : ∀ (l m : List Nd) (a b : Option LAddr) (k : Nat) (q e : Cap) (H0 : LHeap), k ≤ maxLen → ∀ (i : Nat), i + l.length = k → m.length = l.length → NdsAt H0 l a i → NdsAt H0 m b i → ∀ (r : Bool), sameTs l m = r → ∀ (d : Nat → LV) (H : LHeap),
    GoesT cfg 129 (Ret (.bool r) H0) [] H0 [] (L129_0 d (i : Int) b k e a k q (k : Int)) (loopAt cfg 129 0) H
  | [], m, a, b, k, q, e, H0, hk, i, hi, hml, hl, hm, r, hr, d, H => by
    intro hin hI
    refine g129_0 _ H0 d i b k e a k q k H ⟨fun h => ?_, fun h hI => ?_⟩ hin hI
    · simp at h hi; omega
    · obtain rfl : m = [] := by simpa using hml
      unfold sameTs at hr
      rw [← hr]
      exact .mk hI.pres
  | n :: l, [], a, b, k, q, e, H0, hk, i, hi, hml, hl, hm, r, hr, d, H => by simp at hml
  | n :: l, o :: m, a, b, k, q, e, H0, hk, i, hi, hml, hl, hm, r, hr, d, H => by
    intro hin hI
    rw [List.length_cons] at hi
    unfold NdsAt at hl hm
    obtain ⟨⟨n1, n2, n3⟩, n4, n5⟩ := hl
    obtain ⟨⟨m1, m2, m3⟩, m4, m5⟩ := hm
    unfold maxLen at hk
    unfold sameTs at hr
    refine g129_0 _ H0 d i b k e a k q k H ⟨fun h => ⟨⟨by omega, by omega, n1⟩, fun hI => ⟨n.root, by rw [toNat_mul]; exact hI.pres.load0 (a := ⟨(adr a).id, (adr a).ver, (adr a).off + i * 18⟩) n2 n3, fun j1 H1 H2 => ⟨⟨by omega, by omega, m1⟩, fun hI => ⟨o.root, by rw [toNat_mul]; exact hI.pres.load0 (a := ⟨(adr b).id, (adr b).ver, (adr b).off + i * 18⟩) m2 m3, fun j2 H3 H4 hI =>
      ⟨_, s60 n o H4 (n4.on hI.pres) (m4.on hI.pres), Ret.use ⟨_, rfl⟩, fun w H5 ⟨e1, p⟩ => ⟨fun hc hI => ?no, fun hc d1 => ?go⟩⟩⟩⟩⟩⟩, fun h => ?ge⟩ hin hI
    case ge => simp at h; omega
    case no =>
      cases e1
      have hs : sameT n o = false := by simpa using hc
      rw [hs] at hr
      rw [← hr]
      exact .mk hI.pres
    case go =>
      cases e1
      have hs : sameT n o = true := by simpa using hc
      rw [hs, Bool.true_and] at hr
      rw [lwrap_small (by omega) (by omega)]
      exact loop129 l m a b k q e H0 (by unfold maxLen; omega) (i + 1) (by omega) (by simpa using hml) n5 m5 r hr d1 H5
  termination_by l => (SizeOf.sizeOf l, 0)
end

mutual
theorem s53 : ∀ (n m : Nd) (H : LHeap), NdAt H n → NdAt H m → CallL cfg 53 [n.root.lv, m.root.lv] H (Ret (.bool (sameT n m)) H)
  | .mk x l, .mk y m, H, hn, hm => by
    have key : ∀ {H' : LHeap} {b : Bool}, sameT (.mk x l) (.mk y m) = b → PresX [] H H' → Ret (.bool (sameT (.mk x l) (.mk y m))) H (.bool b) H' := fun e p => by rw [e]; exact .mk p
    have no : headEq x y = false → sameT (.mk x l) (.mk y m) = false := fun h => by unfold sameT; rw [h]; rfl
    unfold NdAt at hn hm
    refine e53 _ x y H fun i H1 j H2 => ⟨fun k hI => key (no ?n5) hI.pres, fun k => ⟨fun s hI => key (no ?n4) hI.pres, fun s => ⟨fun v hI => key (no ?n3) hI.pres, fun v => ⟨fun r hI => key (no ?n2) hI.pres, fun r => ⟨fun t hI => key (no ?n1) hI.pres, fun t => ⟨fun ll hI => key ?len hI.pres, fun ll d => ?yes⟩⟩⟩⟩⟩⟩
    case yes =>
      have hk : x.kind == y.kind := by simpa using k
      have hs : x.s == y.s := by simpa using s
      have hv : eqV x y = true := by unfold eqV; simpa using v
      have hr : eqR x y = true := by unfold eqR; simpa using r
      have ht : eqT x y = true := by unfold eqT; simpa using t
      have hh : headEq x y = true := by unfold headEq; rw [hk, hs, hv, hr, ht]; rfl
      have hkj : x.argsL = y.argsL := by simp at ll; omega
      have e : sameT (.mk x l) (.mk y m) = sameTs l m := by unfold sameT; rw [hh, Bool.true_and]
      exact loop53 l m x y x.argsL i j H hn.2.1 rfl hkj.symm 0 (by omega) (by omega) hn.2.2 hm.2.2 _ e.symm d H2
    case len =>
      unfold sameT
      rw [sameTs_len, Bool.and_false]
      rw [hn.1, hm.1]
      intro hc
      rw [hc] at ll
      simp at ll
    case n1 => have ht : eqT x y = false := by { have h' : (!(eqT x y)) = true := t; simpa using h' }; unfold headEq; rw [ht]; simp
    case n2 => have ht : eqR x y = false := by { have h' : (!(eqR x y)) = true := r; simpa using h' }; unfold headEq; rw [ht]; simp
    case n3 => have ht : eqV x y = false := by { have h' : (!(eqV x y)) = true := v; simpa using h' }; unfold headEq; rw [ht]; simp
    case n4 => have ht : (x.s == y.s) = false := by { simpa using s }; unfold headEq; rw [ht]; simp
    case n5 => have ht : (x.kind == y.kind) = false := by { simpa using k }; unfold headEq; rw [ht]; simp
theorem loop53 : ∀ (l m : List Nd) (x y : NdC) (k : Nat) (i1 i2 : Nat) (H0 : LHeap), k ≤ maxLen → x.argsL = k → y.argsL = k → ∀ (i : Nat), i + l.length = k → m.length = l.length → NdsAt H0 l x.argsA i → NdsAt H0 m y.argsA i → ∀ (r : Bool), sameTs l m = r → ∀ (d : Nat → LV) (H : LHeap),
    GoesT cfg 53 (Ret (.bool r) H0) [] H0 [(Slot.mk i1 (NdC.cs x) 72), (Slot.mk i2 (NdC.cs y) 72)] (L53_0 d (i : Int) (k : Int)) (loopAt cfg 53 0) H
  | [], m, x, y, k, i1, i2, H0, hk, hxk, hyk, i, hi, hml, hl, hm, r, hr, d, H => by
    intro hin hI
    refine g53_0 _ H0 d i k i1 x i2 y H ⟨fun h => ?_, fun h hI => ?_⟩ hin hI
    · simp at h hi; omega
    · obtain rfl : m = [] := by simpa using hml
      unfold sameTs at hr
      rw [← hr]
      exact .mk hI.pres
  | n :: l, [], x, y, k, i1, i2, H0, hk, hxk, hyk, i, hi, hml, hl, hm, r, hr, d, H => by simp at hml
  | n :: l, o :: m, x, y, k, i1, i2, H0, hk, hxk, hyk, i, hi, hml, hl, hm, r, hr, d, H => by
    intro hin hI
    rw [List.length_cons] at hi
    unfold NdsAt at hl hm
    obtain ⟨⟨n1, n2, n3⟩, n4, n5⟩ := hl
    obtain ⟨⟨m1, m2, m3⟩, m4, m5⟩ := hm
    unfold maxLen at hk
    unfold sameTs at hr
    have ld : ∀ {H' : LHeap}, PresX [] H0 H' → loadT cfg.P H' 72 ⟨(adr x.argsA).id, (adr x.argsA).ver, (adr x.argsA).off + ((i : Int)).toNat * 18⟩ = some n.root.lv := fun p => by rw [toNat_mul]; exact p.load0 (a := ⟨(adr x.argsA).id, (adr x.argsA).ver, (adr x.argsA).off + i * 18⟩) n2 n3
    have ld' : ∀ {H' : LHeap}, PresX [] H0 H' → loadT cfg.P H' 72 ⟨(adr y.argsA).id, (adr y.argsA).ver, (adr y.argsA).off + ((i : Int)).toNat * 18⟩ = some o.root.lv := fun p => by rw [toNat_mul]; exact p.load0 (a := ⟨(adr y.argsA).id, (adr y.argsA).ver, (adr y.argsA).off + i * 18⟩) m2 m3
    refine g53_0 _ H0 d i k i1 x i2 y H ⟨fun h => ⟨⟨by omega, by omega, n1⟩, fun hI => ⟨n.root, ld hI.pres, ⟨by omega, by omega, m1⟩, fun hI => ⟨o.root, ld' hI.pres, fun hI => ⟨ld' hI.pres, ld hI.pres, rfl, fun hI =>
      ⟨_, s53 n o H (n4.on hI.pres) (m4.on hI.pres), Ret.use ⟨_, rfl⟩, fun w H5 ⟨e1, p⟩ hI => ⟨fun hc hI => ?no, fun hc d1 => ?go⟩⟩⟩⟩⟩⟩, fun h => ?ge⟩ hin hI
    case ge => simp at h; omega
    case no =>
      cases e1
      have hs : sameT n o = false := by simpa using hc
      rw [hs] at hr
      rw [← hr]
      exact .mk hI.pres
    case go =>
      cases e1
      have hs : sameT n o = true := by simpa using hc
      rw [hs, Bool.true_and] at hr
      rw [lwrap_small (by omega) (by omega)]
      exact loop53 l m x y k i1 i2 H0 (by unfold maxLen; omega) hxk hyk (i + 1) (by omega) (by simpa using hml) n5 m5 r hr d1 H5
end
end Go.Proofs.YtjihhflffkoffaaGreatDoor.Z
