/- Contracts of functions of the program; no condition. -/
import Derived.Test.YtjihhflffkoffaaGreatDoorCs
import Derived.Test.YtjihhflffkoffaaGreatDoorCe
import Derived.Test.YtjihhflffkoffaaGreatDoorLe
set_option linter.unusedSimpArgs false
set_option linter.unusedVariables false
set_option linter.unusedSectionVars false
set_option linter.unnecessarySimpa false
namespace Go.Proofs.YtjihhflffkoffaaGreatDoor.Z
open Go Go.Lm
set_option maxRecDepth 100000

theorem headEq_self (x : NdC) : headEq x x = true := by simp [headEq, eqV, eqR, eqT]

mutual
theorem sameT_self : ∀ (n : Nd), sameT n n = true
  | .mk x l => by unfold sameT; rw [headEq_self, sameTs_self l]; rfl
theorem sameTs_self : ∀ (l : List Nd), sameTs l l = true
  | [] => by unfold sameTs; rfl
  | n :: l => by unfold sameTs; rw [sameT_self n, sameTs_self l]; rfl
end

theorem nds_of {H : LHeap} {a : Option LAddr} : ∀ (l : List Nd) (k : Nat), (∀ (i : Nat) (n : Nd), l[i]? = some n → (a.isSome = true ∧ (adr a).id < H.next ∧ loadT cfg.P H 72 ⟨(adr a).id, (adr a).ver, (adr a).off + (k + i) * 18⟩ = some n.root.lv) ∧ NdAt H n) → NdsAt H l a k
  | [], _, _ => by unfold NdsAt; trivial
  | n :: l, k, h => by
    unfold NdsAt
    obtain ⟨h1, h2⟩ := h 0 n rfl
    exact ⟨h1, h2, nds_of l (k + 1) fun i m hi => by rw [show k + 1 + i = k + (i + 1) by omega]; exact h (i + 1) m (by simpa using hi)⟩

theorem nd_of_rep {H : LHeap} (hH : ∀ (a : LAddr) (n : Nat) (cs : List LV), loadN H a n = some cs → a.id < H.next) : ∀ (k : Nat) (cs : List LV) (d : D), SizeOf.sizeOf d ≤ k → Rep Tryz.prog H 72 cs d → ∃ n : Nd, cs = n.root.cs ∧ NdAt H n ∧ NdE H (fun _ => True) n ∧ NdStr n
  | 0, cs, d, hk, h => by cases d <;> simp at hk
  | k + 1, cs, d, hk, h => by
    obtain ⟨l, rfl, hc, hl, hf⟩ := Rep.struct_inv Tryz.underlying72 h
    have c72 : Tryz.prog.cellsOf 72 = 18 := by kernel_rfl
    have al := rep_leaves 10 72 [3, 9, 3, 3, 9, 9, 9, 3, 3, 4, 4, 9, 9, 3, 3, 4, 4, 70] cs _ (by kernel_rfl) h
    obtain ⟨c0, t0, g0, rfl, z0, al⟩ := AllRep.head al
    obtain ⟨c1, t1, g1, rfl, z1, al⟩ := AllRep.head al
    obtain ⟨c2, t2, g2, rfl, z2, al⟩ := AllRep.head al
    obtain ⟨c3, t3, g3, rfl, z3, al⟩ := AllRep.head al
    obtain ⟨c4, t4, g4, rfl, z4, al⟩ := AllRep.head al
    obtain ⟨c5, t5, g5, rfl, z5, al⟩ := AllRep.head al
    obtain ⟨c6, t6, g6, rfl, z6, al⟩ := AllRep.head al
    obtain ⟨c7, t7, g7, rfl, z7, al⟩ := AllRep.head al
    obtain ⟨c8, t8, g8, rfl, z8, al⟩ := AllRep.head al
    obtain ⟨c9, t9, g9, rfl, z9, al⟩ := AllRep.head al
    obtain ⟨c10, t10, g10, rfl, z10, al⟩ := AllRep.head al
    obtain ⟨c11, t11, g11, rfl, z11, al⟩ := AllRep.head al
    obtain ⟨c12, t12, g12, rfl, z12, al⟩ := AllRep.head al
    obtain ⟨c13, t13, g13, rfl, z13, al⟩ := AllRep.head al
    obtain ⟨c14, t14, g14, rfl, z14, al⟩ := AllRep.head al
    obtain ⟨c15, t15, g15, rfl, z15, al⟩ := AllRep.head al
    obtain ⟨c16, t16, g16, rfl, z16, al⟩ := AllRep.head al
    obtain ⟨c17, t17, g17, rfl, z17, al⟩ := AllRep.head al
    obtain rfl := AllRep.last al
    obtain ⟨x0, rfl, _⟩ := Rep.int_inv (t := 3) (k := .i64) (by kernel_rfl) z0
    obtain ⟨x1, rfl, hx1⟩ := Rep.str_inv (t := 9) (by kernel_rfl) z1
    obtain ⟨x2, rfl, _⟩ := Rep.int_inv (t := 3) (k := .i64) (by kernel_rfl) z2
    obtain ⟨x3, rfl, _⟩ := Rep.int_inv (t := 3) (k := .i64) (by kernel_rfl) z3
    obtain ⟨x4, rfl, _⟩ := Rep.str_inv (t := 9) (by kernel_rfl) z4
    obtain ⟨x5, rfl, _⟩ := Rep.str_inv (t := 9) (by kernel_rfl) z5
    obtain ⟨x6, rfl, _⟩ := Rep.str_inv (t := 9) (by kernel_rfl) z6
    obtain ⟨x7, rfl, _⟩ := Rep.int_inv (t := 3) (k := .i64) (by kernel_rfl) z7
    obtain ⟨x8, rfl, _⟩ := Rep.int_inv (t := 3) (k := .i64) (by kernel_rfl) z8
    obtain ⟨x9, rfl⟩ := Rep.bool_inv (t := 4) (by kernel_rfl) z9
    obtain ⟨x10, rfl⟩ := Rep.bool_inv (t := 4) (by kernel_rfl) z10
    obtain ⟨x11, rfl, _⟩ := Rep.str_inv (t := 9) (by kernel_rfl) z11
    obtain ⟨x12, rfl, _⟩ := Rep.str_inv (t := 9) (by kernel_rfl) z12
    obtain ⟨x13, rfl, _⟩ := Rep.int_inv (t := 3) (k := .i64) (by kernel_rfl) z13
    obtain ⟨x14, rfl, _⟩ := Rep.int_inv (t := 3) (k := .i64) (by kernel_rfl) z14
    obtain ⟨x15, rfl⟩ := Rep.bool_inv (t := 4) (by kernel_rfl) z15
    obtain ⟨x16, rfl⟩ := Rep.bool_inv (t := 4) (by kernel_rfl) z16
    have h6 : l.length = 6 := hl
    have hr5 := hf 5 _ l[5] rfl (List.getElem?_eq_getElem (by omega))
    have hr5' : Rep Tryz.prog H 70 [c17] l[5] := hr5
    obtain ⟨a, m, q, xs, ds, rfl, hs, hd⟩ := Rep.slice_inv2 (t := 70) (e := 72) (by kernel_rfl) hr5'
    have kids : ∀ i, i < m → ∃ n : Nd, (a.isSome = true ∧ (adr a).id < H.next ∧ loadT cfg.P H 72 ⟨(adr a).id, (adr a).ver, (adr a).off + (0 + i) * 18⟩ = some n.root.lv) ∧ NdAt H n ∧ NdE H (fun _ => True) n ∧ NdStr n := by
      intro i hi
      have hil : i < ds.length := by rw [hs.len]; exact hi
      have hds : l[5] = .slice ds := by
        rcases hd with hd | hd
        · exact hd
        · rw [hd] at hil; simp at hil
      have hsz : SizeOf.sizeOf ds[i] < SizeOf.sizeOf l[5] := by
        rw [hds]
        have := List.sizeOf_lt_of_mem (List.getElem_mem hil)
        simp
        omega
      have hsz2 : SizeOf.sizeOf l[5] < SizeOf.sizeOf l := List.sizeOf_lt_of_mem (List.getElem_mem (by omega))
      obtain ⟨n, h1, h2⟩ := nd_of_rep hH k (xs i) ds[i] (by simp at hk; omega) (hs.rep i _ (List.getElem?_eq_getElem hil))
      have hld := hs.load i hi
      rw [c72, h1] at hld
      rw [Nat.zero_add]
      exact ⟨n, ⟨hs.some i hi, hH ⟨(adr a).id, (adr a).ver, (adr a).off + i * 18⟩ _ _ hld, load_agg (by kernel_rfl) (by kernel_rfl) hld⟩, h2⟩
    obtain ⟨args, h1, h2⟩ := list_of m kids
    refine ⟨.mk ⟨x0, x1, x2, x3, x4, x5, x6, x7, x8, x9, x10, x11, x12, x13, x14, x15, x16, a, m, q⟩ args, rfl, ?_⟩
    refine ⟨?_, ?_, ?_⟩
    · unfold NdAt
      exact ⟨h1, hs.cap, nds_of args 0 fun i n hi => ⟨(h2 i n hi).1, (h2 i n hi).2.1⟩⟩
    · unfold NdE
      refine ⟨fun ad e => ⟨trivial, hH ad 0 _ (hs.zero ad e), hs.zero ad e⟩, NdsE.all fun m hm => ?_⟩
      obtain ⟨i, hi, rfl⟩ := List.getElem_of_mem hm
      exact (h2 i _ (List.getElem?_eq_getElem hi)).2.2.1
    · unfold NdStr
      refine ⟨hx1, NdsStr.all fun m hm => ?_⟩
      obtain ⟨i, hi, rfl⟩ := List.getElem_of_mem hm
      exact (h2 i _ (List.getElem?_eq_getElem hi)).2.2.2

theorem node_argE {W : World} {dm : LAddr} {cs : List LV} {d : D} (h : Rep Tryz.prog (heapOf W dm) 72 cs d) : ∃ n : Nd, cs = n.root.cs ∧ NdAt (heapOf W dm) n ∧ NdE (heapOf W dm) (fun _ => True) n ∧ NdStr n :=
  nd_of_rep (fun a n cs h => heapOf_lt h) _ cs d (Nat.le_refl _) h

theorem node_arg {W : World} {dm : LAddr} {cs : List LV} {d : D} (h : Rep Tryz.prog (heapOf W dm) 72 cs d) : ∃ n : Nd, cs = n.root.cs ∧ NdAt (heapOf W dm) n := by
  obtain ⟨n, h1, h2, _⟩ := node_argE h
  exact ⟨n, h1, h2⟩
end Go.Proofs.YtjihhflffkoffaaGreatDoor.Z
