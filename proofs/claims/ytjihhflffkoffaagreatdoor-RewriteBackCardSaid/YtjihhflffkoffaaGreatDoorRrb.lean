/- Proves Rows.RewriteBackCardSaid: octavo/octavolaw14.RewriteBack returns true at every input and its arguments read afterwards as before; no condition of mine beyond what the row lists. -/
import Derived.Test.YtjihhflffkoffaaGreatDoorGc
import Derived.Test.YtjihhflffkoffaaGreatDoorLe
import Derived.Test.YtjihhflffkoffaaGreatDoorZ1
import Derived.Test.YtjihhflffkoffaaGreatDoorFct
import Derived.Test.YtjihhflffkoffaaGreatDoorTie
import Derived.Test.YtjihhflffkoffaaGreatDoorCards
import Derived.ProofKit
import Derived.OpenShut
import Derived.LaidMore
import Derived.Lay
import Derived.SevenTiedAt
import Derived.Stop.Joined
import Derived.ChangeOld
import Derived.Carry
import Derived.Below
set_option linter.unusedSimpArgs false
set_option linter.unusedVariables false
set_option linter.unusedSectionVars false
set_option linter.unnecessarySimpa false
namespace Go.Proofs.YtjihhflffkoffaaGreatDoor.RewriteBackDone
open Go Go.Lm Go.ChangeShapes Go.WideShapes Go.ChangeAt Go.RowKit Go.Proofs.YtjihhflffkoffaaGreatDoor.Z
theorem own : ownKnob Tryz.prog.godebug = none := by kernel_rfl
theorem laidOut : laidOutB Tryz.prog = true := Facts.lo
theorem params : Tryz.f15.params.toList = [72, 94, 98] := by kernel_rfl
theorem dm_of {W : World} (h : laidMetH Tryz.prog Rows.rewriteBackRow.laid W) : ∃ dm : LAddr, ghOf W dm.id dm.ver ≠ none := by
  rw [MakeChecks.laidMetH_plain _ _ _ (by kernel_rfl)] at h
  obtain ⟨ps, ⟨g, t, cs, fuel, p, q, hg, ht, hv, hd, _, _⟩, _⟩ := h
  obtain rfl := Option.some.inj ((show Tryz.prog.globalNamed "unicode/utf8.acceptRanges" = some 2 by kernel_rfl).symm.trans hg)
  obtain rfl := Option.some.inj ((show (Tryz.prog.globals[2]?).map (·.type) = some 306 by kernel_rfl).symm.trans ht)
  obtain ⟨xs, m, _, ex, hl, _, _⟩ := DataW.trod_array Tryz.underlying306 hd
  have h1 : Tryz.prog.cellsOf 306 = 32 := by kernel_rfl
  rw [h1] at hl
  have h2 := World.var?_cell hg hv 0
  have h3 : 0 < cs.size := by rw [← Array.length_toList, hl]; omega
  rw [Array.getElem?_eq_getElem h3] at h2
  exact exists_dm h2
set_option maxRecDepth 100000 in
set_option maxHeartbeats 4000000 in
theorem lifted (os : Os) (started : os.Started) (H : Type) (enc : TypeId × Value → H) :
    ReturnsInHanded {} Tryz.checked os 15 .any (fun w args => (Rows.rewriteBackSpec.pre enc Tryz.prog Tryz.f15 Rows.rewriteBackRow.domain false w args ∧ laidMetH Tryz.prog Rows.rewriteBackRow.laid w) ∧ sizedMet enc Tryz.prog Tryz.f15 (OpenSpec.ofChange Rows.rewriteBackSpec) false w args)
      (Rows.rewriteBackSpec.post enc Tryz.prog Tryz.f15 false true false false) := by
  refine returnsInHanded_of_change_and (C := Tryz.checked) (X := fun w _ => laidMetH Tryz.prog Rows.rewriteBackRow.laid w) (fun _ _ _ hh h => h.of_heap hh) own started (by kernel_rfl) Tryz.func15
    (ChangeSpec.witness_shaped (enc := enc) (C := Tryz.checked) (os := os) (X := fun w _ => laidMetH Tryz.prog Rows.rewriteBackRow.laid w) false (World.laidAll Tryz.prog os Rows.rewriteBackRow.laid) #[.agg #[.int .i64 0, .string ByteArray.empty, .int .i64 0, .int .i64 0, .string ByteArray.empty, .string ByteArray.empty, .string ByteArray.empty, .int .i64 0, .int .i64 0, .bool false, .bool false, .string ByteArray.empty, .string ByteArray.empty, .int .i64 0, .int .i64 0, .bool false, .bool false, .slice none 0 0], .agg #[.string ByteArray.empty, .string ByteArray.empty, .int .i64 0, .int .i64 0], .agg #[.string ByteArray.empty, .string ByteArray.empty, .bool false, .bool false, .int .i64 0, .int .i64 0, .int .i64 0]] 8 (World.laidAll_os _ _ _)
      (World.shaped_of_ZipB (by kernel_rfl) (by kernel_rfl)) (by kernel_rfl) (by kernel_rfl) (by kernel_rfl)
      (by rw [MakeChecks.laidMetH_plain _ _ _ (by kernel_rfl)]; exact laidMet_laidAll _ (by kernel_rfl) (by kernel_rfl))) ?_
  intro W base args ds gs before hval0 hW hc _ hL _
  have hval : ∀ (j : Nat) t v, Tryz.f15.params[j]? = some t → args[j]? = some v → Value.okWide Tryz.prog W .any base t v := hval0
  have hW' := hW
  obtain ⟨p, q, hA0, hV, rfl, hfz, hnd⟩ := hW
  have hA : DataW.TrodAll enc Tryz.prog W 0 (fun _ => true) true Tryz.f15.params.toList args.toList ds p := hA0
  rw [params] at hA
  obtain ⟨v0, vs0, d0, ds0', p0, q0, hargs, rfl, rfl, h0, r0⟩ := trodAll_cons hA
  obtain ⟨v1, vs1, d1, ds1', p1, q1, rfl, rfl, rfl, h1, r1⟩ := trodAll_cons r0
  obtain ⟨v2, vs2, d2, ds2', p2, q2, rfl, rfl, rfl, h2, r2⟩ := trodAll_cons r1
  obtain ⟨rfl, rfl, rfl⟩ := trodAll_nil r2
  obtain rfl : args = #[v0, v1, v2] := by cases args; simp_all
  obtain ⟨rfl, rfl⟩ := trodVars_none hV
  have k0 := h0
  have lt0 : ∀ x ∈ p0, x.block < W.heap.size := by obtain ⟨m, hm⟩ := k0; exact DataW.trod_lt m _ _ _ hm
  have k1 := h1
  have lt1 : ∀ x ∈ p1, x.block < W.heap.size := by obtain ⟨m, hm⟩ := k1; exact DataW.trod_lt m _ _ _ hm
  have k2 := h2
  have lt2 : ∀ x ∈ p2, x.block < W.heap.size := by obtain ⟨m, hm⟩ := k2; exact DataW.trod_lt m _ _ _ hm
  obtain ⟨dm, hdm⟩ := dm_of hL
  obtain ⟨cs0, e0, hv0, hr0⟩ := arg_struct (H := H) (enc := enc) covA hdm (t := 72) Tryz.underlying72 (of_decide_eq_true (by kernel_rfl)) (hval 0 72 v0 rfl rfl) h0
  obtain ⟨nd0, rfl, hN0, hE0, hT0⟩ := node_argE hr0
  obtain ⟨cs1, e1, hv1, hr1⟩ := arg_struct (H := H) (enc := enc) covA hdm (t := 94) Tryz.underlying94 (of_decide_eq_true (by kernel_rfl)) (hval 1 94 v1 rfl rfl) h1
  have al1_0 := rep_leaves 10 94 [9, 9, 3, 3] cs1 _ (by kernel_rfl) hr1
  obtain ⟨c1_0, t1_0, g1_0, rfl, z1_0, al1_1⟩ := AllRep.head al1_0
  obtain ⟨s0, rfl, hs0⟩ := Rep.str_inv (t := 9) (by kernel_rfl) z1_0
  obtain ⟨c1_1, t1_1, g1_1, rfl, z1_1, al1_2⟩ := AllRep.head al1_1
  obtain ⟨s1, rfl, hs1⟩ := Rep.str_inv (t := 9) (by kernel_rfl) z1_1
  obtain ⟨c1_2, t1_2, g1_2, rfl, z1_2, al1_3⟩ := AllRep.head al1_2
  obtain ⟨n2, rfl, hn2⟩ := Rep.int_inv (t := 3) (k := .i64) (by kernel_rfl) z1_2
  obtain ⟨c1_3, t1_3, g1_3, rfl, z1_3, al1_4⟩ := AllRep.head al1_3
  obtain ⟨n3, rfl, hn3⟩ := Rep.int_inv (t := 3) (k := .i64) (by kernel_rfl) z1_3
  obtain rfl := AllRep.last al1_4
  obtain ⟨cs2, e2, hv2, hr2⟩ := arg_struct (H := H) (enc := enc) covA hdm (t := 98) Tryz.underlying98 (of_decide_eq_true (by kernel_rfl)) (hval 2 98 v2 rfl rfl) h2
  have al2_0 := rep_leaves 10 98 [9, 9, 4, 4, 3, 3, 3] cs2 _ (by kernel_rfl) hr2
  obtain ⟨c2_0, t2_0, g2_0, rfl, z2_0, al2_1⟩ := AllRep.head al2_0
  obtain ⟨s4, rfl, hs4⟩ := Rep.str_inv (t := 9) (by kernel_rfl) z2_0
  obtain ⟨c2_1, t2_1, g2_1, rfl, z2_1, al2_2⟩ := AllRep.head al2_1
  obtain ⟨s5, rfl, hs5⟩ := Rep.str_inv (t := 9) (by kernel_rfl) z2_1
  obtain ⟨c2_2, t2_2, g2_2, rfl, z2_2, al2_3⟩ := AllRep.head al2_2
  obtain ⟨b6, rfl⟩ := Rep.bool_inv (t := 4) (by kernel_rfl) z2_2
  obtain ⟨c2_3, t2_3, g2_3, rfl, z2_3, al2_4⟩ := AllRep.head al2_3
  obtain ⟨b7, rfl⟩ := Rep.bool_inv (t := 4) (by kernel_rfl) z2_3
  obtain ⟨c2_4, t2_4, g2_4, rfl, z2_4, al2_5⟩ := AllRep.head al2_4
  obtain ⟨n8, rfl, hn8⟩ := Rep.int_inv (t := 3) (k := .i64) (by kernel_rfl) z2_4
  obtain ⟨c2_5, t2_5, g2_5, rfl, z2_5, al2_6⟩ := AllRep.head al2_5
  obtain ⟨n9, rfl, hn9⟩ := Rep.int_inv (t := 3) (k := .i64) (by kernel_rfl) z2_5
  obtain ⟨c2_6, t2_6, g2_6, rfl, z2_6, al2_7⟩ := AllRep.head al2_6
  obtain ⟨n10, rfl, hn10⟩ := Rep.int_inv (t := 3) (k := .i64) (by kernel_rfl) z2_6
  obtain rfl := AllRep.last al2_7
  clear hA0 hval0
  refine (law_true (okC W.heap.size) mix rfl (open_heap hdm) trivial (x := [_, _, _]) (a := #[_, _, _]) (.cons hv0 (.cons hv1 (.cons hv2 .nil))) (s15 nd0 ⟨s0, s1, n2, n3⟩ ⟨s4, s5, b6, b7, n8, n9, n10⟩ _ hN0 hT0)).mono fun e W' ⟨he, bel⟩ => ?_
  subst he
  exact ⟨_, rfl, _, _, _, [], _, [], hW', trodAll_mk1 (shut_bool Tryz.underlying4 _), trodAll_cons_mk (Below.trod laidOut (by kernel_rfl) (of_decide_eq_true (by kernel_rfl)) k0 bel lt0) (trodAll_cons_mk (Below.trod laidOut (by kernel_rfl) (of_decide_eq_true (by kernel_rfl)) k1 bel lt1) (trodAll_mk1 (Below.trod laidOut (by kernel_rfl) (of_decide_eq_true (by kernel_rfl)) k2 bel lt2))), rfl, bel.frame _, fun h => by cases h⟩

theorem holds : Rows.RewriteBackSaid :=
  OpenClaim.holds_of_wide 15 Tryz.f15 rfl rfl rfl rfl rfl rfl rfl ⟨rfl, rfl, rfl, rfl, rfl⟩ rfl rfl rfl rfl rfl (by kernel_rfl) Tryz.func15 Facts.closed
    (of_decide_eq_true (by kernel_rfl)) (by unfold Func.isWrapper; first | (rw [if_pos (by decide +kernel)]; kernel_rfl) | (rw [if_neg (by decide +kernel)]; exact ⟨rfl, rfl⟩))
    (fun os started H enc _ => lifted os started H enc)
end Go.Proofs.YtjihhflffkoffaaGreatDoor.RewriteBackDone
namespace Go.Proofs.YtjihhflffkoffaaGreatDoor
open Go RewriteBackDone
/-- The statement. -/
theorem rewriteBackHolds : Rows.RewriteBackCardSaid :=
  Claim7.holds_tied_plain_at .later [] [.data, .pinned] true (true, "0c8e1e1daa64a09c5af80fb3260cf5d3fd6d2444d9c270209e8fa862cad925e7") true holds (fun _ h => by cases h) (by kernel_rfl) (fun _ h => by cases h) rewriteBack_row_tie rfl ⟨rfl, rfl⟩ Facts.main rfl
    (fun f fn hf hfn => by
      obtain rfl : f = 15 := Option.some.inj ((show Tryz.prog.funcNamed "octavo/octavolaw14.RewriteBack" = some 15 by kernel_rfl).symm.trans hf) |>.symm
      obtain rfl : fn = Tryz.f15 := (Option.some.inj (Tryz.func15.symm.trans hfn)).symm
      exact ⟨by kernel_rfl, fun j t ht => by
        have hm : t ∈ [72, 94, 98] := by rw [← params]; simpa using Array.mem_of_getElem? ht
        have hall : ([72, 94, 98].all fun u => !Tryz.prog.wantsStandIn u) = true := by kernel_rfl
        exact (show Tryz.prog.wantsStandIn t = false by simpa using List.all_eq_true.1 hall t hm)⟩)
    Facts.goes
#print axioms rewriteBackHolds
end Go.Proofs.YtjihhflffkoffaaGreatDoor
