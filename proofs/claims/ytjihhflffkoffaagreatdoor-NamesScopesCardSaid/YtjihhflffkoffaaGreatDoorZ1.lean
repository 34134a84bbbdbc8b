/- The program as the machine beside the model takes it: which functions have no body, and that all is as it must be. -/
import Derived.Test.YtjihhflffkoffaaGreatDoorLe
import Derived.Test.YtjihhflffkoffaaGreatDoorProg
import Derived.KernelRfl
set_option linter.unusedSimpArgs false
set_option linter.unusedVariables false
set_option linter.unusedSectionVars false
set_option linter.unnecessarySimpa false
namespace Go.Proofs.YtjihhflffkoffaaGreatDoor.Z
open Go Go.Lm
open Go.RowKit (Below)
def tab : List (Nat × Nat × Ext) := [(0, 1, .sub64), (166, 166, .overlaps 36), (180, 180, .overlaps 45), (207, 207, .overlaps 49), (247, 247, .cmpStr), (286, 286, .noEscape), (308, 308, .sub64), (320, 320, .countByte), (322, 322, .indexByte), (325, 325, .makeNoZero 155), (326, 348, .sub64)]
noncomputable def cfgB : Cfg := { P := Tryz.prog, glob := fun _ => .lost, ext := lookE tab, orc := fun _ => none }
def livesL : List LV → Option LV
  | [] => some (.bool true)
  | _ => none
noncomputable def cfg : Cfg := { P := Tryz.prog, glob := fun _ => .lost, ext := lookE tab, orc := fun f => if Nat.beq f 24 then some livesL else none }
set_option maxRecDepth 1000000
theorem mix : Tryz.prog.follows .mixedOrders = true := by kernel_rfl
theorem allB : cfgAll cfgB Tryz.prog.funcs.toList 0 = true := by kernel_rfl
theorem allC : cfgAll cfg Tryz.prog.funcs.toList 0 = true := by kernel_rfl
theorem e166' : ExtFact Tryz.prog 166 (.overlaps 36) := ⟨Tryz.prog.funcs[166]!, Extern.SlicesOverlaps.overlaps Tryz.prog.funcs[166]!.params Tryz.prog.funcs[166]!.resultTypes, by kernel_rfl, by kernel_rfl, by kernel_rfl, by kernel_rfl, ⟨_, _, rfl, by kernel_rfl⟩⟩
theorem e180' : ExtFact Tryz.prog 180 (.overlaps 45) := ⟨Tryz.prog.funcs[180]!, Extern.SlicesOverlaps.overlaps Tryz.prog.funcs[180]!.params Tryz.prog.funcs[180]!.resultTypes, by kernel_rfl, by kernel_rfl, by kernel_rfl, by kernel_rfl, ⟨_, _, rfl, by kernel_rfl⟩⟩
theorem e207' : ExtFact Tryz.prog 207 (.overlaps 49) := ⟨Tryz.prog.funcs[207]!, Extern.SlicesOverlaps.overlaps Tryz.prog.funcs[207]!.params Tryz.prog.funcs[207]!.resultTypes, by kernel_rfl, by kernel_rfl, by kernel_rfl, by kernel_rfl, ⟨_, _, rfl, by kernel_rfl⟩⟩
theorem e247' : ExtFact Tryz.prog 247 (.cmpStr) := ⟨Tryz.prog.funcs[247]!, Extern.BytealgCompare.compare, by kernel_rfl, by kernel_rfl, by kernel_rfl, by kernel_rfl, rfl⟩
theorem e286' : ExtFact Tryz.prog 286 (.noEscape) := ⟨Tryz.prog.funcs[286]!, Extern.AbiNoEscape.same, by kernel_rfl, by kernel_rfl, by kernel_rfl, by kernel_rfl, rfl⟩
theorem e320' : ExtFact Tryz.prog 320 (.countByte) := ⟨Tryz.prog.funcs[320]!, Extern.BytealgCount.count, by kernel_rfl, by kernel_rfl, by kernel_rfl, by kernel_rfl, rfl⟩
theorem e322' : ExtFact Tryz.prog 322 (.indexByte) := ⟨Tryz.prog.funcs[322]!, Extern.BytealgIndexByte.indexByte, by kernel_rfl, by kernel_rfl, by kernel_rfl, by kernel_rfl, rfl⟩
theorem e325' : ExtFact Tryz.prog 325 (.makeNoZero 155) := ⟨Tryz.prog.funcs[325]!, Extern.BytealgMakeNoZero.makeNoZero Tryz.prog.funcs[325]!.params Tryz.prog.funcs[325]!.resultTypes, by kernel_rfl, by kernel_rfl, by kernel_rfl, by kernel_rfl, ⟨_, _, rfl, by kernel_rfl⟩⟩
theorem tabOK : TabOK Tryz.prog tab := ⟨.inl rfl, .inr ⟨rfl, e166'⟩, .inr ⟨rfl, e180'⟩, .inr ⟨rfl, e207'⟩, .inr ⟨rfl, e247'⟩, .inr ⟨rfl, e286'⟩, .inl rfl, .inr ⟨rfl, e320'⟩, .inr ⟨rfl, e322'⟩, .inr ⟨rfl, e325'⟩, .inl rfl, trivial⟩
theorem okB (n0 : Nat) : CfgOK cfgB n0 (fun _ => True) :=
  cfg_ok (fun _ _ _ _ => trivial) allB (fun f e _ he hne => tab_ext tabOK he hne) (fun f o h => by cases h)
noncomputable def st (f : FuncId) : LState := match startL cfgB f with
  | some s => s
  | none => ⟨⟨0, [], [], [], .run, false, none⟩, [], ⟨0, .leaf⟩⟩
theorem run24 : lgo cfgB (fun s => isTrueL (finalL cfgB 24 s)) 11200 (st 24) = true := by kernel_rfl
theorem lives24 (W : World) : Calls Tryz.prog 24 #[] W fun e X => e = .returned (.bool true) ∧ Below W.heap.size W X :=
  calls_true (C := cfgB) (okB W.heap.size) mix rfl (s := st 24) (by kernel_rfl) (lgo_ends _ _ run24) W trivial (Nat.le_refl _)
theorem okC (n0 : Nat) : CfgOK cfg n0 (fun _ => True) := by
  refine cfg_ok (fun _ _ _ _ => trivial) allC (fun f e _ he hne => tab_ext tabOK he hne) (fun f o h => ?_)
  have h' : (if Nat.beq f 24 then some livesL else none) = some o := h
  split at h'
  · rename_i hf
    cases h'
    have hf' : f = 24 := by simpa using hf
    have key : ∀ (g : FuncId) (fn : Func), Tryz.prog.funcs[g]? = some fn → fn.body.isNone = false → (∀ W : World, Calls Tryz.prog g #[] W fun e X => e = .returned (.bool true) ∧ Below W.heap.size W X) →
        (∃ fn : Func, cfg.P.funcs[g]? = some fn ∧ fn.body.isNone = false) ∧ ∀ (ι : Gh) (H : LHeap) (W : World) (x : List LV) (a : Array Value) (r : LV), HRel ι H W n0 → True → VRels ι x a.toList → livesL x = some r →
          Calls cfg.P g a W fun e X => ∃ v, e = .returned v ∧ VRel ι r v ∧ Below W.heap.size W X := by
      intro g fn h1 h2 h3
      refine ⟨⟨fn, h1, h2⟩, fun ι H W x a r _ _ hx hr => ?_⟩
      unfold livesL at hr
      split at hr
      · cases hr
        obtain rfl : a = #[] := by
          generalize hal : a.toList = al at hx
          cases hx
          cases a; simp_all
        exact (h3 W).mono fun e X ⟨he, hb⟩ => ⟨_, he, .bool true, hb⟩
      · cases hr
    subst hf'
    exact key 24 Tryz.prog.funcs[24]! (by kernel_rfl) (by kernel_rfl) lives24
  · cases h'
theorem covA : coversAll Tryz.prog = true := by kernel_rfl
end Go.Proofs.YtjihhflffkoffaaGreatDoor.Z
