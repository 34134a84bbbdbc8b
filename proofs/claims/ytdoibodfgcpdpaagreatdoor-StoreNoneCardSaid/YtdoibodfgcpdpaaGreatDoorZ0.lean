/- The program as the machine beside the model takes it: which functions have no body, and that all is as it must be. -/
import Derived.Test.YtdoibodfgcpdpaaGreatDoorLe
import Derived.Test.YtdoibodfgcpdpaaGreatDoorProg
import Derived.KernelRfl
set_option linter.unusedSimpArgs false
set_option linter.unusedVariables false
set_option linter.unusedSectionVars false
set_option linter.unnecessarySimpa false
namespace Go.Proofs.YtdoibodfgcpdpaaGreatDoor.Z
open Go Go.Lm
open Go.RowKit (Below)
def tab : List (Nat × Nat × Ext) := [(0, 1, .sub64), (246, 246, .cmpStr), (267, 267, .overlaps 24), (285, 285, .overlaps 70), (291, 291, .overlaps 22), (293, 293, .overlaps 23), (356, 356, .sub64), (358, 358, .noEscape), (372, 372, .indexByte), (378, 378, .countByte), (380, 380, .makeNoZero 28), (381, 403, .sub64)]
noncomputable def cfgB : Cfg := { P := Tryz.prog, glob := fun _ => .lost, ext := lookE tab, orc := fun _ => none }
set_option maxRecDepth 1000000
theorem mix : Tryz.prog.follows .mixedOrders = true := by kernel_rfl
theorem allB : cfgAll cfgB Tryz.prog.funcs.toList 0 = true := by kernel_rfl
theorem e246' : ExtFact Tryz.prog 246 (.cmpStr) := ⟨Tryz.prog.funcs[246]!, Extern.BytealgCompare.compare, by kernel_rfl, by kernel_rfl, by kernel_rfl, by kernel_rfl, rfl⟩
theorem e267' : ExtFact Tryz.prog 267 (.overlaps 24) := ⟨Tryz.prog.funcs[267]!, Extern.SlicesOverlaps.overlaps Tryz.prog.funcs[267]!.params Tryz.prog.funcs[267]!.resultTypes, by kernel_rfl, by kernel_rfl, by kernel_rfl, by kernel_rfl, ⟨_, _, rfl, by kernel_rfl⟩⟩
theorem e285' : ExtFact Tryz.prog 285 (.overlaps 70) := ⟨Tryz.prog.funcs[285]!, Extern.SlicesOverlaps.overlaps Tryz.prog.funcs[285]!.params Tryz.prog.funcs[285]!.resultTypes, by kernel_rfl, by kernel_rfl, by kernel_rfl, by kernel_rfl, ⟨_, _, rfl, by kernel_rfl⟩⟩
theorem e291' : ExtFact Tryz.prog 291 (.overlaps 22) := ⟨Tryz.prog.funcs[291]!, Extern.SlicesOverlaps.overlaps Tryz.prog.funcs[291]!.params Tryz.prog.funcs[291]!.resultTypes, by kernel_rfl, by kernel_rfl, by kernel_rfl, by kernel_rfl, ⟨_, _, rfl, by kernel_rfl⟩⟩
theorem e293' : ExtFact Tryz.prog 293 (.overlaps 23) := ⟨Tryz.prog.funcs[293]!, Extern.SlicesOverlaps.overlaps Tryz.prog.funcs[293]!.params Tryz.prog.funcs[293]!.resultTypes, by kernel_rfl, by kernel_rfl, by kernel_rfl, by kernel_rfl, ⟨_, _, rfl, by kernel_rfl⟩⟩
theorem e358' : ExtFact Tryz.prog 358 (.noEscape) := ⟨Tryz.prog.funcs[358]!, Extern.AbiNoEscape.same, by kernel_rfl, by kernel_rfl, by kernel_rfl, by kernel_rfl, rfl⟩
theorem e372' : ExtFact Tryz.prog 372 (.indexByte) := ⟨Tryz.prog.funcs[372]!, Extern.BytealgIndexByte.indexByte, by kernel_rfl, by kernel_rfl, by kernel_rfl, by kernel_rfl, rfl⟩
theorem e378' : ExtFact Tryz.prog 378 (.countByte) := ⟨Tryz.prog.funcs[378]!, Extern.BytealgCount.count, by kernel_rfl, by kernel_rfl, by kernel_rfl, by kernel_rfl, rfl⟩
theorem e380' : ExtFact Tryz.prog 380 (.makeNoZero 28) := ⟨Tryz.prog.funcs[380]!, Extern.BytealgMakeNoZero.makeNoZero Tryz.prog.funcs[380]!.params Tryz.prog.funcs[380]!.resultTypes, by kernel_rfl, by kernel_rfl, by kernel_rfl, by kernel_rfl, ⟨_, _, rfl, by kernel_rfl⟩⟩
theorem tabOK : TabOK Tryz.prog tab := ⟨.inl rfl, .inr ⟨rfl, e246'⟩, .inr ⟨rfl, e267'⟩, .inr ⟨rfl, e285'⟩, .inr ⟨rfl, e291'⟩, .inr ⟨rfl, e293'⟩, .inl rfl, .inr ⟨rfl, e358'⟩, .inr ⟨rfl, e372'⟩, .inr ⟨rfl, e378'⟩, .inr ⟨rfl, e380'⟩, .inl rfl, trivial⟩
theorem okB (n0 : Nat) : CfgOK cfgB n0 (fun _ => True) :=
  cfg_ok (fun _ _ _ _ => trivial) allB (fun f e _ he hne => tab_ext tabOK he hne) (fun f o h => by cases h)
end Go.Proofs.YtdoibodfgcpdpaaGreatDoor.Z
