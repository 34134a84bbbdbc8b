/- The program as the machine beside the model takes it: which functions have no body, and that all is as it must be. -/
import Derived.Test.YtjihhflffkoffaaGreatDoorLe
import Derived.Test.YtjihhflffkoffaaGreatDoorProg
import Derived.KernelRfl
set_option linter.unusedSimpArgs false
set_option linter.unusedVariables false
set_option linter.unusedSectionVars false
set_option linter.unnecessarySimpa false
namespace Go.Proofs.YtjihhflffkoffaaGreatDoor.Z
open Go Go.Lm
open Go.RowKit (Below)
def tab:List (Nat×Nat×Ext):=[(0,1,.sub64),(166,166,.overlaps 36),(180,180,.overlaps 45),(207,207,.overlaps 49),(247,247,.cmpStr),(286,286,.noEscape),(308,308,.sub64),(320,320,.countByte),(322,322,.indexByte),(325,325,.makeNoZero 155),(326,348,.sub64)]
noncomputable def cfgB:Cfg:={ P:=Tryz.prog,glob:=fun _=>.lost,ext:=lookE tab,orc:=fun _=>none }
def livesL:List LV->Option LV
 |[]=>some (.bool true)
 |_=>none
noncomputable def cfg:Cfg:={ P:=Tryz.prog,glob:=fun _=>.lost,ext:=lookE tab,orc:=fun f=>if Nat.beq f 31 then some livesL else none }
set_option maxRecDepth 1000000
theorem mix:Tryz.prog.follows .mixedOrders=true:=by kernel_rfl
theorem allB:cfgAll cfgB Tryz.prog.funcs.toList 0=true:=by kernel_rfl
theorem e166':ExtFact Tryz.prog 166 (.overlaps 36):=⟨Tryz.prog.funcs[166]!,Extern.SlicesOverlaps.overlaps Tryz.prog.funcs[166]!.params Tryz.prog.funcs[166]!.resultTypes,by kernel_rfl,by kernel_rfl,by kernel_rfl,by kernel_rfl,⟨_,_,rfl,by kernel_rfl⟩⟩
theorem e180':ExtFact Tryz.prog 180 (.overlaps 45):=⟨Tryz.prog.funcs[180]!,Extern.SlicesOverlaps.overlaps Tryz.prog.funcs[180]!.params Tryz.prog.funcs[180]!.resultTypes,by kernel_rfl,by kernel_rfl,by kernel_rfl,by kernel_rfl,⟨_,_,rfl,by kernel_rfl⟩⟩
theorem e207':ExtFact Tryz.prog 207 (.overlaps 49):=⟨Tryz.prog.funcs[207]!,Extern.SlicesOverlaps.overlaps Tryz.prog.funcs[207]!.params Tryz.prog.funcs[207]!.resultTypes,by kernel_rfl,by kernel_rfl,by kernel_rfl,by kernel_rfl,⟨_,_,rfl,by kernel_rfl⟩⟩
theorem e247':ExtFact Tryz.prog 247 (.cmpStr):=⟨Tryz.prog.funcs[247]!,Extern.BytealgCompare.compare,by kernel_rfl,by kernel_rfl,by kernel_rfl,by kernel_rfl,rfl⟩
theorem e286':ExtFact Tryz.prog 286 (.noEscape):=⟨Tryz.prog.funcs[286]!,Extern.AbiNoEscape.same,by kernel_rfl,by kernel_rfl,by kernel_rfl,by kernel_rfl,rfl⟩
theorem e320':ExtFact Tryz.prog 320 (.countByte):=⟨Tryz.prog.funcs[320]!,Extern.BytealgCount.count,by kernel_rfl,by kernel_rfl,by kernel_rfl,by kernel_rfl,rfl⟩
theorem e322':ExtFact Tryz.prog 322 (.indexByte):=⟨Tryz.prog.funcs[322]!,Extern.BytealgIndexByte.indexByte,by kernel_rfl,by kernel_rfl,by kernel_rfl,by kernel_rfl,rfl⟩
theorem e325':ExtFact Tryz.prog 325 (.makeNoZero 155):=⟨Tryz.prog.funcs[325]!,Extern.BytealgMakeNoZero.makeNoZero Tryz.prog.funcs[325]!.params Tryz.prog.funcs[325]!.resultTypes,by kernel_rfl,by kernel_rfl,by kernel_rfl,by kernel_rfl,⟨_,_,rfl,by kernel_rfl⟩⟩
theorem tabOK:TabOK Tryz.prog tab:=⟨.inl rfl,.inr ⟨rfl,e166'⟩,.inr ⟨rfl,e180'⟩,.inr ⟨rfl,e207'⟩,.inr ⟨rfl,e247'⟩,.inr ⟨rfl,e286'⟩,.inl rfl,.inr ⟨rfl,e320'⟩,.inr ⟨rfl,e322'⟩,.inr ⟨rfl,e325'⟩,.inl rfl,trivial⟩
theorem okB(n0:Nat):CfgOK cfgB n0 (fun _=>True):=
 cfg_ok (fun _ _ _ _=>trivial) allB (fun f e _ he hne=>tab_ext tabOK he hne) (fun f o h=>by cases h)
noncomputable def st(f:FuncId):LState:=match startL cfgB f with
 |some s=>s
 |none=>⟨⟨0,[],[],[],.run,false,none⟩,[],⟨0,.leaf⟩⟩
end Go.Proofs.YtjihhflffkoffaaGreatDoor.Z
