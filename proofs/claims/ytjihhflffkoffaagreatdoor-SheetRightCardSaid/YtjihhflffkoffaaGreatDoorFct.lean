/- The closed facts that the row of SheetRight and its card ask of the program, one by one. -/
import Derived.Test.YtjihhflffkoffaaGreatDoorTie
import Derived.Test.YtjihhflffkoffaaGreatDoorCards
import Derived.ProofKit
import Derived.Stop.Joined
set_option linter.unusedSimpArgs false
set_option linter.unusedVariables false
set_option linter.unusedSectionVars false
set_option linter.unnecessarySimpa false
namespace Go.Proofs.YtjihhflffkoffaaGreatDoor.Facts
open Go
set_option maxRecDepth 1000000
noncomputable abbrev P:=Tryz.pinned.checked.prog
noncomputable abbrev c:=Rows.sheetRightRow
noncomputable abbrev s:=Rows.sheetRightSpec
noncomputable abbrev fn:=Tryz.f11
theorem and_mk{a b:Bool}(h:a=true)(k:b=true):(a&&b)=true:=by rw [h,k];rfl
theorem wf:c.wf (OpenSpec.ofChange s)=true:=by kernel_rfl
theorem lo:laidOutB P=true:=by kernel_rfl
theorem mr:mapsRowed P=true:=by kernel_rfl
theorem rr:fn.params.all (P.readableRec ·)=true:=by kernel_rfl
theorem nt:namedTie P c.named s.vars=true:=by kernel_rfl
theorem st:(c.stops==[])=true:=by kernel_rfl
theorem ps:(P.stops==[])=true:=by kernel_rfl
theorem kn:(c.knobs==[])=true:=by kernel_rfl
theorem sk:(P.stopKnobs==[])=true:=by kernel_rfl
theorem ip:(c.inPlace==P.inPlace 11)=true:=by kernel_rfl
theorem uf:(c.unfollowed==P.unfollowed 11)=true:=by kernel_rfl
theorem rc:(c.recurses==P.recurses 11)=true:=by kernel_rfl
theorem vn:(c.named==P.varsNamed 11)=true:=by kernel_rfl
theorem mp:(c.maps==(fn.params.toList++s.plain.varTypes P).any (P.mapsRec ·))=true:=by kernel_rfl
theorem ic:(c.ifaces==(fn.params.toList++s.plain.varTypes P).any (P.ifacesRec ·))=true:=by kernel_rfl
theorem mo:(c.mapsOut==P.mapsAmong fn.resultTypes.toList)=true:=by kernel_rfl
theorem lp:(c.loops==(fn.params.toList++s.plain.varTypes P).any (P.loopsFrom ·))=true:=by kernel_rfl
theorem wk:(c.wideKeys==(fn.params.toList++s.plain.varTypes P++fn.resultTypes.toList).any (P.wideKeysFrom ·))=true:=by kernel_rfl
theorem vr:s.vars.all (P.varReadable ·)=true:=by kernel_rfl
theorem rt:fn.resultTypes.all (fun t=>P.readableRec t&&decide (t<P.types.size))=true:=by kernel_rfl
theorem io:(c.ifacesOut==fn.resultTypes.toList.any (P.ifacesRec ·))=true:=by kernel_rfl
theorem lq:(c.loopsOut==fn.resultTypes.toList.any (P.loopsFrom ·))=true:=by kernel_rfl
theorem pk:(c.plainKeys==P.plainKeys)=true:=by kernel_rfl
theorem sx:c.shortTexts.isNone=true:=by kernel_rfl
theorem sh:P.stopsHeard=true:=by kernel_rfl
theorem me:P.mayEnter=true:=by kernel_rfl
theorem lf:(c.lifted==P.liftsFinal)=true:=by kernel_rfl
theorem mk:(P.make==some c.make)=true:=by kernel_rfl
theorem kd:(c.kinds==(if c.domain.isEmpty then [] else fn.params.toList.map fun t=>match P.underlying t with |some (.int k)=>some k |_=>none))=true:=by kernel_rfl
theorem pb:(c.pinned==c.pinnedBy)=true:=by kernel_rfl
theorem vl:(c.veiled==(fn.params.toList++s.plain.varTypes P++fn.resultTypes.toList).any (P.veiledRec ·))=true:=by kernel_rfl
theorem vf:c.veiledFits P fn.params.toList (fn.params.toList++s.plain.varTypes P++fn.resultTypes.toList)=true:=by kernel_rfl
theorem closed:joinedFacts Tryz.pinned.checked.prog 11 Tryz.f11 Rows.sheetRightSpec Rows.sheetRightRow=true:=by
 unfold joinedFacts;exact and_mk (and_mk (and_mk (and_mk (and_mk (and_mk (and_mk (and_mk (and_mk (and_mk (and_mk (and_mk (and_mk (and_mk (and_mk (and_mk (and_mk (and_mk (and_mk (and_mk (and_mk (and_mk (and_mk (and_mk (and_mk (and_mk (and_mk (and_mk (and_mk (and_mk (and_mk wf lo) mr) rr) nt) st) ps) kn) sk) ip) uf) rc) vn) mp) ic) mo) lp) wk) vr) rt) io) lq) pk) sx) sh) me) lf) mk) kd) pb) vl) vf
theorem main:Tryz.pinned.checked.prog.mainIs=some (true, "0c8e1e1daa64a09c5af80fb3260cf5d3fd6d2444d9c270209e8fa862cad925e7".toList):=by kernel_rfl
theorem goes:false=Rows.sheetRightRow.goesBy Tryz.pinned.checked.prog:=by kernel_rfl
end Go.Proofs.YtjihhflffkoffaaGreatDoor.Facts
