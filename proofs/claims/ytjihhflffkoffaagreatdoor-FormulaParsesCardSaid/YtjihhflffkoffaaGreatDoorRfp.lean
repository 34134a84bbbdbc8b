/- Proves Rows.FormulaParsesCardSaid: octavo/octavolaw10.FormulaParses returns true at every input and its arguments read afterwards as before; no condition of mine beyond what the row lists. -/
import Derived.Test.YtjihhflffkoffaaGreatDoorG13
import Derived.Test.YtjihhflffkoffaaGreatDoorLe
import Derived.Test.YtjihhflffkoffaaGreatDoorZ1
import Derived.Test.YtjihhflffkoffaaGreatDoorFct
import Derived.Test.YtjihhflffkoffaaGreatDoorTie
import Derived.Test.YtjihhflffkoffaaGreatDoorCards
import Derived.ProofKit
import Derived.OpenShut
import Derived.LaidMore
import Derived.Lay
import Derived.SevenTiedAt
import Derived.Stop.Joined
import Derived.ChangeOld
import Derived.Carry
import Derived.Below
set_option linter.unusedSimpArgs false
set_option linter.unusedVariables false
set_option linter.unusedSectionVars false
set_option linter.unnecessarySimpa false
namespace Go.Proofs.YtjihhflffkoffaaGreatDoor.FormulaParsesDone
open Go Go.Lm Go.ChangeShapes Go.WideShapes Go.ChangeAt Go.RowKit Go.Proofs.YtjihhflffkoffaaGreatDoor.Z
theorem own:ownKnob Tryz.prog.godebug=none:=by kernel_rfl
theorem laidOut:laidOutB Tryz.prog=true:=Facts.lo
theorem params:Tryz.f12.params.toList=[9]:=by kernel_rfl
theorem dm_of{W:World}(h:laidMetH Tryz.prog Rows.formulaParsesRow.laid W):∃dm:LAddr,ghOf W dm.id dm.ver≠none:=by
 rw [MakeChecks.laidMetH_plain _ _ _ (by kernel_rfl)] at h
 obtain ⟨ps,⟨g,t,cs,fuel,p,q,hg,ht,hv,hd,_,_⟩,_⟩:=h
 obtain rfl:=Option.some.inj ((show Tryz.prog.globalNamed "unicode/utf8.acceptRanges"=some 2 by kernel_rfl).symm.trans hg)
 obtain rfl:=Option.some.inj ((show (Tryz.prog.globals[2]?).map (·.type)=some 306 by kernel_rfl).symm.trans ht)
 obtain ⟨xs,m,_,ex,hl,_,_⟩:=DataW.trod_array Tryz.underlying306 hd
 have h1:Tryz.prog.cellsOf 306=32:=by kernel_rfl
 rw [h1] at hl
 have h2:=World.var?_cell hg hv 0
 have h3:0<cs.size:=by rw [<-Array.length_toList,hl];omega
 rw [Array.getElem?_eq_getElem h3] at h2
 exact exists_dm h2
set_option maxRecDepth 100000 in
set_option maxHeartbeats 4000000 in
theorem lifted(os:Os)(started:os.Started)(H:Type)(enc:TypeId×Value->H):
  ReturnsInHanded {} Tryz.checked os 12 .any (fun w args=>(Rows.formulaParsesSpec.pre enc Tryz.prog Tryz.f12 Rows.formulaParsesRow.domain false w args/\laidMetH Tryz.prog Rows.formulaParsesRow.laid w)/\sizedMet enc Tryz.prog Tryz.f12 (OpenSpec.ofChange Rows.formulaParsesSpec) false w args)
   (Rows.formulaParsesSpec.post enc Tryz.prog Tryz.f12 false true false false):=by
 refine returnsInHanded_of_change_and (C:=Tryz.checked) (X:=fun w _=>laidMetH Tryz.prog Rows.formulaParsesRow.laid w) (fun _ _ _ hh h=>h.of_heap hh) own started (by kernel_rfl) Tryz.func12
  (ChangeSpec.witness_shaped (enc:=enc) (C:=Tryz.checked) (os:=os) (X:=fun w _=>laidMetH Tryz.prog Rows.formulaParsesRow.laid w) false (World.laidAll Tryz.prog os Rows.formulaParsesRow.laid) #[.string ByteArray.empty] 8 (World.laidAll_os _ _ _)
    (World.shaped_of_ZipB (by kernel_rfl) (by kernel_rfl)) (by kernel_rfl) (by kernel_rfl) (by kernel_rfl)
    (by rw [MakeChecks.laidMetH_plain _ _ _ (by kernel_rfl)];exact laidMet_laidAll _ (by kernel_rfl) (by kernel_rfl))) ?_
 intro W base args ds gs before hval0 hW hc _ hL _
 have hval:∀(j:Nat) t v,Tryz.f12.params[j]? =some t->args[j]? =some v->Value.okWide Tryz.prog W .any base t v:=hval0
 have hW':=hW
 obtain ⟨p,q,hA0,hV,rfl,hfz,hnd⟩:=hW
 have hA:DataW.TrodAll enc Tryz.prog W 0 (fun _=>true) true Tryz.f12.params.toList args.toList ds p:=hA0
 rw [params] at hA
 obtain ⟨v0,vs0,d0,ds0',p0,q0,hargs,rfl,rfl,h0,r0⟩:=trodAll_cons hA
 obtain ⟨rfl,rfl,rfl⟩:=trodAll_nil r0
 obtain rfl:args=#[v0]:=by cases args;simp_all
 obtain ⟨rfl,rfl⟩:=trodVars_none hV
 have k0:=h0
 have lt0:∀x∈p0,x.block<W.heap.size:=by obtain ⟨m,hm⟩:=k0;exact DataW.trod_lt m _ _ _ hm
 obtain ⟨dm,hdm⟩:=dm_of hL
 obtain ⟨w0,rfl⟩:=okWide_string Tryz.underlying9 (hval 0 9 v0 rfl rfl)
 obtain ⟨x0,e0,hv0,hr0⟩:=arg_cell (H:=H) (enc:=enc) covA hdm (t:=9) (by kernel_rfl) (of_decide_eq_true (by kernel_rfl)) h0 rfl
 obtain ⟨s0,rfl,hs0⟩:=Rep.str_inv (t:=9) (by kernel_rfl) hr0
 clear hA0 hval0
 refine (law_true (okC W.heap.size) mix rfl (open_heap hdm) trivial (x:=[_]) (a:=#[_]) (.cons hv0 .nil) ((s12 s0 _))).mono fun e W' ⟨he,bel⟩=> ?_
 subst he
 exact ⟨_,rfl,_,_,_,[],_,[],hW',trodAll_mk1 (shut_bool Tryz.underlying4 _),trodAll_mk1 (Below.trod laidOut (by kernel_rfl) (of_decide_eq_true (by kernel_rfl)) k0 bel lt0),rfl,bel.frame _,fun h=>by cases h⟩
theorem holds:Rows.FormulaParsesSaid:=
 OpenClaim.holds_of_wide 12 Tryz.f12 rfl rfl rfl rfl rfl rfl rfl ⟨rfl,rfl,rfl,rfl,rfl⟩ rfl rfl rfl rfl rfl (by kernel_rfl) Tryz.func12 Facts.closed
  (of_decide_eq_true (by kernel_rfl)) (by unfold Func.isWrapper;first |(rw [if_pos (by decide +kernel)];kernel_rfl) |(rw [if_neg (by decide +kernel)];exact ⟨rfl,rfl⟩))
  (fun os started H enc _=>lifted os started H enc)
end Go.Proofs.YtjihhflffkoffaaGreatDoor.FormulaParsesDone
namespace Go.Proofs.YtjihhflffkoffaaGreatDoor
open Go FormulaParsesDone
theorem formulaParsesHolds:Rows.FormulaParsesCardSaid:=
 Claim7.holds_tied_plain_at .later [] [.data,.pinned] true (true, "0c8e1e1daa64a09c5af80fb3260cf5d3fd6d2444d9c270209e8fa862cad925e7") true holds (fun _ h=>by cases h) (by kernel_rfl) (fun _ h=>by cases h) formulaParses_row_tie rfl ⟨rfl,rfl⟩ Facts.main rfl
  (fun f fn hf hfn=>by
    obtain rfl:f=12:=Option.some.inj ((show Tryz.prog.funcNamed "octavo/octavolaw10.FormulaParses"=some 12 by kernel_rfl).symm.trans hf) |>.symm
    obtain rfl:fn=Tryz.f12:=(Option.some.inj (Tryz.func12.symm.trans hfn)).symm
    exact ⟨by kernel_rfl,fun j t ht=>by
     have hm:t∈[9]:=by rw [<-params];simpa using Array.mem_of_getElem? ht
     have hall:([9].all fun u=> !Tryz.prog.wantsStandIn u)=true:=by kernel_rfl
     exact (show Tryz.prog.wantsStandIn t=false by simpa using List.all_eq_true.1 hall t hm)⟩)
  Facts.goes
#print axioms formulaParsesHolds
end Go.Proofs.YtjihhflffkoffaaGreatDoor
