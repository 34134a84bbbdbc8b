/- Proves Rows.NamesGrowCardSaid: octavo/octavolaw11.NamesGrow returns true at every input and its arguments read afterwards as before; no condition of mine beyond what the row lists. -/
import Derived.Test.YtjihhflffkoffaaGreatDoorG11
import Derived.Test.YtjihhflffkoffaaGreatDoorLe
import Derived.Test.YtjihhflffkoffaaGreatDoorZ1
import Derived.Test.YtjihhflffkoffaaGreatDoorFct
import Derived.Test.YtjihhflffkoffaaGreatDoorTie
import Derived.Test.YtjihhflffkoffaaGreatDoorCards
import Derived.ProofKit
import Derived.OpenShut
import Derived.LaidMore
import Derived.Lay
import Derived.SevenTiedAt
import Derived.Stop.Joined
import Derived.ChangeOld
import Derived.Carry
import Derived.Below
set_option linter.unusedSimpArgs false
set_option linter.unusedVariables false
set_option linter.unusedSectionVars false
set_option linter.unnecessarySimpa false
namespace Go.Proofs.YtjihhflffkoffaaGreatDoor.NamesGrowDone
open Go Go.Lm Go.ChangeShapes Go.WideShapes Go.ChangeAt Go.RowKit Go.Proofs.YtjihhflffkoffaaGreatDoor.Z
theorem covA:coversAll Tryz.prog=true:=by kernel_rfl
theorem own:ownKnob Tryz.prog.godebug=none:=by kernel_rfl
theorem laidOut:laidOutB Tryz.prog=true:=Facts.lo
theorem params:Tryz.f6.params.toList=[36]:=by kernel_rfl
theorem dm_of{W:World}(h:laidMetH Tryz.prog Rows.namesGrowRow.laid W):∃dm:LAddr,ghOf W dm.id dm.ver≠none:=by
 rw [MakeChecks.laidMetH_plain _ _ _ (by kernel_rfl)] at h;obtain ⟨ps,⟨g,t,cs,fuel,p,q,hg,ht,hv,hd,_,_⟩,_⟩:=h;obtain rfl:=Option.some.inj ((show Tryz.prog.globalNamed "unicode/utf8.acceptRanges"=some 2 by kernel_rfl).symm.trans hg);obtain rfl:=Option.some.inj ((show (Tryz.prog.globals[2]?).map (·.type)=some 306 by kernel_rfl).symm.trans ht);obtain ⟨xs,m,_,ex,hl,_,_⟩:=DataW.trod_array Tryz.underlying306 hd;have h1:Tryz.prog.cellsOf 306=32:=by kernel_rfl
 rw [h1] at hl;have h2:=World.var?_cell hg hv 0;have h3:0<cs.size:=by rw [<-Array.length_toList,hl];omega
 rw [Array.getElem?_eq_getElem h3] at h2;exact exists_dm h2
set_option maxRecDepth 100000 in
set_option maxHeartbeats 4000000 in
theorem lifted(os:Os)(started:os.Started)(H:Type)(enc:TypeId×Value->H):
  ReturnsInHanded {} Tryz.checked os 6 .any (fun w args=>(Rows.namesGrowSpec.pre enc Tryz.prog Tryz.f6 Rows.namesGrowRow.domain false w args/\laidMetH Tryz.prog Rows.namesGrowRow.laid w)/\sizedMet enc Tryz.prog Tryz.f6 (OpenSpec.ofChange Rows.namesGrowSpec) false w args)
   (Rows.namesGrowSpec.post enc Tryz.prog Tryz.f6 false true false false):=by
 refine returnsInHanded_of_change_and (C:=Tryz.checked) (X:=fun w _=>laidMetH Tryz.prog Rows.namesGrowRow.laid w) (fun _ _ _ hh h=>h.of_heap hh) own started (by kernel_rfl) Tryz.func6
  (ChangeSpec.witness_shaped (enc:=enc) (C:=Tryz.checked) (os:=os) (X:=fun w _=>laidMetH Tryz.prog Rows.namesGrowRow.laid w) false (World.laidAll Tryz.prog os Rows.namesGrowRow.laid) #[.slice none 0 0] 8 (World.laidAll_os _ _ _)
    (World.shaped_of_ZipB (by kernel_rfl) (by kernel_rfl)) (by kernel_rfl) (by kernel_rfl) (by kernel_rfl)
    (by rw [MakeChecks.laidMetH_plain _ _ _ (by kernel_rfl)];exact laidMet_laidAll _ (by kernel_rfl) (by kernel_rfl))) ?_
 intro W base args ds gs before hval0 hW hc _ hL _;have hval:∀(j:Nat) t v,Tryz.f6.params[j]? =some t->args[j]? =some v->Value.okWide Tryz.prog W .any base t v:=hval0;have hW':=hW;obtain ⟨p,q,hA0,hV,rfl,hfz,hnd⟩:=hW;have hA:DataW.TrodAll enc Tryz.prog W 0 (fun _=>true) true Tryz.f6.params.toList args.toList ds p:=hA0;rw [params] at hA;obtain ⟨v0,vs0,d0,ds0',p0,q0,hargs,rfl,rfl,h0,r0⟩:=trodAll_cons hA;obtain ⟨rfl,rfl,rfl⟩:=trodAll_nil r0;obtain rfl:args=#[v0]:=by cases args;simp_all
 obtain ⟨rfl,rfl⟩:=trodVars_none hV;have k0:=h0;have lt0:∀x∈p0,x.block<W.heap.size:=by obtain ⟨m,hm⟩:=k0;exact DataW.trod_lt m _ _ _ hm
 obtain ⟨dm,hdm⟩:=dm_of hL;obtain ⟨w0,w0',w0'',rfl⟩:=okWide_slice Tryz.underlying36 (hval 0 36 v0 rfl rfl);obtain ⟨x0,e0,hv0,hr0⟩:=arg_cell (H:=H) (enc:=enc) covA hdm (t:=36) (by kernel_rfl) (of_decide_eq_true (by kernel_rfl)) h0 rfl;obtain ⟨a0,l0,q0,xs0,ds0,rfl,hsl0,hq0⟩:=Rep.slice_inv (t:=36) (e:=33) (by kernel_rfl) hr0;clear hA0 hval0;refine (law_true (okC W.heap.size) mix rfl (open_heap hdm) trivial (x:=[_]) (a:=#[_]) (.cons hv0 .nil) ((by obtain ⟨la,hN⟩:=names_atL hsl0 hsl0.lt;exact s6 a0 l0 q0 la _ hN))).mono fun e W' ⟨he,bel⟩=> ?_;subst he;exact ⟨_,rfl,_,_,_,[],_,[],hW',trodAll_mk1 (shut_bool Tryz.underlying4 _),trodAll_mk1 (Below.trod laidOut (by kernel_rfl) (of_decide_eq_true (by kernel_rfl)) k0 bel lt0),rfl,bel.frame _,fun h=>by cases h⟩
theorem holds:Rows.NamesGrowSaid:=
 OpenClaim.holds_of_wide 6 Tryz.f6 rfl rfl rfl rfl rfl rfl rfl ⟨rfl,rfl,rfl,rfl,rfl⟩ rfl rfl rfl rfl rfl (by kernel_rfl) Tryz.func6 Facts.closed
  (of_decide_eq_true (by kernel_rfl)) (by unfold Func.isWrapper;first |(rw [if_pos (by decide +kernel)];kernel_rfl) |(rw [if_neg (by decide +kernel)];exact ⟨rfl,rfl⟩))
  (fun os started H enc _=>lifted os started H enc)
end Go.Proofs.YtjihhflffkoffaaGreatDoor.NamesGrowDone
namespace Go.Proofs.YtjihhflffkoffaaGreatDoor
open Go NamesGrowDone
theorem namesGrowHolds:Rows.NamesGrowCardSaid:=
 Claim7.holds_tied_plain_at .later [] [.data,.pinned] true (true, "0c8e1e1daa64a09c5af80fb3260cf5d3fd6d2444d9c270209e8fa862cad925e7") true holds (fun _ h=>by cases h) (by kernel_rfl) (fun _ h=>by cases h) namesGrow_row_tie rfl ⟨rfl,rfl⟩ Facts.main rfl
  (fun f fn hf hfn=>by
    obtain rfl:f=6:=Option.some.inj ((show Tryz.prog.funcNamed "octavo/octavolaw11.NamesGrow"=some 6 by kernel_rfl).symm.trans hf) |>.symm;obtain rfl:fn=Tryz.f6:=(Option.some.inj (Tryz.func6.symm.trans hfn)).symm;exact ⟨by kernel_rfl,fun j t ht=>by
     have hm:t∈[36]:=by rw [<-params];simpa using Array.mem_of_getElem? ht
     have hall:([36].all fun u=> !Tryz.prog.wantsStandIn u)=true:=by kernel_rfl
     exact (show Tryz.prog.wantsStandIn t=false by simpa using List.all_eq_true.1 hall t hm)⟩)
  Facts.goes
#print axioms namesGrowHolds
end Go.Proofs.YtjihhflffkoffaaGreatDoor
