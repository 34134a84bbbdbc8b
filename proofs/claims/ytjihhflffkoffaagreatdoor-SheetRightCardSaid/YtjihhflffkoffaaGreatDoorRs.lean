/- Proves Rows.SheetRightCardSaid: octavo/octavolaw12.SheetRight returns true at every input and its arguments read afterwards as before; no condition of mine beyond what the row lists. -/
import Derived.Test.YtjihhflffkoffaaGreatDoorG14
import Derived.Test.YtjihhflffkoffaaGreatDoorLe
import Derived.Test.YtjihhflffkoffaaGreatDoorZ1
import Derived.Test.YtjihhflffkoffaaGreatDoorFct
import Derived.Test.YtjihhflffkoffaaGreatDoorTie
import Derived.Test.YtjihhflffkoffaaGreatDoorCards
import Derived.ProofKit
import Derived.OpenShut
import Derived.LaidMore
import Derived.Lay
import Derived.SevenTiedAt
import Derived.Stop.Joined
import Derived.ChangeOld
import Derived.Carry
import Derived.Below
set_option linter.unusedSimpArgs false
set_option linter.unusedVariables false
set_option linter.unusedSectionVars false
set_option linter.unnecessarySimpa false
namespace Go.Proofs.YtjihhflffkoffaaGreatDoor.SheetRightDone
open Go Go.Lm Go.ChangeShapes Go.WideShapes Go.ChangeAt Go.RowKit Go.Proofs.YtjihhflffkoffaaGreatDoor.Z
theorem covA:coversAll Tryz.prog=true:=by kernel_rfl
theorem own:ownKnob Tryz.prog.godebug=none:=by kernel_rfl
theorem laidOut:laidOutB Tryz.prog=true:=Facts.lo
theorem params:Tryz.f11.params.toList=[48,85]:=by kernel_rfl
theorem dm_of{W:World}(h:laidMetH Tryz.prog Rows.sheetRightRow.laid W):∃dm:LAddr,ghOf W dm.id dm.ver≠none:=by
 rw [MakeChecks.laidMetH_plain _ _ _ (by kernel_rfl)] at h;obtain ⟨ps,⟨g,t,cs,fuel,p,q,hg,ht,hv,hd,_,_⟩,_⟩:=h;obtain rfl:=Option.some.inj ((show Tryz.prog.globalNamed "unicode/utf8.acceptRanges"=some 2 by kernel_rfl).symm.trans hg);obtain rfl:=Option.some.inj ((show (Tryz.prog.globals[2]?).map (·.type)=some 306 by kernel_rfl).symm.trans ht);obtain ⟨xs,m,_,ex,hl,_,_⟩:=DataW.trod_array Tryz.underlying306 hd;have h1:Tryz.prog.cellsOf 306=32:=by kernel_rfl
 rw [h1] at hl;have h2:=World.var?_cell hg hv 0;have h3:0<cs.size:=by rw [<-Array.length_toList,hl];omega
 rw [Array.getElem?_eq_getElem h3] at h2;exact exists_dm h2
set_option maxRecDepth 100000 in
set_option maxHeartbeats 4000000 in
theorem lifted(os:Os)(started:os.Started)(H:Type)(enc:TypeId×Value->H):
  ReturnsInHanded {} Tryz.checked os 11 .any (fun w args=>(Rows.sheetRightSpec.pre enc Tryz.prog Tryz.f11 Rows.sheetRightRow.domain false w args/\laidMetH Tryz.prog Rows.sheetRightRow.laid w)/\sizedMet enc Tryz.prog Tryz.f11 (OpenSpec.ofChange Rows.sheetRightSpec) false w args)
   (Rows.sheetRightSpec.post enc Tryz.prog Tryz.f11 false true false false):=by
 refine returnsInHanded_of_change_and (C:=Tryz.checked) (X:=fun w _=>laidMetH Tryz.prog Rows.sheetRightRow.laid w) (fun _ _ _ hh h=>h.of_heap hh) own started (by kernel_rfl) Tryz.func11
  (ChangeSpec.witness_shaped (enc:=enc) (C:=Tryz.checked) (os:=os) (X:=fun w _=>laidMetH Tryz.prog Rows.sheetRightRow.laid w) false (World.laidAll Tryz.prog os Rows.sheetRightRow.laid) #[.agg #[.slice none 0 0,.slice none 0 0,.slice none 0 0],.slice none 0 0] 8 (World.laidAll_os _ _ _)
    (World.shaped_of_ZipB (by kernel_rfl) (by kernel_rfl)) (by kernel_rfl) (by kernel_rfl) (by kernel_rfl)
    (by rw [MakeChecks.laidMetH_plain _ _ _ (by kernel_rfl)];exact laidMet_laidAll _ (by kernel_rfl) (by kernel_rfl))) ?_
 intro W base args ds gs before hval0 hW hc hwt hL _;have hval:∀(j:Nat) t v,Tryz.f11.params[j]? =some t->args[j]? =some v->Value.okWide Tryz.prog W .any base t v:=hval0;have hW':=hW;obtain ⟨p,q,hA0,hV,rfl,hfz,hnd⟩:=hW;have hA:DataW.TrodAll enc Tryz.prog W 0 (fun _=>true) true Tryz.f11.params.toList args.toList ds p:=hA0;rw [params] at hA;obtain ⟨v0,vs0,d0,ds0',p0,q0,hargs,rfl,rfl,h0,r0⟩:=trodAll_cons hA;obtain ⟨v1,vs1,d1,ds1',p1,q1,rfl,rfl,rfl,h1,r1⟩:=trodAll_cons r0;obtain ⟨rfl,rfl,rfl⟩:=trodAll_nil r1;obtain rfl:args=#[v0,v1]:=by cases args;simp_all
 obtain ⟨rfl,rfl⟩:=trodVars_none hV;have k0:=h0;have lt0:∀x∈p0,x.block<W.heap.size:=by obtain ⟨m,hm⟩:=k0;exact DataW.trod_lt m _ _ _ hm
 have k1:=h1;have lt1:∀x∈p1,x.block<W.heap.size:=by obtain ⟨m,hm⟩:=k1;exact DataW.trod_lt m _ _ _ hm
 obtain ⟨dm,hdm⟩:=dm_of hL;have hwm:∀m,m∈DataW.weightsEach Tryz.prog (Tryz.f11.params.toList++Rows.sheetRightSpec.plain.varTypes Tryz.prog) ([d0,d1]++[])->m<=reachBytes:=fun m hm=>by simpa using List.all_eq_true.1 hwt m hm
 rw [params] at hwm;have hw0:∀m∈d0.weights Tryz.prog 48,m<=reachBytes:=fun m hm=>hwm m (weights_each 0 (t:=48) rfl rfl hm);have hw1:∀m∈d1.weights Tryz.prog 85,m<=reachBytes:=fun m hm=>hwm m (weights_each 1 (t:=85) rfl rfl hm);obtain ⟨cs0,e0,hv0,hr0⟩:=argS_struct (H:=H) (enc:=enc) covA hdm (t:=48) Tryz.underlying48 (of_decide_eq_true (by kernel_rfl)) (hval 0 48 v0 rfl rfl) h0 hw0;have al0_0:=repS_leaves 10 48 [45,36,46] cs0 _ (by kernel_rfl) hr0;obtain ⟨c0_0,t0_0,g0_0,rfl,z0_0,al0_1⟩:=AllRepS.head al0_0;obtain ⟨a0,l0,q0,xs0,ds0,rfl,hsl0,hq0⟩:=RepS.slice_inv (t:=45) (e:=142) (by kernel_rfl) z0_0;obtain ⟨c0_1,t0_1,g0_1,rfl,z0_1,al0_2⟩:=AllRepS.head al0_1;obtain ⟨a1,l1,q1,xs1,ds1,rfl,hsl1,hq1⟩:=RepS.slice_inv (t:=36) (e:=33) (by kernel_rfl) z0_1;obtain ⟨c0_2,t0_2,g0_2,rfl,z0_2,al0_3⟩:=AllRepS.head al0_2;obtain ⟨a2,l2,q2,xs2,ds2,rfl,hsl2,hq2⟩:=RepS.slice_inv (t:=46) (e:=152) (by kernel_rfl) z0_2;obtain rfl:=AllRepS.last al0_3;obtain ⟨w1,w1',w1'',rfl⟩:=okWide_slice Tryz.underlying85 (hval 1 85 v1 rfl rfl);obtain ⟨x1,e1,hv1,hr1⟩:=argS_cell (H:=H) (enc:=enc) covA hdm (t:=85) (by kernel_rfl) (of_decide_eq_true (by kernel_rfl)) h1 hw1 rfl;obtain ⟨a3,l3,q3,xs3,ds3,rfl,hsl3,hq3⟩:=RepS.slice_inv (t:=85) (e:=51) (by kernel_rfl) hr1;obtain ⟨ss,nm,lk,hB⟩:=book_of hsl0 hsl1 hsl2;obtain ⟨ps,hP⟩:=puts_of hsl3;clear hA0 hval0 hwt hwm;refine (law_true (okC W.heap.size) mix rfl (open_heap hdm) trivial (x:=[_,_]) (a:=#[_,_]) (.cons hv0 (.cons hv1 .nil)) (s11 ⟨a0,l0,q0,a1,l1,q1,a2,l2,q2⟩ a3 l3 q3 ss nm lk ps _ hB hP)).mono fun e W' ⟨he,bel⟩=> ?_;subst he;exact ⟨_,rfl,_,_,_,[],_,[],hW',trodAll_mk1 (shut_bool Tryz.underlying4 _),trodAll_cons_mk (Below.trod laidOut (by kernel_rfl) (of_decide_eq_true (by kernel_rfl)) k0 bel lt0) (trodAll_mk1 (Below.trod laidOut (by kernel_rfl) (of_decide_eq_true (by kernel_rfl)) k1 bel lt1)),rfl,bel.frame _,fun h=>by cases h⟩
theorem holds:Rows.SheetRightSaid:=
 OpenClaim.holds_of_wide 11 Tryz.f11 rfl rfl rfl rfl rfl rfl rfl ⟨rfl,rfl,rfl,rfl,rfl⟩ rfl rfl rfl rfl rfl (by kernel_rfl) Tryz.func11 Facts.closed
  (of_decide_eq_true (by kernel_rfl)) (by unfold Func.isWrapper;first |(rw [if_pos (by decide +kernel)];kernel_rfl) |(rw [if_neg (by decide +kernel)];exact ⟨rfl,rfl⟩))
  (fun os started H enc _=>lifted os started H enc)
end Go.Proofs.YtjihhflffkoffaaGreatDoor.SheetRightDone
namespace Go.Proofs.YtjihhflffkoffaaGreatDoor
open Go SheetRightDone
theorem sheetRightHolds:Rows.SheetRightCardSaid:=
 Claim7.holds_tied_plain_at .later [] [.data,.pinned] true (true, "0c8e1e1daa64a09c5af80fb3260cf5d3fd6d2444d9c270209e8fa862cad925e7") true holds (fun _ h=>by cases h) (by kernel_rfl) (fun _ h=>by cases h) sheetRight_row_tie rfl ⟨rfl,rfl⟩ Facts.main rfl
  (fun f fn hf hfn=>by
    obtain rfl:f=11:=Option.some.inj ((show Tryz.prog.funcNamed "octavo/octavolaw12.SheetRight"=some 11 by kernel_rfl).symm.trans hf) |>.symm;obtain rfl:fn=Tryz.f11:=(Option.some.inj (Tryz.func11.symm.trans hfn)).symm;exact ⟨by kernel_rfl,fun j t ht=>by
     have hm:t∈[48,85]:=by rw [<-params];simpa using Array.mem_of_getElem? ht
     have hall:([48,85].all fun u=> !Tryz.prog.wantsStandIn u)=true:=by kernel_rfl
     exact (show Tryz.prog.wantsStandIn t=false by simpa using List.all_eq_true.1 hall t hm)⟩)
  Facts.goes
#print axioms sheetRightHolds
end Go.Proofs.YtjihhflffkoffaaGreatDoor
