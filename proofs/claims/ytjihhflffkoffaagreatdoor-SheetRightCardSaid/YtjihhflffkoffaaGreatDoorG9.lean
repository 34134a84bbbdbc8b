/- Contracts of functions of the program; no condition. -/
import Derived.Test.YtjihhflffkoffaaGreatDoorG8
import Derived.Test.YtjihhflffkoffaaGreatDoorG0
import Derived.Test.YtjihhflffkoffaaGreatDoorLe
import Derived.Test.YtjihhflffkoffaaGreatDoorG4
import Derived.Test.YtjihhflffkoffaaGreatDoorG5
set_option linter.unusedSimpArgs false
set_option linter.unusedVariables false
set_option linter.unusedSectionVars false
set_option linter.unnecessarySimpa false
namespace Go.Proofs.YtjihhflffkoffaaGreatDoor.Z
open Go Go.Lm
set_option maxRecDepth 1000000
set_option maxHeartbeats 0
theorem tok_inj{x y:TokC}(h:x.lv=y.lv):x=y:=by
 cases x;cases y;simp only [TokC.lv,TokC.cs,LV.agg.injEq,List.cons.injEq,LV.int.injEq,LV.str.injEq,LV.bool.injEq,true_and,and_true] at h;obtain ⟨h1,h2,h3,h4,h5,h6,h7,h8,h9⟩:=h;subst h1 h2 h3 h4 h5 h6 h7 h8 h9;rfl
def refOfT(t:TokC):RefC:=⟨t.refBook,t.refSheet,t.refRow,t.refCol,t.refFixRow,t.refFixCol⟩
def NodeS(i:Nat)(q:PQ)(H:LHeap):LV->LHeap->Prop:=fun v H'=>∃nd r,PR q (some ([bareN nd],r))/\v=nd.root.lv/\NdAt H' nd/\NdIds (H.next<=·) nd/\PSlot i r H H'
theorem pslot_sh{i:Nat}{r:List TokC}{H H':LHeap}(h:PSlot i r H H'):PresX (i::[]) H H'/\∃cs,hasSh (.agg [.slice]) (.agg cs)/\List.length cs=1/\H'.get i=some (Slot.obj ⟨i,cs,171⟩):=by
 obtain ⟨p,a,k,q,hg,_⟩:=h;exact ⟨p,_,⟨_,_,_,rfl⟩,rfl,hg⟩
theorem nodeS_sh{i:Nat}{q:PQ}{H:LHeap}(v:LV)(H':LHeap)(h:NodeS i q H v H'):PresX (i::[]) H H'/\hasSh (.cust NdC NdC.lv) v/\∃cs,hasSh (.agg [.slice]) (.agg cs)/\List.length cs=1/\H'.get i=some (Slot.obj ⟨i,cs,171⟩):=by
 obtain ⟨nd,r,_,rfl,_,_,hp⟩:=h;obtain ⟨h1,h2⟩:=pslot_sh hp;exact ⟨h1,⟨nd.root,rfl⟩,h2⟩
theorem panS_sh{i:Nat}{P:Prop}{H:LHeap}(v:LV)(H':LHeap)(h:PanT i P H v H'):PresX (i::[]) H H'/\∃cs,List.length cs=1/\H'.get i=some (Slot.obj ⟨i,cs,171⟩):=⟨h.2.2.1,h.2.2.2⟩
theorem isS_sh{i:Nat}{s:List UInt8}{ts:List TokC}{H:LHeap}(v:LV)(H':LHeap)(h:IsS i s ts H v H'):PresX [i] H H'/\hasSh .bool v/\∃cs,hasSh (.agg [.slice]) (.agg cs)/\List.length cs=1/\H'.get i=some (Slot.obj ⟨i,cs,171⟩):=by
 obtain ⟨b,r,rfl,hp,_⟩:=h;obtain ⟨h1,h2⟩:=pslot_sh hp;exact ⟨h1,⟨_,rfl⟩,h2⟩
theorem pslot_at{i:Nat}{r:List TokC}{H H':LHeap}(h:PSlot i r H H'){a:Option LAddr}{k:Nat}{q:Cap}(hg:H'.get i=some (Slot.obj (Slot.mk i [.slice a k q] 171))):TokAt H' i 124 a k q r:=by
 obtain ⟨p,a',k',q',hg',hT⟩:=h;rw [hg'] at hg;simp only [Slot.obj,Option.some.injEq,LObj.cells.injEq,List.cons.injEq,LV.slice.injEq,and_true] at hg;obtain ⟨⟨rfl,rfl,rfl⟩,_⟩:=hg;exact hT
theorem inv_one{X:List Nat}{H0 H:LHeap}{i:Nat}{cs:List LV}{e:TypeId}{l:List Slot}(h:Inv X H0 (⟨i,cs,e⟩::l) H):Inv [i] H [⟨i,cs,e⟩] H:=
 ⟨.refl _ _,fun k s hs=>by
  match k,hs with
  |0,hs=>
   simp only [nth,Option.some.injEq] at hs;subst hs;obtain ⟨h1,h2,_⟩:=h.slot 0 _ rfl;exact ⟨h1,h2,.inl List.mem_cons_self⟩
  |k+1,hs=>simp [nth] at hs,fun j k s t hs ht hne=>by
  match j,k,hs,ht with
  |0,0,_,_=>exact absurd rfl hne
  |j+1,_,hs,_=>simp [nth] at hs
  |_,k+1,_,ht=>simp [nth] at ht⟩
theorem TokAt.via{H H1 H2:LHeap}{i:Nat}{ty:TypeId}{a:Option LAddr}{k:Nat}{q:Cap}{ts:List TokC}(h:TokAt H1 i ty a k q ts)(p:PresX [i] H H1)(p2:PresX [i] H H2)(hi:i<H.next):TokAt H2 i ty a k q ts:=
 ⟨h.len,h.small,h.cap,fun j x hx=>by
  obtain ⟨h1,h2,h3,h4,h5⟩:=h.tok j x hx;have hj:(adr a).id∉[i]:=by simp;omega
  refine ⟨h1,by have:=p2.next;omega,h3,h4,?_⟩;rw [<-h5];exact loadT_congr (((p2.keep _ (by omega) hj).get).trans ((p.keep _ (by omega) hj).get).symm)⟩
theorem ge_one{i:Nat}:∀y∈[i],i<=y:=fun y hy=>by rw [List.mem_singleton.1 hy];exact Nat.le_refl _
def AloneS(i:Nat)(o:Res)(H:LHeap):LV->LHeap->Prop:=fun v H'=>∃(x:NdC) (r:List TokC),o=some ([.mk x []],r)/\v=x.lv/\x.argsL=0/\PSlot i r H H'
theorem s299(i:Nat)(t:TokC)(ts:List TokC)(a:Option LAddr)(k:Nat)(q:Cap)(H:LHeap)(hI:Inv [i] H [⟨i,[.slice a k q],171⟩] H)(hT:TokAt H i 124 a k q ts):
  CallP cfg 299 [.ptr (some ⟨i,1,0⟩),(refOfT t).lv] H (AloneS i (areaM t ts) H) (PanT i (areaM t ts=none) H):=by
 refine e299p _ _ a k q (refOfT t) i H hI fun i0 H1 l0 p1 i2 H3 l2 p3 hI3=>⟨_,s266 i [58] ts a k q H3 (inv_one hI3) (hT.on hI3.pres ge_one),isS_sh,fun b5 a6 l7 c8 H9 hS g9=> ?_⟩;obtain ⟨b,r,e,hp,hb⟩:=hS;cases e;have hT9:=pslot_at hp g9;have hi:i<H.next:=(hI.slot 0 _ rfl).1;have p9:PresX [i] H H9:=hI3.pres.trans hp.1 (fun y h=>.inl h);refine ⟨fun h H10 p10 hI10=> ?_,fun h hI9=>⟨_,_,[],s206 i r a6 l7 c8 H9 (inv_one hI9) hT9,fun v H' hS=> ?_,(by simp),panS_sh,fun v H' cs hS hI'=> ?_,fun x12 a13 l14 c15 H16 hS g16 i17 H18 l17 p18 H19 p19=> ?_⟩⟩
 ·rcases hb with ⟨rfl,hb⟩ |⟨rfl,hb,rfl⟩
  ·cases h
  ·refine ⟨refNp t,r,?_,rfl,rfl,hI10.pres,_,_,_,slot_i hI10,hT9.via p9 hI10.pres hi⟩
   ·unfold areaM;rw [hb]
 ·obtain ⟨t',r',_,rfl,_,hp'⟩:=hS;obtain ⟨h1,h2⟩:=pslot_sh hp';exact ⟨h1,⟨t',rfl⟩,h2⟩
 ·rcases hb with ⟨rfl,hb⟩ |⟨rfl,hb,rfl⟩
  ·refine ⟨hS.1,?_,hI'.pres,cs,?_,slot_i hI'⟩
   ·unfold areaM;rw [hb,hS.2.1]
   ·obtain ⟨cs',hl,hg⟩:=hS.2.2.2;have:=slot_i hI';rw [this] at hg;simp only [Slot.obj,Option.some.injEq,LObj.cells.injEq] at hg;rw [hg.1];exact hl
  ·cases h
 ·rcases hb with ⟨rfl,hb⟩ |⟨rfl,hb,rfl⟩
  ·obtain ⟨u,r',rfl,e,hok,hp'⟩:=hS;have hu:=tok_inj e;subst hu;have hT16:=pslot_at hp' g16;have p16:PresX [i] H H16:=p9.trans hp'.1 (fun y h=>.inl h);have har:areaM t ts=if x12.kind≠3\/x12.refSheet≠[] then none else some ([.mk (areaNp t x12) []],r'):=by unfold areaM;rw [hb]
   refine ⟨fun h hI19=>⟨rfl,?_,hI19.pres,_,rfl,slot_i hI19⟩,fun h=>⟨fun h' hI19=>⟨rfl,?_,hI19.pres,_,rfl,slot_i hI19⟩,fun h' H20 p20 hI20=>⟨areaNp t x12,r',?_,rfl,rfl,hI20.pres,_,_,_,slot_i hI20,hT16.via p16 hI20.pres hi⟩⟩⟩
   ·rw [har,if_pos (.inl (by simpa using h))]
   ·rw [har,if_pos (.inr (by simpa using h'))]
   ·rw [har,if_neg (by simp at h h';simp [h,h'])]
  ·cases h
theorem node_new{H H1:LHeap}{ms:List Nd}{x:NdC}(hH:H1=H.push (.cells (cellsOf ms) 72 (ms.length*18) (ms.length*18) .none false true))(hm:∀m∈ms,NdAt H m)
  (hx:x.argsA=some ⟨H.next,ms.length*18,0⟩) (hL:x.argsL=ms.length) (hs:ms.length<=1000):NdAt H1 (.mk x ms)/\PresX [] H H1:=by
 have p:PresX [] H H1:=by rw [hH];exact .push _ _ _
 refine ⟨?_,p⟩;unfold NdAt;refine ⟨hL.symm,by rw [hL];exact Nat.le_trans hs (by decide),?_⟩;rw [hx];have hc:allCells (cellsOf ms)=true:=by
  clear hm hx hL hs hH p;induction ms with
  |nil=>rfl
  |cons m ms ih=>rw [cellsOf];exact allCells_app (ndc_cells _) ih
 refine nds_row (q:=.exact ms.length) ms (.full _ _ _ (by rw [hH];exact Nat.lt_succ_self _) ?_ (cellsOf_len ms) hc) (fun m hm'=>NdAt.on p (hm m hm')) ms 0 (fun j n hj=>by rwa [Nat.zero_add]);unfold loadN;rw [hH,LHeap.get_push,if_pos rfl];simp only [Nat.le_refl,Nat.ble_eq,Nat.zero_add,Bool.and_self,decide_true,if_true,Bool.and_eq_true,and_self,dropN];rw [takeN_of _ _ (by rw [cellsOf_len];exact Nat.le_refl _),List.take_of_length_le (by rw [cellsOf_len];exact Nat.le_refl _)]
theorem pctM_some{ts r:List TokC}(h:opM [37] ts=some r)(n:Nd):pctM n ts=pctM (unNp [37] n) r:=by
 cases ts with
 |nil=>cases h
 |cons t l=>
  rw [opM_cons] at h;split at h
  ·rename_i hc;cases h;rw [pctM,if_pos hc]
  ·cases h
theorem pctM_none{ts:List TokC}(h:opM [37] ts=none)(n:Nd):pctM n ts=(n,ts):=by
 cases ts with
 |nil=>rfl
 |cons t l=>
  rw [opM_cons] at h;split at h
  ·cases h
  ·rename_i hc;rw [pctM,if_neg hc]
def PctS(i:Nat)(nd:Nd)(ts:List TokC)(H0:LHeap):LV->LHeap->Prop:=fun v H'=>∃nd',bareN nd'=(pctM (bareN nd) ts).1/\v=nd'.root.lv/\NdAt H' nd'/\NdIds (H0.next<=·) nd'/\PSlot i (pctM (bareN nd) ts).2 H0 H'
theorem loop205(i:Nat)(H0:LHeap)(hi:i<H0.next)(R Pn:LV->LHeap->Prop)(i4:Nat)(x5:NdC)(i6:Nat)(h4:H0.next<=i4)(h6:H0.next<=i6):∀(n:Nat) (ts:List TokC) (nd:Nd) (d:Nat->LV) (a:Option LAddr) (k:Nat) (q:Cap) (H:LHeap),ts.length<n->TokAt H i 124 a k q ts->NdAt H nd->
  NdIds (fun j=>H0.next<=j/\j≠i4/\j≠i6) nd->(∀v H',PctS i nd ts H0 v H'->R v H')->
  GoesG cfg (gP 205 R Pn) [i] H0 [⟨i,[.slice a k q],171⟩,⟨i4,x5.cs,72⟩,⟨i6,nd.root.cs,72⟩] (L205p_0 d) (loopAt cfg 205 0) H
 |0,_,_,_,_,_,_,_,h,_,_,_,_=>by omega
 |n+1,ts,nd,d,a,k,q,H,hn,hT,hN,hD,hR=>by
  intro hin hI;refine g205p_0 _ _ H0 d i a k q i4 x5 i6 nd.root H (fun hI8=>⟨_,s266 i [37] ts a k q H (inv_one hI8) hT,isS_sh,fun b9 a10 l11 c12 H13 hS g13=> ?_⟩) hin hI;obtain ⟨b,r,e,hp,hb⟩:=hS;cases e;have hT13:=pslot_at hp g13;have p13:PresX [i] H0 H13:=hI.pres.trans hp.1 (fun y h=>.inl h);have n13:=hp.1.next;have l4:=(hI.slot 1 _ rfl).1;have l6:=(hI.slot 2 _ rfl).1;simp only at l4 l6;have hN13:NdAt H13 nd:=NdAt.onY hp.1 (NdIds.mono (fun j hj hm=>by have:=List.mem_singleton.1 hm;omega) hD) hN;refine ⟨fun h H14 e14 H15 p15 d16=> ?_,fun h H17 p17 hI17=> ?_⟩
  ·rcases hb with ⟨rfl,hb⟩ |⟨rfl,hb,rfl⟩
   ·have hnew:=node_new (H:=H13) (H1:=H14) (ms:=[nd]) (x:={ nilNp with kind:=5,s:=[37],argsA:=some ⟨H13.next,18,0⟩,argsL:=1,argsQ:=.exact 1 }) (by rw [e14];simp [cellsOf]) (fun m hm=>by rw [List.mem_singleton.1 hm];exact hN13) rfl rfl (by simp);have hDn:NdIds (fun j=>H0.next<=j/\j≠i4/\j≠i6) (.mk { nilNp with kind:=5,s:=[37],argsA:=some ⟨H13.next,18,0⟩,argsL:=1,argsQ:=.exact 1 } [nd]):=by
     unfold NdIds NdsIds NdsIds;have:=p13.next;exact ⟨.inr ⟨this,by simp only [adr];omega,by simp only [adr];omega⟩,hD,trivial⟩
    refine loop205 i H0 hi R Pn i4 x5 i6 h4 h6 n r (.mk { nilNp with kind:=5,s:=[37],argsA:=some ⟨H13.next,18,0⟩,argsL:=1,argsQ:=.exact 1 } [nd]) d16 a10 l11 c12 H15 (by have:=opM_len hb;omega)
     (hT13.via p13 ((p13.trans0 hnew.2).trans p15 (fun y hy=>.inr (by rw [List.mem_singleton.1 hy];exact h6))) hi) (NdAt.onY p15 (NdIds.mono (fun j hj hm=>hj.2.2 (List.mem_singleton.1 hm)) hDn) hnew.1) hDn ?_
    have e:PctS i (.mk { nilNp with kind:=5,s:=[37],argsA:=some ⟨H13.next,18,0⟩,argsL:=1,argsQ:=.exact 1 } [nd]) r H0=PctS i nd ts H0:=by
     unfold PctS;rw [pctM_some hb];rfl
    rw [e];exact hR
   ·cases h
  ·rcases hb with ⟨rfl,hb⟩ |⟨rfl,hb,rfl⟩
   ·cases h
   ·refine hR _ _ ?_;unfold PctS;rw [pctM_none hb];exact ⟨nd,rfl,rfl,NdAt.onY p17 (NdIds.mono (fun j hj hm=>hj.2.1 (List.mem_singleton.1 hm)) hD) hN13,NdIds.mono (fun j hj=>hj.1) hD,hI17.pres,_,_,_,slot_i hI17,hT13.via p13 hI17.pres hi⟩
def LevelC(ts:List TokC):Prop:=∀(i:Nat) (b:Int) (a:Option LAddr) (k:Nat) (q:Cap) (H:LHeap),1<=b->b<=6->Inv [i] H [⟨i,[.slice a k q],171⟩] H->TokAt H i 124 a k q ts->
 CallP cfg 115 [.ptr (some ⟨i,1,0⟩),.int .i64 b] H (NodeS i (.level b ts) H) (PanT i (PR (.level b ts) none) H)
def AheadC(ts:List TokC):Prop:=∀(i:Nat) (a:Option LAddr) (k:Nat) (q:Cap) (H:LHeap),Inv [i] H [⟨i,[.slice a k q],171⟩] H->TokAt H i 124 a k q ts->
 CallP cfg 205 [.ptr (some ⟨i,1,0⟩)] H (NodeS i (.ahead ts) H) (PanT i (PR (.ahead ts) none) H)
def AtomC(ts:List TokC):Prop:=∀(i:Nat) (a:Option LAddr) (k:Nat) (q:Cap) (H:LHeap),Inv [i] H [⟨i,[.slice a k q],171⟩] H->TokAt H i 124 a k q ts->
 CallP cfg 267 [.ptr (some ⟨i,1,0⟩)] H (NodeS i (.atom ts) H) (PanT i (PR (.atom ts) none) H)
theorem pan_up{i:Nat}{P Q:Prop}(hPQ:P->Q){X:List Nat}{H9 H0 H':LHeap}{v:LV}{cs:List LV}{l:List Slot}(h:PanT i P H9 v H')(hI:Inv [i] H0 (⟨i,cs,171⟩::l) H'):PanT i Q H0 v H':=by
 obtain ⟨h1,h2,h3,cs',hl,hg⟩:=h;exact ⟨h1,hPQ h2,hI.pres,cs',hl,hg⟩
theorem ahead_of(ts:List TokC)(hA:AtomC ts)(hR:∀r,r.length<ts.length->AheadC r):AheadC ts:=by
 intro i a k q H hI hT;have hi:i<H.next:=(hI.slot 0 _ rfl).1;refine e205p _ _ a k q i H hI fun i0 H1 l0 p1 hI1=>⟨_,s266 i [45] ts a k q H1 (inv_one hI1) (hT.on hI1.pres ge_one),isS_sh,fun b3 a4 l5 c6 H7 hS g7=> ?_⟩;obtain ⟨b,r,e,hp,hb⟩:=hS;cases e;have hT7:=pslot_at hp g7;have p7:PresX [i] H H7:=hI1.pres.trans hp.1 (fun y h=>.inl h);have l0':i0<H1.next:=(hI1.slot 1 _ rfl).1;have n7:=hp.1.next;refine ⟨fun h hI7=> ?_,fun h hI7=> ?_⟩
 ·rcases hb with ⟨rfl,hb⟩ |⟨rfl,hb,rfl⟩
  ·refine ⟨_,_,[],hR r (by have:=opM_len hb;omega) i a4 l5 c6 H7 (inv_one hI7) hT7,nodeS_sh,(by simp),panS_sh,fun v H' cs hS hI'=>pan_up (X:=[]) (fun h=>.minus0 hb h) hS hI',fun x9 a10 l11 c12 H13 hS g13 H14 e14 H15 p15 hI15=> ?_⟩;obtain ⟨nd,r',hPR,e,hN,hD,hp'⟩:=hS;obtain rfl:=NdC.lv_inj e;have hT13:=pslot_at hp' g13;have p13:PresX [i] H H13:=p7.trans hp'.1 (fun y h=>.inl h);have n13:=hp'.1.next;have hnew:=node_new (H:=H13) (H1:=H14) (ms:=[nd]) (x:={ nilNp with kind:=5,s:=[45],argsA:=some ⟨H13.next,18,0⟩,argsL:=1,argsQ:=.exact 1 }) (by rw [e14];simp [cellsOf]) (fun m hm=>by rw [List.mem_singleton.1 hm];exact hN) rfl rfl (by simp);have hDn:NdIds (fun j=>H7.next<=j) (.mk { nilNp with kind:=5,s:=[45],argsA:=some ⟨H13.next,18,0⟩,argsL:=1,argsQ:=.exact 1 } [nd]):=by
    unfold NdIds NdsIds NdsIds;exact ⟨.inr n13,hD,trivial⟩
   refine ⟨.mk { nilNp with kind:=5,s:=[45],argsA:=some ⟨H13.next,18,0⟩,argsL:=1,argsQ:=.exact 1 } [nd],r',.minus hb hPR,rfl,NdAt.onY p15 (NdIds.mono (fun j hj hm=>by have:=List.mem_singleton.1 hm;omega) hDn) hnew.1,NdIds.mono (fun j hj=>by have:=p7.next;omega) hDn,hI15.pres,_,_,_,slot_i hI15,hT13.via p13 hI15.pres hi⟩
  ·cases h
 ·rcases hb with ⟨rfl,hb⟩ |⟨rfl,hb,rfl⟩
  ·cases h
  ·refine ⟨_,_,[],hA i a4 l5 c6 H7 (inv_one hI7) hT7,nodeS_sh,(by simp),panS_sh,fun v H' cs hS hI'=>pan_up (X:=[]) (fun h=>.atom0 hb h) hS hI',fun x17 a18 l19 c20 H21 hS g21 i22 H23 l22 p23 H24 p24 d25=> ?_⟩;obtain ⟨nd,r',hPR,e,hN,hD,hp'⟩:=hS;obtain rfl:=NdC.lv_inj e;have hT21:=pslot_at hp' g21;have p21:PresX [i] H H21:=p7.trans hp'.1 (fun y h=>.inl h);have n21:=hp'.1.next;have n23:=p23.next;have hN24:NdAt H24 nd:=NdAt.onY p24 (NdIds.mono (fun j hj hm=>by have:=List.mem_singleton.1 hm;omega) (NdAt.ids hN)) (NdAt.on p23 hN);refine loop205 i H hi _ _ i0 ⟨0,[],0,0,[],[],[],0,0,false,false,[],[],0,0,false,false,none,0,.exact 0⟩ i22 (by omega) (by have:=p21.next;omega) (r'.length+1) r' nd d25 a18 l19 c20 H24 (by omega)
    (hT21.via p21 ((p21.trans0 p23).trans p24 (fun y hy=>.inr (by rw [List.mem_singleton.1 hy];have:=p21.next;omega))) hi) hN24 (NdIds.mono (fun j hj=>⟨by have:=p7.next;omega,by omega,by omega⟩) (NdIds.and hD (NdAt.ids hN))) ?_
   rintro v H' ⟨nd',e1,rfl,hN',hD',hp''⟩;refine ⟨nd',_,?_,rfl,hN',hD',hp''⟩;rw [e1];exact .atom hb hPR
theorem nextS_sh{i:Nat}{ts:List TokC}{H:LHeap}(v:LV)(H':LHeap)(hS:∃t r,ts=t::r/\v=t.lv/\TokOK t/\PSlot i r H H'):PresX (i::[]) H H'/\hasSh (.cust TokC TokC.lv) v/\∃cs,hasSh (.agg [.slice]) (.agg cs)/\List.length cs=1/\H'.get i=some (Slot.obj ⟨i,cs,171⟩):=by
 obtain ⟨t',r',_,rfl,_,hp'⟩:=hS;obtain ⟨h1,h2⟩:=pslot_sh hp';exact ⟨h1,⟨t',rfl⟩,h2⟩
theorem loop115(i:Nat)(H0:LHeap)(hi:i<H0.next)(b:Int)(hb1:1<=b)(R Pn:LV->LHeap->Prop)(i5:Nat)(x6:NdC)(i7:Nat)(h5:H0.next<=i5)(h7:H0.next<=i7)(ts0:List TokC)(hL:∀r,r.length<ts0.length->LevelC r):
  ∀(n:Nat) (ts:List TokC) (nd:Nd) (d:Nat->LV) (a:Option LAddr) (k:Nat) (q:Cap) (H:LHeap),ts.length<n->ts.length<=ts0.length->TokAt H i 124 a k q ts->NdAt H nd->
  NdIds (fun j=>H0.next<=j/\j≠i5/\j≠i7) nd->
  (∀nd' r v H',PR (.loop b (bareN nd) ts) (some ([bareN nd'],r))->v=nd'.root.lv->NdAt H' nd'->NdIds (H0.next<=·) nd'->PSlot i r H0 H'->R v H')->
  (PR (.loop b (bareN nd) ts) none->∀v H',PanT i True H0 v H'->Pn v H')->
  GoesG cfg (gP 115 R Pn) [i] H0 [⟨i,[.slice a k q],171⟩,⟨i5,x6.cs,72⟩,⟨i7,nd.root.cs,72⟩] (L115p_0 d b) (loopAt cfg 115 0) H
 |0,_,_,_,_,_,_,_,h,_,_,_,_,_,_=>by omega
 |n+1,ts,nd,d,a,k,q,H,hn,hts,hT,hN,hD,hR,hPn=>by
  intro hin hI;have hl:=hT.len;have l5:=(hI.slot 1 _ rfl).1;have l7:=(hI.slot 2 _ rfl).1;simp only at l5 l7;have stop:stopM b ts->∀(H1 H2:LHeap),PresX [] H H1->PresX [i5] H1 H2->Inv [i] H0 [⟨i,[.slice a k q],171⟩,⟨i5,nd.root.cs,72⟩,⟨i7,nd.root.cs,72⟩] H2->R nd.root.lv H2:=by
   intro hs H1 H2 p1 p2 hI2;exact hR nd ts _ H2 (.stop hs) rfl (NdAt.onY p2 (NdIds.mono (fun j hj hm=>hj.2.1 (List.mem_singleton.1 hm)) hD) (NdAt.on p1 hN)) (NdIds.mono (fun j hj=>hj.1) hD) ⟨hI2.pres,_,_,_,slot_i hI2,hT.via hI.pres hI2.pres hi⟩
  refine g115p_0 _ _ H0 d b i a k q i5 x6 i7 nd.root H ⟨fun h=> ?_,fun h H39 p39 hI39=> ?_⟩ hin hI
  ·match ts,hT,hl with
   |[],hT,hl=>simp [hl] at h
   |t::r,hT,hl=>
    obtain ⟨g1,g2,g3,g4,g5⟩:=hT.tok 0 t rfl;rw [List.length_cons] at hl;have hc:((0:Int)<=(0:Int))/\((0:Int)<((k:Nat):Int))/\(Option.isSome a)=Bool.true:=⟨by omega,by omega,g1⟩;refine ⟨hc,fun hI2=>⟨t.kind,load_field (a:=⟨(adr a).id,(adr a).ver,(adr a).off+0⟩) (k:=0) ag124 sz124 g5 ag3 rfl,fun hk=>⟨hc,fun hI3=>⟨t.s,load_field (a:=⟨(adr a).id,(adr a).ver,(adr a).off+0⟩) (k:=2) ag124 sz124 g5 ag9 rfl,fun hI4=>⟨_,p198 t.s H,Ret.use ⟨_,rfl⟩,fun n16 H17 hS=> ?_⟩⟩⟩,fun hk H38 p38 hI38=> ?_⟩⟩
    ·obtain ⟨e16,p17⟩:=hS;cases e16;have hk5:t.kind=5:=by simpa using hk
     refine ⟨fun h0 H18 p18 hI18=>stop (fun _=>.inl (by simpa using h0)) _ _ p17 p18 hI18,fun h0=>⟨fun hlt H19 p19 hI19=>stop (fun _=>.inr (by simpa using hlt)) _ _ p17 p19 hI19,fun hlt hI17=> ?_⟩⟩;have h0':bindFp t.s≠0:=by simpa using h0
     have hlt':b<=bindFp t.s:=by simpa using hlt
     have hrg:=bindF_range t.s;have hT17:TokAt H17 i 124 a k q (t::r):=hT.on p17 (by simp);refine ⟨_,_,[],s206 i (t::r) a k q H17 (inv_one hI17) hT17,nextS_sh,(by simp),panS_sh,fun v H' cs hS hI'=>(by cases hS.2.1),fun x21 a22 l23 c24 H25 hS g25=>⟨rfl,fun hI25=> ?_⟩⟩;obtain ⟨t',r',e,e2,_,hp⟩:=hS;cases e;have:=tok_inj e2;subst this;have hT25:=pslot_at hp g25;rw [lwrap_small (by omega) (by omega)];refine ⟨_,_,[],hL r (by simp at hts;omega) i (bindFp x21.s+1) a22 l23 c24 H25 (by omega) (by omega) (inv_one hI25) hT25,nodeS_sh,(by simp),panS_sh,fun v H' cs hS hI'=>hPn (.loop0 hk5 h0' hlt' hS.2.1) v H' (pan_up (X:=[]) (fun _=>trivial) hS hI'),fun x28 a29 l30 c31 H32 hS g32 H33 e33=>⟨rfl,fun H35 p35 d37=> ?_⟩⟩;obtain ⟨m,r'',hPR,e,hM,hDm,hp2⟩:=hS;obtain rfl:=NdC.lv_inj e;have hT32:=pslot_at hp2 g32;have n25:=hI25.pres.next;have n1:=p17.next;have n2:=hp.1.next;have n3:=hp2.1.next;have p32:PresX [i] H0 H32:=hI25.pres.trans hp2.1 (fun y h=>.inl h);have hN32:NdAt H32 nd:=NdAt.onY hp2.1 (NdIds.mono (fun j hj hm=>by have:=List.mem_singleton.1 hm;omega) hD) (NdAt.onY hp.1 (NdIds.mono (fun j hj hm=>by have:=List.mem_singleton.1 hm;omega) hD) (NdAt.on p17 hN));have hnew:=node_new (H:=H32) (H1:=H33) (ms:=[nd,m]) (x:={ nilNp with kind:=6,s:=x21.s,argsA:=some ⟨H32.next,36,0⟩,argsL:=2,argsQ:=.exact 2 }) (by rw [e33];rfl)
      (fun m' hm'=>by
        rcases List.mem_cons.1 hm' with rfl |hm'
        ·exact hN32
        ·rw [List.mem_singleton.1 hm'];exact hM) rfl rfl (by simp)
     have hDn:NdIds (fun j=>H0.next<=j/\j≠i5/\j≠i7) (.mk { nilNp with kind:=6,s:=x21.s,argsA:=some ⟨H32.next,36,0⟩,argsL:=2,argsQ:=.exact 2 } [nd,m]):=by
      unfold NdIds NdsIds NdsIds NdsIds;exact ⟨.inr ⟨by simp only [adr];omega,by simp only [adr];omega,by simp only [adr];omega⟩,hD,NdIds.mono (fun j hj=>⟨by omega,by omega,by omega⟩) hDm,trivial⟩
     have hlen:=hPR.less rfl;simp only at hlen;refine loop115 i H0 hi b hb1 R Pn i5 x6 i7 h5 h7 ts0 hL n r'' (.mk { nilNp with kind:=6,s:=x21.s,argsA:=some ⟨H32.next,36,0⟩,argsL:=2,argsQ:=.exact 2 } [nd,m]) d37 a29 l30 c31 H35 (by simp at hn;omega) (by simp at hts;omega)
      (hT32.via p32 ((p32.trans0 hnew.2).trans p35 (fun y hy=>.inr (by rw [List.mem_singleton.1 hy];exact h7))) hi) (NdAt.onY p35 (NdIds.mono (fun j hj hm=>hj.2.2 (List.mem_singleton.1 hm)) hDn) hnew.1) hDn
      (fun nd' r3 v H' h1 h2 h3 h4 h5=>hR nd' r3 v H' (.loop hk5 h0' hlt' hPR h1) h2 h3 h4 h5) (fun h1=>hPn (.loop hk5 h0' hlt' hPR h1))
    ·exact stop (fun e=>by simp [e] at hk) _ _ (.refl _ _) p38 hI38
  ·have h0:ts=[]:=by
    cases ts with
    |nil=>rfl
    |cons t r=>simp [hl] at h
   subst h0;exact stop trivial _ _ (.refl _ _) p39 hI39
theorem level_of(ts:List TokC)(hA:AheadC ts)(hL:∀r,r.length<ts.length->LevelC r):LevelC ts:=by
 intro i b a k q H hb1 hb2 hI hT;have hi:i<H.next:=(hI.slot 0 _ rfl).1;refine e115p _ _ a k q b i H hI fun i0 H1 l0 p1 hI1=>⟨_,_,[],hA i a k q H1 (inv_one hI1) (hT.on hI1.pres ge_one),nodeS_sh,(by simp),panS_sh,fun v H' cs hS hI'=>pan_up (X:=[]) (fun h=>.level0 h) hS hI',fun x3 a4 l5 c6 H7 hS g7 i8 H9 l8 p9 H10 p10 d11=> ?_⟩;obtain ⟨nd,r,hPR,e,hN,hD,hp⟩:=hS;obtain rfl:=NdC.lv_inj e;have hT7:=pslot_at hp g7;have l0':i0<H1.next:=(hI1.slot 1 _ rfl).1;have p7:PresX [i] H H7:=hI1.pres.trans hp.1 (fun y h=>.inl h);have n1:=hI1.pres.next;have n7:=hp.1.next;have hlen:=hPR.less rfl;simp only at hlen;refine loop115 i H hi b hb1 _ _ i0 ⟨0,[],0,0,[],[],[],0,0,false,false,[],[],0,0,false,false,none,0,.exact 0⟩ i8 (by omega) (by omega) ts hL (r.length+1) r nd d11 a4 l5 c6 H10 (by omega) (by omega)
  (hT7.via p7 ((p7.trans0 p9).trans p10 (fun y hy=>.inr (by rw [List.mem_singleton.1 hy];omega))) hi)
  (NdAt.onY p10 (NdIds.mono (fun j hj hm=>by have:=List.mem_singleton.1 hm;omega) (NdAt.ids hN)) (NdAt.on p9 hN)) (NdIds.mono (fun j hj=>⟨by omega,by omega,by omega⟩) (NdIds.and hD (NdAt.ids hN)))
  (fun nd' r' v H' h1 h2 h3 h4 h5=>⟨nd',r',.level hPR h1,h2,h3,h4,h5⟩) (fun h1 v H' hp=>⟨hp.1,.level hPR h1,hp.2.2⟩)
theorem bareNs_app:∀(l:List Nd) (n:Nd),bareNs (l++[n])=bareNs l++[bareN n]
 |[],n=>by simp [bareNs]
 |m::l,n=>by simp only [List.cons_append,bareNs,bareNs_app l n]
theorem bareNs_len:∀l:List Nd,(bareNs l).length=l.length
 |[]=>rfl
 |n::l=>by simp only [bareNs,List.length_cons,bareNs_len l]
theorem row_push{H H':LHeap}{x:NdC}(h:H'=H.push (.cells x.cs 72 18 18 .none false true)):firstCellsL H' 18 1 (.slice (some ⟨H.next,18,0⟩) 1 (.exact 1))=some x.cs:=by
 have:loadN H' ⟨H.next,18,0⟩ 18=some x.cs:=by
  unfold loadN;rw [h];simp only [LHeap.get_push,if_true];rfl
 unfold firstCellsL;exact this
def callC(up:List UInt8)(a:Option LAddr)(k:Nat)(q:Cap):NdC:={ nilNp with kind:=7,s:=up,argsA:=a,argsL:=k,argsQ:=q }
theorem Grown.node{H:LHeap}{B:Nat}{a:Option LAddr}{q:Cap}{ms:List Nd}(h:Grown H B a q ms)(up:List UInt8)(hl:ms.length<=1000):NdAt H (.mk (callC up a ms.length q) ms)/\NdIds (B<=·) (.mk (callC up a ms.length q) ms):=by
 constructor
 ·unfold NdAt;exact ⟨rfl,Nat.le_trans hl (by decide),nds_row ms h.row h.at_ ms 0 (fun j n h=>by simpa using h)⟩
 ·unfold NdIds;refine ⟨?_,NdsIds.mono (fun j hj=>hj.1) (NdsIds.all h.ids)⟩;cases ms with
  |nil=>exact .inl rfl
  |cons m ms=>
   refine .inr ?_;have:=h.row.load (i:=0) (by simp);cases a with
   |none=>cases this.1
   |some ad=>exact h.low ad rfl
theorem mustS_sh{i:Nat}{s:List UInt8}{ts:List TokC}{H:LHeap}(v:LV)(H':LHeap)(hS:v=.tuple []/\∃r,opM s ts=some r/\PSlot i r H H'):PresX (i::[]) H H'/\hasSh (.tuple []) v/\∃cs,hasSh (.agg [.slice]) (.agg cs)/\List.length cs=1/\H'.get i=some (Slot.obj ⟨i,cs,171⟩):=by
 obtain ⟨rfl,r,_,hp'⟩:=hS;obtain ⟨h1,h2⟩:=pslot_sh hp';exact ⟨h1,rfl,h2⟩
theorem loop300(i:Nat)(H0:LHeap)(hi:i<H0.next)(R Pn:LV->LHeap->Prop)(i4:Nat)(x5:TokC)(i6:Nat)(x7:NdC)(i8:Nat)(B:Nat)(h4:i4<B)(h6:i6<B)(h8:i8<B)(hB0:H0.next<=B)(up:List UInt8)(ts0:List TokC)(hL:∀r,r.length<ts0.length->LevelC r):
  ∀(n:Nat) (ts:List TokC) (ms:List Nd) (d:Nat->LV) (a:Option LAddr) (k:Nat) (q:Cap) (ra:Option LAddr) (rq:Cap) (H:LHeap),ts.length<n->ts.length<ts0.length->ms.length+ts.length<=1000->TokAt H i 124 a k q ts->Grown H B ra rq ms->B<=H.next->
  (∀ms' ra' rq' r r' v H',PR (.args ts (bareNs ms)) (some (bareNs ms',r))->opM [41] r=some r'->ms'.length<=16->v=(callC up ra' ms'.length rq').lv->NdAt H' (.mk (callC up ra' ms'.length rq') ms')->NdIds (H0.next<=·) (.mk (callC up ra' ms'.length rq') ms')->PSlot i r' H0 H'->R v H')->
  (PR (.args ts (bareNs ms)) none->∀v H',PanT i True H0 v H'->Pn v H')->
  (∀l r,PR (.args ts (bareNs ms)) (some (l,r))->shutM up l r=none->∀v H',PanT i True H0 v H'->Pn v H')->
  GoesG cfg (gP 300 R Pn) [i] H0 [⟨i,[.slice a k q],171⟩,⟨i4,x5.cs,124⟩,⟨i6,x7.cs,72⟩,⟨i8,(callC up ra ms.length rq).cs,72⟩] (L300p_0 d) (loopAt cfg 300 0) H
 |0,_,_,_,_,_,_,_,_,_,h,_,_,_,_,_,_,_,_=>by omega
 |n+1,ts,ms,d,a,k,q,ra,rq,H,hn,hts,hms,hT,hG,hBH,hR,hPn1,hPn2=>by
  intro hin hI;have l8:=(hI.slot 3 _ rfl).1;simp only at l8;have hrow:∀ad,ra=some ad->ad.id<H.next:=fun ad e=>by subst e;exact hG.row.id
  refine g300p_0 _ _ H0 d i a k q i4 x5 i6 x7 i8 (callC up ra ms.length rq) H ⟨rfl,fun hI1=>⟨_,_,[],hL ts hts i 1 a k q H (by omega) (by omega) (inv_one hI1) hT,nodeS_sh,(by simp),panS_sh,fun v H' cs hS hI'=>hPn1 (.args0 hS.2.1) v H' (pan_up (X:=[]) (fun _=>trivial) hS hI'),fun x12 a13 l14 c15 H16 hS g16 H17 e17=>⟨rfl,fun hI17=> ?_⟩⟩⟩ hin hI;obtain ⟨nd,r,hPR,e,hN,hD,hp⟩:=hS;obtain rfl:=NdC.lv_inj e;have hT16:=pslot_at hp g16;have hlen:=hPR.less rfl;simp only at hlen;have n16:=hp.1.next;have p16:PresX [i] H0 H16:=hI.pres.trans hp.1 (fun y h=>.inl h);have p17:PresX [] H16 H17:=by rw [e17];exact .push _ _ _
  have n17:=p17.next;have G16:Grown H16 B ra rq ms:=hG.on hp.1 (fun y hy=>.inl (by rw [List.mem_singleton.1 hy];omega));have G17:Grown H17 B ra rq ms:=G16.on p17 (fun y hy=>by cases hy);obtain ⟨Y,ra',rq',H22,a1,a2,a3,a4⟩:=G17.more (M:=nd) (x:=.slice (some ⟨H16.next,18,0⟩) 1 (.exact 1)) (NdAt.on p17 hN) (NdIds.mono (fun j hj=>⟨by omega,fun ad e=>by have:=hrow ad e;omega⟩) hD) (by omega) rfl (row_push e17) (by omega);have hok:∀j∈Y,H0.next<=j/\B<=j:=fun j hj=>by
   obtain ⟨ad,e,rfl⟩:=a4 j hj;have:=hG.low ad e;omega
  refine ⟨Y,ra',ms.length+1,rq',H22,⟨a1,a2,fun j hj=> ?_⟩,fun H24 p24 hI24=> ?_⟩
  ·have:=hok j hj;refine ⟨.inr this.1,fun m s hs=> ?_⟩
   match m,hs with
   |0,hs=>cases hs;show i≠_;omega
   |1,hs=>cases hs;show i4≠_;omega
   |2,hs=>cases hs;show i6≠_;omega
   |3,hs=>cases hs;show i8≠_;omega
   |m+4,hs=>simp [nth] at hs
  ·have n22:=a2.next;have n24:=p24.next;have p22:PresX [i] H0 H22:=(p16.trans0 p17).trans a2 (fun y hy=>.inr (hok y hy).1);have G24:Grown H24 B ra' rq' (ms++[nd]):=a3.on p24 (fun y hy=>.inl (by rw [List.mem_singleton.1 hy];omega));refine ⟨_,s266 i [44] r a13 l14 c15 H24 (inv_one hI24) (hT16.via p16 hI24.pres hi),isS_sh,fun b27 a28 l29 c30 H31 hS g31=> ?_⟩;obtain ⟨b,r2,e,hp2,hb⟩:=hS;cases e;have hT31:=pslot_at hp2 g31;have n31:=hp2.1.next;have p31:PresX [i] H0 H31:=hI24.pres.trans hp2.1 (fun y h=>.inl h);have G31:Grown H31 B ra' rq' (ms++[nd]):=G24.on hp2.1 (fun y hy=>.inl (by rw [List.mem_singleton.1 hy];omega));have hlen1:(ms++[nd]).length=ms.length+1:=by simp
   refine ⟨fun h hI31=> ?_,fun h d38=> ?_⟩
   ·rcases hb with ⟨rfl,hb⟩ |⟨rfl,hb,rfl⟩
    ·cases h
    ·have hargs:PR (.args ts (bareNs ms)) (some (bareNs (ms++[nd]),r2)):=by
      rw [bareNs_app];exact .args1 hPR hb
     refine ⟨_,_,[],s297 i [41] r2 a28 l29 c30 H31 (inv_one hI31) hT31,mustS_sh,(by simp),panS_sh,fun v H' cs hS hI'=>hPn2 _ _ hargs (by unfold shutM;rw [hS.2.1]) v H' (pan_up (X:=[]) (fun _=>trivial) hS hI'),fun a33 l34 c35 H36 hS g36=> ?_⟩;obtain ⟨_,r3,h41,hp3⟩:=hS;have hT36:=pslot_at hp3 g36;have n36:=hp3.1.next;have p36:PresX [i] H0 H36:=p31.trans hp3.1 (fun y h=>.inl h);refine ⟨fun hbig hI36=>hPn2 _ _ hargs (by unfold shutM;rw [h41];simp only;rw [if_pos (by rw [bareNs_len,hlen1];simp at hbig;omega)]) _ _ ⟨rfl,trivial,hI36.pres,_,rfl,slot_i hI36⟩,fun hsm H37 p37 hI37=> ?_⟩;have G37:Grown H37 B ra' rq' (ms++[nd]):=(G31.on hp3.1 (fun y hy=>.inl (by rw [List.mem_singleton.1 hy];omega))).on p37 (fun y hy=>.inl (by rw [List.mem_singleton.1 hy];omega));have hnode:=G37.node up (by rw [hlen1];omega);exact hR (ms++[nd]) ra' rq' r2 r3 _ H37 hargs h41 (by rw [hlen1];simp at hsm;omega) (by rw [hlen1];rfl) hnode.1 (NdIds.mono (fun j hj=>by omega) hnode.2) ⟨hI37.pres,_,_,_,slot_i hI37,hT36.via p36 hI37.pres hi⟩
   ·rcases hb with ⟨rfl,hb⟩ |⟨rfl,hb,rfl⟩
    ·have hl2:=opM_len hb;have:=loop300 i H0 hi R Pn i4 x5 i6 x7 i8 B h4 h6 h8 hB0 up ts0 hL n r2 (ms++[nd]) d38 a28 l29 c30 ra' rq' H31 (by omega) (by omega) (by rw [hlen1];omega) hT31 G31 (by omega)
      (fun ms' ra' rq' r r' v H' h1=>hR ms' ra' rq' r r' v H' (.args hPR hb (by rw [<-bareNs_app];exact h1)))
      (fun h1=>hPn1 (.args hPR hb (by rw [<-bareNs_app];exact h1))) (fun l r h1=>hPn2 l r (.args hPR hb (by rw [<-bareNs_app];exact h1)))
     rw [hlen1] at this;exact this
    ·cases h
theorem aloneNode{i:Nat}{t:TokC}{r r':List TokC}{x:NdC}{H H':LHeap}(ho:opM [40] (t::r)=none)(ha:aloneM t r=some (some ([.mk x []],r')))(hb:x.bare=x)(hp:PSlot i r' H H'):NodeS i (.atom (t::r)) H x.lv H':=by
 refine ⟨.mk x [],r',?_,rfl,?_,?_,hp⟩
 ·have:bareN (.mk x [])=.mk x []:=by simp only [bareN,bareNs,hb]
  rw [this];exact .alone ho ha
 ·unfold NdAt NdsAt;have:x.argsL=0:=by rw [<-hb];rfl
  exact ⟨this.symm,by rw [this];exact Nat.zero_le _,trivial⟩
 ·unfold NdIds NdsIds;exact ⟨.inl rfl,trivial⟩
theorem alone4{t:TokC}(hk:t.kind=4)(r:List TokC):aloneM t r=match (if t.refBook=[] then opM [40] r else none) with
  |some r1=>match opM [41] r1 with
   |some r2=>some (some ([callNp (upL t.s) []],r2))
   |none=>none
  |none=>
   if upL t.s=[84,82,85,69] then some (some ([constNp 3 1 []],r))
   else if upL t.s=[70,65,76,83,69] then some (some ([constNp 3 0 []],r))
   else some (some ([.mk (nameNp t) []],r)):=by
 unfold aloneM;rw [if_neg (by omega),if_neg (by omega),if_neg (by omega),if_neg (by omega),if_pos hk];rfl
theorem s300(i:Nat)(t:TokC)(r:List TokC)(a:Option LAddr)(k:Nat)(q:Cap)(H:LHeap)(hI:Inv [i] H [⟨i,[.slice a k q],171⟩] H)(hT:TokAt H i 124 a k q r)(hok:TokOK t)(hk:t.kind=4)(hL:∀r',r'.length<r.length+1->LevelC r'):
  CallP cfg 300 [.ptr (some ⟨i,1,0⟩),t.lv] H (NodeS i (.atom (t::r)) H) (PanT i (PR (.atom (t::r)) none) H):=by
 have hi:i<H.next:=(hI.slot 0 _ rfl).1;have ho:opM [40] (t::r)=none:=by rw [opM_cons,if_neg];rintro ⟨e,_⟩;omega
 have hlen:=hT.len;have hsm:=hT.small;have tail:(if t.refBook=[] then opM [40] r else none)=none->∀(i2:Nat) (H12:LHeap) (a':Option LAddr) (k':Nat) (q':Cap),TokAt H12 i 124 a' k' q' r->PresX [i] H H12->∀(l:List Slot),
   ((upL t.s==[84,82,85,69])=true->(Inv [i] H (⟨i,[.slice a' k' q'],171⟩::l) H12->∃S:LV->LHeap->Prop,CallL cfg 298 [.int .i64 3,.int .i64 1,.str []] H12 S/\(∀v H',S v H'->PresX [] H12 H'/\hasSh (.cust NdC NdC.lv) v)/\
     ∀(x:NdC) (H26:LHeap),S x.lv H26->∀H27,PresX [i2] H26 H27->∀l',Inv [i] H (⟨i,[.slice a' k' q'],171⟩::l') H27->NodeS i (.atom (t::r)) H x.lv H27))/\
   ((upL t.s==[84,82,85,69])=false->((upL t.s==[70,65,76,83,69])=true->(Inv [i] H (⟨i,[.slice a' k' q'],171⟩::l) H12->∃S:LV->LHeap->Prop,CallL cfg 298 [.int .i64 3,.int .i64 0,.str []] H12 S/\(∀v H',S v H'->PresX [] H12 H'/\hasSh (.cust NdC NdC.lv) v)/\
     ∀(x:NdC) (H26:LHeap),S x.lv H26->∀H27,PresX [i2] H26 H27->∀l',Inv [i] H (⟨i,[.slice a' k' q'],171⟩::l') H27->NodeS i (.atom (t::r)) H x.lv H27))/\
   ((upL t.s==[70,65,76,83,69])=false->∀H27 l',Inv [i] H (⟨i,[.slice a' k' q'],171⟩::l') H27->NodeS i (.atom (t::r)) H (nameNp t).lv H27)):=by
  intro hno i2 H12 a' k' q' hT12 p12 l;have h4:=alone4 hk r;rw [hno] at h4;simp only at h4;refine ⟨fun h hI12=>⟨_,s298 3 1 [] H12,Ret.use ⟨_,rfl⟩,fun x H26 hS H27 p27 l' hI27=> ?_⟩,fun h=>⟨fun h' hI12=>⟨_,s298 3 0 [] H12,Ret.use ⟨_,rfl⟩,fun x H26 hS H27 p27 l' hI27=> ?_⟩,fun h' H27 l' hI27=> ?_⟩⟩
  ·obtain ⟨e,p26⟩:=hS;obtain rfl:=NdC.lv_inj e;rw [if_pos (by simpa using h)] at h4;exact aloneNode ho h4 rfl ⟨hI27.pres,_,_,_,slot_i hI27,hT12.via p12 hI27.pres hi⟩
  ·obtain ⟨e,p26⟩:=hS;obtain rfl:=NdC.lv_inj e;rw [if_neg (by simpa using h),if_pos (by simpa using h')] at h4;exact aloneNode ho h4 rfl ⟨hI27.pres,_,_,_,slot_i hI27,hT12.via p12 hI27.pres hi⟩
  ·rw [if_neg (by simpa using h),if_neg (by simpa using h')] at h4;exact aloneNode ho h4 rfl ⟨hI27.pres,_,_,_,slot_i hI27,hT12.via p12 hI27.pres hi⟩
 refine e300p _ _ a k q t i H hI fun i0 H1 l0 p1 i2 H3 l2 p3 hI3=>⟨_,s175 t.s H3 (by have:=hok.1;omega),Ret.use ⟨_,rfl⟩,fun s5 H6 hS=> ?_⟩;obtain ⟨e,p6⟩:=hS;cases e;have p3':PresX [i] H H3:=hI3.pres;have p6':PresX [i] H H6:=p3'.trans0 p6;have hT6:TokAt H6 i 124 a k q r:=hT.on p6' ge_one;have l0':=(hI3.slot 1 _ rfl).1;have l2':=(hI3.slot 2 _ rfl).1;simp only at l0' l2';have n1:=p1.next;have n3:=p3.next;have n6:=p6.next;refine ⟨fun hbk hI6=>⟨_,s266 i [40] r a k q H6 (inv_one hI6) hT6,isS_sh,fun b8 a9 l10 c11 H12 hS g12=> ?_⟩,fun hbk=> ?_⟩
 ·obtain ⟨b,r1,e,hp,hb⟩:=hS;cases e;have hT12:=pslot_at hp g12;have p12:PresX [i] H H12:=p6'.trans hp.1 (fun y h=>.inl h);have n12:=hp.1.next;have hbk':t.refBook=[]:=by simpa using hbk
  refine ⟨fun h i13 H14 l13 p14 H15 p15 hI15=> ?_,fun h=> ?_⟩
  ·rcases hb with ⟨rfl,hb⟩ |⟨rfl,hb,rfl⟩
   ·refine ⟨_,s266 i [41] r1 a9 l10 c11 H15 (inv_one hI15) (hT12.via p12 hI15.pres hi),isS_sh,fun b17 a18 l19 c20 H21 hS g21=> ?_⟩;obtain ⟨b,r2,e,hp2,hb2⟩:=hS;cases e;have hT21:=pslot_at hp2 g21;have l13':=(hI15.slot 3 _ rfl).1;simp only at l13';have n15:=hI15.pres.next;have n14:=p14.next;have n15':=p15.next;have n21:=hp2.1.next;have p21:PresX [i] H H21:=hI15.pres.trans hp2.1 (fun y h=>.inl h);have h4:=alone4 hk r;rw [if_pos hbk',hb] at h4;simp only at h4;refine ⟨fun h H22 p22 hI22=> ?_,fun h d23=> ?_⟩
    ·rcases hb2 with ⟨rfl,hb2⟩ |⟨rfl,hb2,rfl⟩
     ·rw [hb2] at h4;exact aloneNode ho h4 rfl ⟨hI22.pres,_,_,_,slot_i hI22,hT21.via p21 hI22.pres hi⟩
     ·cases h
    ·rcases hb2 with ⟨rfl,hb2⟩ |⟨rfl,hb2,rfl⟩
     ·cases h
     ·rw [hb2] at h4;simp only at h4;have hl1:=opM_len hb;refine loop300 i H hi _ _ i0 t i2 nilNp i13 H21.next (by omega) (by omega) (by omega) p21.next (upL t.s) (t::r) (fun r' hr'=>hL r' (by simpa using hr')) (r2.length+1) r2 [] d23 a18 l19 c20 none (.exact 0) H21 (by omega) (by simp only [List.length_cons];omega) (by simp only [List.length_nil];omega) hT21 ⟨.nil,by simp,by simp,by simp⟩ (Nat.le_refl _) ?_ ?_ ?_
      ·intro ms' ra' rq' r3 r' v H' h1 h2 h3 h5 h6 h7 h8;have hc:=PR.call ho h4 hb h1;have hs:shutM (upL t.s) (bareNs ms') r3=some ([callNp (upL t.s) (bareNs ms')],r'):=by
        unfold shutM;rw [h2];simp only;rw [if_neg (by rw [bareNs_len];omega)]
       rw [hs] at hc;exact ⟨.mk (callC (upL t.s) ra' ms'.length rq') ms',r',hc,h5,h6,h7,h8⟩
      ·intro h1 v H' hp;exact ⟨hp.1,.call0 ho h4 hb h1,hp.2.2⟩
      ·intro l r3 h1 h2 v H' hp;have hc:=PR.call ho h4 hb h1;rw [h2] at hc;exact ⟨hp.1,hc,hp.2.2⟩
   ·cases h
  ·rcases hb with ⟨rfl,hb⟩ |⟨rfl,hb,rfl⟩
   ·cases h
   ·obtain ⟨t1,t2⟩:=tail (by rw [if_pos hbk'];exact hb) i2 H12 a9 l10 c11 hT12 p12 _;refine ⟨fun h hI12=> ?_,fun h=>⟨fun h' hI12=> ?_,fun h' H32 p32 hI32=>(t2 h).2 h' _ _ hI32⟩⟩
    ·obtain ⟨S,s1,s2,s3⟩:=t1 h hI12;exact ⟨S,s1,s2,fun x H26 hS H27 p27 hI27=>s3 x H26 hS H27 p27 _ hI27⟩
    ·obtain ⟨S,s1,s2,s3⟩:=(t2 h).1 h' hI12;exact ⟨S,s1,s2,fun x H26 hS H27 p27 hI27=>s3 x H26 hS H27 p27 _ hI27⟩
 ·obtain ⟨t1,t2⟩:=tail (by rw [if_neg];simpa using hbk) i2 H6 a k q hT6 p6' _;refine ⟨fun h hI12=> ?_,fun h=>⟨fun h' hI12=> ?_,fun h' H32 p32 hI32=>(t2 h).2 h' _ _ hI32⟩⟩
  ·obtain ⟨S,s1,s2,s3⟩:=t1 h hI12;exact ⟨S,s1,s2,fun x H26 hS H27 p27 hI27=>s3 x H26 hS H27 p27 _ hI27⟩
  ·obtain ⟨S,s1,s2,s3⟩:=(t2 h).1 h' hI12;exact ⟨S,s1,s2,fun x H26 hS H27 p27 hI27=>s3 x H26 hS H27 p27 _ hI27⟩
theorem nodeS_move{i i0:Nat}{q q':PQ}{H H1 H2 H3:LHeap}{v:LV}{l:List Slot}{a:Option LAddr}{k:Nat}{c:Cap}(hS:NodeS i q H1 v H2)(hq:∀n r,PR q (some (n,r))->PR q' (some (n,r)))(p1:PresX [i] H H1)(hi:i<H.next)(hi0:i0<H1.next)(p3:PresX [i0] H2 H3)
  (g:H2.get i=some (Slot.obj (Slot.mk i [.slice a k c] 171))) (hI:Inv [i] H (⟨i,[.slice a k c],171⟩::l) H3):NodeS i q' H v H3:=by
 obtain ⟨nd,r,hPR,rfl,hN,hD,hp⟩:=hS;have hT:=pslot_at hp g;have p2:PresX [i] H H2:=p1.trans hp.1 (fun y h=>.inl h);exact ⟨nd,r,hq _ _ hPR,rfl,NdAt.onY p3 (NdIds.mono (fun j hj hm=>by have:=List.mem_singleton.1 hm;omega) hD) hN,NdIds.mono (fun j hj=>by have:=p1.next;omega) hD,hI.pres,_,_,_,slot_i hI,hT.via p2 hI.pres hi⟩
theorem areaM_bare{t:TokC}{r r':List TokC}{x:NdC}(h:areaM t r=some ([.mk x []],r')):x.bare=x:=by
 unfold areaM at h
 repeat' split at h
 all_goals first
  |(cases h;rfl)
  |(cases h;done)
theorem aloneS_sh{i:Nat}{o:Res}{H:LHeap}(v:LV)(H':LHeap)(h:AloneS i o H v H'):PresX (i::[]) H H'/\hasSh (.cust NdC NdC.lv) v/\∃cs,hasSh (.agg [.slice]) (.agg cs)/\List.length cs=1/\H'.get i=some (Slot.obj ⟨i,cs,171⟩):=by
 obtain ⟨x,r,_,rfl,_,hp⟩:=h;obtain ⟨h1,h2⟩:=pslot_sh hp;exact ⟨h1,⟨x,rfl⟩,h2⟩
theorem atom_of(ts:List TokC)(hL:∀r,r.length<ts.length->LevelC r):AtomC ts:=by
 intro i a k q H hI hT;have hi:i<H.next:=(hI.slot 0 _ rfl).1;refine e267p _ _ a k q i H hI fun i0 H1 l0 p1 hI1=>⟨_,s266 i [40] ts a k q H1 (inv_one hI1) (hT.on hI1.pres ge_one),isS_sh,fun b3 a4 l5 c6 H7 hS g7=> ?_⟩;obtain ⟨b,r,e,hp,hb⟩:=hS;cases e;have hT7:=pslot_at hp g7;have p7:PresX [i] H H7:=hI1.pres.trans hp.1 (fun y h=>.inl h);have l0':=(hI1.slot 1 _ rfl).1;simp only at l0';have n7:=hp.1.next;have n1:=p7.next;refine ⟨fun h hI7=> ?_,fun h hI7=> ?_⟩
 ·rcases hb with ⟨rfl,hb⟩ |⟨rfl,hb,rfl⟩
  ·refine ⟨_,_,[],hL r (by have:=opM_len hb;omega) i 1 a4 l5 c6 H7 (by omega) (by omega) (inv_one hI7) hT7,nodeS_sh,(by simp),panS_sh,fun v H' cs hS hI'=>pan_up (X:=[]) (fun h=>.paren0 hb h) hS hI',fun x9 a10 l11 c12 H13 hS g13 i14 H15 l14 p15 H16 p16 hI16=> ?_⟩;obtain ⟨nd,r',hPR,e,hN,hD,hp'⟩:=hS;obtain rfl:=NdC.lv_inj e;have hT13:=pslot_at hp' g13;have p13:PresX [i] H H13:=p7.trans hp'.1 (fun y h=>.inl h);have n13:=hp'.1.next;have n15:=p15.next;have n16:=p16.next;refine ⟨_,_,[],s297 i [41] r' a10 l11 c12 H16 (inv_one hI16) (hT13.via p13 hI16.pres hi),mustS_sh,(by simp),panS_sh,fun v H' cs hS hI'=>pan_up (X:=[]) (fun h=>.paren1 hb hPR h) hS hI',fun a18 l19 c20 H21 hS g21 H22 p22 hI22=> ?_⟩;obtain ⟨_,r2,h41,hp2⟩:=hS;have hT21:=pslot_at hp2 g21;have p21:PresX [i] H H21:=hI16.pres.trans hp2.1 (fun y h=>.inl h);have hN22:NdAt H22 nd:=NdAt.onY p22 (NdIds.mono (fun j hj hm=>by have:=List.mem_singleton.1 hm;omega) hD) (NdAt.onY hp2.1 (NdIds.mono (fun j hj hm=>by have:=List.mem_singleton.1 hm;omega) hD) (NdAt.onY p16 (NdIds.mono (fun j hj hm=>by have:=List.mem_singleton.1 hm;omega) (NdAt.ids hN)) (NdAt.on p15 hN)));exact ⟨nd,r2,.paren hb hPR h41,rfl,hN22,NdIds.mono (fun j hj=>by omega) hD,hI22.pres,_,_,_,slot_i hI22,hT21.via p21 hI22.pres hi⟩
  ·cases h
 ·rcases hb with ⟨rfl,hb⟩ |⟨rfl,hb,rfl⟩
  ·cases h
  ·refine ⟨_,_,[],s206 i r a4 l5 c6 H7 (inv_one hI7) hT7,nextS_sh,(by simp),panS_sh,fun v H' cs hS hI'=>pan_up (X:=[]) (fun h=>by rw [h];exact .empty) hS hI',fun t a25 l26 c27 H28 hS g28 i29 H30 l29 p30 H31 p31=> ?_⟩;obtain ⟨t',r',rfl,e,hok,hp2⟩:=hS;have:=tok_inj e;subst this;have hT28:=pslot_at hp2 g28;have p28:PresX [i] H H28:=p7.trans hp2.1 (fun y h=>.inl h);have n28:=hp2.1.next;have n30:=p30.next;have n31:=p31.next;have con:∀{x:NdC} {l:List Slot} {H':LHeap},x.bare=x->aloneM t r'=some (some ([.mk x []],r'))->Inv [i] H (⟨i,[.slice a25 l26 c27],171⟩::l) H'->NodeS i (.atom (t::r')) H x.lv H':=fun hx ha hI'=>
    aloneNode hb ha hx ⟨hI'.pres,_,_,_,slot_i hI',hT28.via p28 hI'.pres hi⟩
   refine ⟨fun h hI31=>⟨_,s298 1 t.n [] H31,Ret.use ⟨_,rfl⟩,fun x H34 hS H35 p35 hI35=> ?_⟩,fun h1=>⟨fun h hI31=>⟨_,s298 2 0 t.s H31,Ret.use ⟨_,rfl⟩,fun x H34 hS H35 p35 hI35=> ?_⟩,fun h2=>⟨fun h hI31=>⟨_,s298 4 t.n [] H31,Ret.use ⟨_,rfl⟩,fun x H34 hS H35 p35 hI35=> ?_⟩,fun h6=>⟨fun h hI31=> ?_,fun h3=>⟨fun h hI31=> ?_,fun h4 hI31=> ?_⟩⟩⟩⟩⟩
   ·obtain ⟨e,_⟩:=hS;obtain rfl:=NdC.lv_inj e;exact con rfl (by unfold aloneM;rw [if_pos (by simpa using h)];rfl) hI35
   ·obtain ⟨e,_⟩:=hS;obtain rfl:=NdC.lv_inj e;exact con rfl (by unfold aloneM;rw [if_neg (by simpa using h1),if_pos (by simpa using h)];rfl) hI35
   ·obtain ⟨e,_⟩:=hS;obtain rfl:=NdC.lv_inj e;exact con rfl (by unfold aloneM;rw [if_neg (by simpa using h1),if_neg (by simpa using h2),if_pos (by simpa using h)];rfl) hI35
   ·have ha:aloneM t r'=some (areaM t r'):=by unfold aloneM;rw [if_neg (by simpa using h1),if_neg (by simpa using h2),if_neg (by simpa using h6),if_pos (by simpa using h)]
    refine ⟨_,_,[],s299 i t r' a25 l26 c27 H31 (inv_one hI31) (hT28.via p28 hI31.pres hi),aloneS_sh,(by simp),panS_sh,fun v H' cs hS hI'=>pan_up (X:=[]) (fun h=>.alone hb (by rw [ha,h])) hS hI',fun x45 a46 l47 c48 H49 hS g49 H50 p50 hI50=> ?_⟩;obtain ⟨x,r2,hm,e,_,hp3⟩:=hS;obtain rfl:=NdC.lv_inj e;have hT49:=pslot_at hp3 g49;have p49:PresX [i] H H49:=hI31.pres.trans hp3.1 (fun y h=>.inl h);exact aloneNode hb (by rw [ha,hm]) (areaM_bare hm) ⟨hI50.pres,_,_,_,slot_i hI50,hT49.via p49 hI50.pres hi⟩
   ·refine ⟨_,_,[],s300 i t r' a25 l26 c27 H31 (inv_one hI31) (hT28.via p28 hI31.pres hi) hok (by simpa using h) (fun r3 h3=>hL r3 (by simpa using h3)),nodeS_sh,(by simp),panS_sh,fun v H' cs hS hI'=>pan_up (X:=[]) (fun h=>h) hS hI',fun x52 a53 l54 c55 H56 hS g56 H57 p57 hI57=> ?_⟩;exact nodeS_move hS (fun _ _ h=>h) hI31.pres hi (by omega) p57 g56 hI57
   ·refine ⟨rfl,.alone hb ?_,hI31.pres,_,rfl,slot_i hI31⟩;unfold aloneM;rw [if_neg (by simpa using h1),if_neg (by simpa using h2),if_neg (by simpa using h6),if_neg (by simpa using h3),if_neg (by simpa using h4)]
theorem parser_all:∀(n:Nat) (ts:List TokC),ts.length<n->LevelC ts/\AheadC ts/\AtomC ts
 |0,ts,h=>by omega
 |n+1,ts,h=>by
  have hL:∀r,r.length<ts.length->LevelC r:=fun r hr=>(parser_all n r (by omega)).1;have hA:∀r,r.length<ts.length->AheadC r:=fun r hr=>(parser_all n r (by omega)).2.1;have h1:=atom_of ts hL;have h2:=ahead_of ts h1 hA;exact ⟨level_of ts h2 hL,h2,h1⟩
theorem s115(ts:List TokC):LevelC ts:=(parser_all (ts.length+1) ts (by omega)).1
theorem qF_text:∀(m:Nat) (s:List UInt8) (r:List UInt8×Nat),s.length<m->qF s=some r->r.1.length<=s.length
 |0,s,r,h,_=>by omega
 |m+1,[],r,h,e=>by cases e
 |m+1,[b],r,h,e=>by
  unfold qF at e;split at e
  ·cases e;simp
  ·cases e
 |m+1,b::c::s,r,h,e=>by
  unfold qF at e;simp only [List.length_cons] at h |-;split at e
  ·split at e
   ·cases hq:qF s with
    |none=>rw [hq] at e;cases e
    |some r'=>
     rw [hq] at e;cases e;have:=qF_text m s r' (by omega) hq;simp only [List.length_cons];omega
   ·cases e;simp
  ·cases hq:qF (c::s) with
   |none=>rw [hq] at e;cases e
   |some r'=>
    rw [hq] at e;cases e;have:=qF_text m (c::s) r' (by simp only [List.length_cons];omega) hq;simp only [List.length_cons] at this |-;omega
theorem flt_ok:∀(l:List (List UInt8)) (n:Nat) (s:List UInt8) (x:TokC) (k:Nat),fltF l n s=some (x,k)->TokOK x
 |[],n,s,x,k,h=>by cases h
 |y::l,n,s,x,k,h=>by
  unfold fltF at h;split at h
  ·cases h;exact ⟨by simp [badT],by simp [badT],by simp [badT]⟩
  ·exact flt_ok l (n+1) s x k h
theorem end_ok{b:List UInt8}{j:Nat}{s:List UInt8}{x:TokC}{k:Nat}(hs:s.length<=255)(h:endF b j s=some (x,k)):TokOK x:=by
 unfold endF at h;split at h
 ·cases hr:refTF (s.take (endM j s)) with
  |none=>rw [hr] at h;cases h
  |some r=>rw [hr] at h;cases h;exact ⟨by simp [refT],by simp [refT],by simp [refT]⟩
 ·unfold wordF at h;split at h
  ·cases h;exact ⟨by simp [refT],by simp [refT],by simp [refT]⟩
  ·split at h
   ·cases h;refine ⟨?_,by simp [wordT],by simp [wordT]⟩;simp only [wordT,List.length_take,List.length_drop];omega
   ·cases h
theorem one_ok{s:List UInt8}{x:TokC}{k:Nat}(hs:s.length<=255)(h:oneF s=some (x,k)):TokOK x:=by
 cases s with
 |nil=>cases h
 |cons c t=>
  simp only [oneF] at h;split at h
  ·unfold numTF at h;cases hp:parseO ((c::t).take (spanF numB (c::t))) with
   |none=>rw [hp] at h;cases h
   |some v=>rw [hp] at h;cases h;exact ⟨by simp [numT],by simp [numT],by simp [numT]⟩
  ·split at h
   ·simp only [quotedF] at h;cases hq:qF t with
    |none=>rw [hq] at h;cases h
    |some r=>
     rw [hq] at h;cases h;have:=qF_text (t.length+1) t r (by omega) hq;simp only [List.length_cons] at hs;exact ⟨by simp only [strT];omega,by simp [strT],by simp [strT]⟩
   ·split at h
    ·exact flt_ok _ _ _ _ _ h
    ·split at h
     ·simp only [namedF] at h;split at h
      ·split at h
       ·split at h
        ·exact end_ok hs h
        ·cases h
       ·cases h
      ·exact end_ok hs h
     ·simp only [opF] at h;split at h
      ·cases h;refine ⟨?_,by simp [opT],by simp [opT]⟩;simp only [opT,List.length_take];omega
      ·split at h
       ·cases h;exact ⟨by simp [opT],by simp [opT],by simp [opT]⟩
       ·cases h
theorem lexF_ok:∀(m:Nat) (s:List UInt8) (l:List TokC),s.length<m->s.length<=255->lexF s=some l->∀x∈l,TokOK x
 |0,s,l,h,_,_=>by omega
 |m+1,[],l,h,_,e=>by rw [lexF_nil] at e;cases e;simp
 |m+1,c::t,l,h,h2,e=>by
  have hl:(c::t).length=t.length+1:=rfl;cases hb:blankB c with
  |true=>
   rw [lexF_blank hb] at e;exact lexF_ok m t l (by omega) (by omega) e
  |false=>
   cases ho:oneF (c::t) with
   |none=>rw [lexF_none hb ho] at e;cases e
   |some r=>
    obtain ⟨x,k⟩:=r;by_cases hk:k=0
    ·subst hk;rw [lexF_zero hb ho] at e;cases e
    ·rw [lexF_some hb ho hk] at e;cases hd:lexF ((c::t).drop k) with
     |none=>rw [hd] at e;cases e
     |some l'=>
      rw [hd] at e;cases e;have hlk:((c::t).drop k).length=(c::t).length-k:=List.length_drop ..;have:=lexF_ok m ((c::t).drop k) l' (by omega) (by omega) hd;intro y hy;rcases List.mem_cons.1 hy with rfl |hy
      ·exact one_ok h2 ho
      ·exact this y hy
theorem lexO_ok(s:List UInt8):∀x∈(lexO s).1,TokOK x:=by
 unfold lexO;split
 ·simp
 ·rename_i h;cases hl:lexF s with
  |none=>simp [resO]
  |some l=>
   simp only [resO,List.nil_append];exact lexF_ok (s.length+1) s l (by omega) (by omega) hl
theorem row_tok{H:LHeap}{ty:TypeId}{i:Nat}{a:Option LAddr}{q:Cap}{l:List TokC}(h:RowAt H ty 9 a l.length q (cellsT l))(h1:isAggT cfg.P ty=some true)(h2:sizeOfT cfg.P ty=some 9)(hok:∀x∈l,TokOK x)(hl:l.length<=1000)(hi:∀ad,a=some ad->ad.id<i):TokAt H i ty a l.length q l:=by
 refine ⟨rfl,hl,?_,fun j x hx=> ?_⟩
 ·generalize l.length=n at h;generalize cellsT l=cs at h;cases h with
  |nil=>exact .inl ⟨0,rfl,Nat.le_refl _⟩
  |full=>exact .inl ⟨_,rfl,Nat.le_refl _⟩
  |free=>exact .inr ⟨rfl,rfl⟩
 ·obtain ⟨g1,g2⟩:=row_at h h1 h2 hx;obtain ⟨ad,rfl⟩:=Option.isSome_iff_exists.1 g1;exact ⟨rfl,h.id,hi ad rfl,hok x (List.mem_of_getElem? hx),g2⟩
abbrev qP3_1:List LV:=[I6 0,.str [],I6 0,I6 0,.str [],.str [],.str [],I6 0,I6 0,.bool false,.bool false,.str [],.str [],I6 0,I6 0,.bool false,.bool false,.slice none 0 (.exact 0)]
abbrev qP3_2(i0 i2:Nat):List LV:=[.ptr (some (Lk i0 18 0)),.ptr (some (Lk i2 1 0))]
theorem e54p(R:RR)(s:(List UInt8))(H:LHeap)
(h:NX H fun i0 H1=>NX H1 fun i2 H3=>Inv [] H [Sk i0 qP3_1 72,Sk i2 [I6 0] 23] H3->CL 18 [.str s] H3 (.tuple [.slice,.int .i64]) fun S4=>∀a5 l6 c7 n8 H9,S4 (.tuple [.slice a5 l6 c7,I6 n8]) H9->PX [i2] H9 fun H10=>Cd (n8 !=0) (([I6 n8]:List LV)=[I6 n8]/\(PX [i0] H10 fun H12=>([I6 n8]:List LV)=[I6 n8]/\(PX [i2] H12 fun H14=>R0 H [Sk i0 qP3_1 72,Sk i2 [I6 n8] 23] H14 R (.tuple [.agg qP3_1,I6 n8])))) (Inv [] H [Sk i0 qP3_1 72,Sk i2 [I6 n8] 23] H10->∃E Pn,(∀cs p,ContG cfg (gF 54 R) cs p->ContG cfg (gD 54 [LDef.mk (LTarget.fn (Fn.func 114) (qP3_2 i0 i2)) []] false E Pn) cs p)/\(NX H10 fun i16 H17=>Inv [] H [Sk i0 qP3_1 72,Sk i2 [I6 n8] 23,Sk i16 [.slice a5 l6 c7] 171] H17->∃S18 S18n Y,CallP cfg 115 [.ptr (some (Lk i16 1 0)),I6 1] H17 S18 S18n/\((∀v H',S18 v H'->PresX (i16::Y) H17 H'/\(hasSh (.cust NdC NdC.lv) v/\(∃cs,hasSh (.agg [.slice]) (.agg cs)/\(List.length cs=1/\H'.get i16=some (Slot.obj ⟨i16,cs,171⟩)))))/\((∀i∈Y,okId [] H [Sk i0 qP3_1 72,Sk i2 [I6 n8] 23,Sk i16 [.slice a5 l6 c7] 171] i)/\((∀v H',S18n v H'->PresX (i16::Y) H17 H'/\(∃cs,List.length cs=1/\H'.get i16=some (Slot.obj ⟨i16,cs,171⟩)))/\((∀v H' cs,S18n v H'->Inv [] H [Sk i0 qP3_1 72,Sk i2 [I6 n8] 23,Sk i16 cs 171] H'->Pn [.str s,.tuple [],.ptr (some (Lk i0 18 0)),.ptr (some (Lk i2 1 0)),.slice a5 l6 c7,.ptr (some (Lk i16 1 0)),.tuple [.slice a5 l6 c7,I6 n8],.str s,.tuple [.slice a5 l6 c7,I6 n8],.slice a5 l6 c7,I6 n8,I6 n8,.bool false,.tuple [],.tuple [],.func (Fn.func 114) [] (qP3_2 i0 i2),.slice a5 l6 c7,.agg [.slice a5 l6 c7],.ptr (some (Lk i16 1 0)),.ptr (some (Lk i16 1 0)),.tuple [],.tuple [],.tuple [],.tuple [],.tuple [],.tuple [],.tuple [],.tuple [],.tuple [],.tuple [],.tuple [],.tuple [],.tuple [],.tuple [],.tuple []] v H')/\(∀x19 a20 l21 c22 H23,S18 (NdC.lv x19) H23->H23.get i16=some (Slot.obj (Sk i16 [.slice a20 l21 c22] 171))->PX [i0] H23 fun H24=>Dc (((l21:Nat):Int)>0) (Inv [] H [Sk i0 (NdC.cs x19) 72,Sk i2 [I6 n8] 23,Sk i16 [.slice a20 l21 c22] 171] H24->Pn [.str s,.tuple [],.ptr (some (Lk i0 18 0)),.ptr (some (Lk i2 1 0)),.slice a5 l6 c7,.ptr (some (Lk i16 1 0)),.tuple [.slice a5 l6 c7,I6 n8],.str s,.tuple [.slice a5 l6 c7,I6 n8],.slice a5 l6 c7,I6 n8,I6 n8,.bool false,.tuple [],.tuple [],.func (Fn.func 114) [] (qP3_2 i0 i2),.slice a5 l6 c7,.agg [.slice a5 l6 c7],.ptr (some (Lk i16 1 0)),.ptr (some (Lk i16 1 0)),NdC.lv x19,.ptr (some (Lk i16 1 0)),.ptr (some (Lk i16 1 0)),.ptr (some (Lk i16 1 0)),.slice a20 l21 c22,I6 ((l21:Nat):Int),.bool (decide (((l21:Nat):Int)>0)),.bool true,.tuple [],.tuple [],.tuple [],.bool true,.agg [],.iface 168 (.agg []),.tuple []] (.iface 168 (.agg [])) H24) (Inv [] H [Sk i0 (NdC.cs x19) 72,Sk i2 [I6 n8] 23,Sk i16 [.slice a20 l21 c22] 171] H24->Kc 50 [NdC.lv x19] H24 fun n26 H27=>Dc (n26>24) (Inv [] H [Sk i0 (NdC.cs x19) 72,Sk i2 [I6 n8] 23,Sk i16 [.slice a20 l21 c22] 171] H27->Pn [.str s,.tuple [],.ptr (some (Lk i0 18 0)),.ptr (some (Lk i2 1 0)),.slice a5 l6 c7,.ptr (some (Lk i16 1 0)),.tuple [.slice a5 l6 c7,I6 n8],.str s,.tuple [.slice a5 l6 c7,I6 n8],.slice a5 l6 c7,I6 n8,I6 n8,.bool false,.tuple [],.tuple [],.func (Fn.func 114) [] (qP3_2 i0 i2),.slice a5 l6 c7,.agg [.slice a5 l6 c7],.ptr (some (Lk i16 1 0)),.ptr (some (Lk i16 1 0)),NdC.lv x19,.ptr (some (Lk i16 1 0)),.ptr (some (Lk i16 1 0)),.ptr (some (Lk i16 1 0)),.slice a20 l21 c22,I6 ((l21:Nat):Int),.bool (decide (((l21:Nat):Int)>0)),.bool false,NdC.lv x19,I6 n26,.bool (decide (n26>24)),.bool true,.agg [],.iface 168 (.agg []),.tuple []] (.iface 168 (.agg [])) H27) (PX [i0] H27 fun H28=>PX [i2] H28 fun H29=>Inv [] H [Sk i0 (NdC.cs x19) 72,Sk i2 [I6 0] 23,Sk i16 [.slice a20 l21 c22] 171] H29->E [.str s,.tuple [],.ptr (some (Lk i0 18 0)),.ptr (some (Lk i2 1 0)),.slice a5 l6 c7,.ptr (some (Lk i16 1 0)),.tuple [.slice a5 l6 c7,I6 n8],.str s,.tuple [.slice a5 l6 c7,I6 n8],.slice a5 l6 c7,I6 n8,I6 n8,.bool false,.tuple [],.tuple [],.func (Fn.func 114) [] (qP3_2 i0 i2),.slice a5 l6 c7,.agg [.slice a5 l6 c7],.ptr (some (Lk i16 1 0)),.ptr (some (Lk i16 1 0)),NdC.lv x19,.ptr (some (Lk i16 1 0)),.ptr (some (Lk i16 1 0)),.ptr (some (Lk i16 1 0)),.slice a20 l21 c22,I6 ((l21:Nat):Int),.bool (decide (((l21:Nat):Int)>0)),.bool false,NdC.lv x19,I6 n26,.bool (decide (n26>24)),.bool false,.tuple [],.tuple [],NdC.lv x19] H29)))))))))):
 CallL cfg 54 [.str s] H R:=call_wt0 (k:=(.go 2 (.boxP (.boxP (.go 4 (.facts (.call (.tuple [.slice,.int .i64]) (.go 4 (.putP (.go 7 (.cases 12 (.go 5 (.check (.putP (.check (.putP (.check (.go 1 (.facts .ret)))))))) (.go 5 (.facts (.defer (.go 5 (.boxP (.go 5 (.facts (.callP 2 (.agg [.slice]) (.cust NdC NdC.lv) (.putP (.go 11 (.cases 27 (.go 9 (.facts .panic)) (.go 1 (.facts (.call (.int .i64) (.go 3 (.cases 31 (.go 4 (.facts .panic)) (.go 5 (.putP (.putP (.go 1 (.facts .retE)))))))))))))))))))))))))))))))) (by kernel_rfl) h
abbrev qP4_1:List LV:=[I6 0,.str [],I6 0,I6 0,.str [],.str [],.str [],I6 0,I6 0,.bool false,.bool false,.str [],.str [],I6 0,I6 0,.bool false,.bool false,.slice none 0 (.exact 0)]
theorem e114n(E:List LV->LHeap->Prop)(Pn:List LV->RR)(ds:List LDef)(dd:Bool)(X:List Nat)(H0:LHeap)(n0:NdC)(e:Int)(ii:Nat)(jj:Nat)(H:LHeap)
(h:Inv X H0 [Sk ii (NdC.cs n0) 72,Sk jj [I6 e] 23] H->E [.ptr (some (Lk ii 18 0)),.ptr (some (Lk jj 1 0)),.nilIface,.tuple [],.tuple [],.nilIface,.tuple [],.bool true,.tuple [],.tuple [],.tuple [],.tuple []] H):
 GoesG cfg (gD 114 ds dd E Pn) X H0 [Sk ii (NdC.cs n0) 72,Sk jj [I6 e] 23] [.own 0 0,.own 1 0,.lv .undef,.lv .undef,.lv .undef,.lv .nilIface,.lv .undef,.lv .undef,.lv .undef,.lv .undef,.lv .undef,.lv .undef] (regAt cfg 114 3) H:=seg_wg (k:=(.go 8 (.facts .retE))) (by kernel_rfl) h
theorem e114p(E:List LV->LHeap->Prop)(Pn:List LV->RR)(ds:List LDef)(dd:Bool)(X:List Nat)(H0:LHeap)(n0:NdC)(e:Int)(ii:Nat)(jj:Nat)(H:LHeap)
(h:NX H fun i0 H1=>PX [i0] H1 fun H2=>PX [ii] H2 fun H3=>PX [jj] H3 fun H4=>Inv X H0 [Sk ii qP4_1 72,Sk jj [I6 10] 23,Sk i0 [] 168] H4->E [.ptr (some (Lk ii 18 0)),.ptr (some (Lk jj 1 0)),.tuple [],.ptr (some (Lk i0 0 0)),.tuple [],.iface 168 (.agg []),.tuple [],.bool false,.tuple [.agg [],.bool true],.bool true,.agg [],.agg qP4_1] H4):
 GoesG cfg (gD 114 ds dd E Pn) X H0 [Sk ii (NdC.cs n0) 72,Sk jj [I6 e] 23] [.own 0 0,.own 1 0,.lv .undef,.lv .undef,.lv .undef,.lv (.iface 168 (.agg [])),.lv .undef,.lv .undef,.lv .undef,.lv .undef,.lv .undef,.lv .undef] (regAt cfg 114 3) H:=seg_wg (k:=(.go 13 (.boxP (.putP (.go 3 (.putP (.putP (.go 2 (.facts .retE))))))))) (by kernel_rfl) h
mutual
def NdStr:Nd->Prop
 | .mk x l=>x.s.length<=maxLen/\NdsStr l
def NdsStr:List Nd->Prop
 |[]=>True
 |n::l=>NdStr n/\NdsStr l
end
theorem NdsStr.all:∀{l:List Nd},(∀m∈l,NdStr m)->NdsStr l
 |[],_=>by unfold NdsStr;trivial
 |n::l,h=>by
  unfold NdsStr;exact ⟨h n List.mem_cons_self,NdsStr.all fun m hm=>h m (List.mem_cons_of_mem _ hm)⟩
theorem NdsStr.mem:∀{l:List Nd},NdsStr l->∀m∈l,NdStr m
 |[],h,m,hm=>by cases hm
 |n::l,h,m,hm=>by
  unfold NdsStr at h;rcases List.mem_cons.1 hm with rfl |hm
  ·exact h.1
  ·exact NdsStr.mem h.2 m hm
mutual
def NdE(H:LHeap)(P:Nat->Prop):Nd->Prop
 | .mk x l=>(∀a,x.argsA=some a->P a.id/\a.id<H.next/\loadN H a 0=some [])/\NdsE H P l
def NdsE(H:LHeap)(P:Nat->Prop):List Nd->Prop
 |[]=>True
 |n::l=>NdE H P n/\NdsE H P l
end
mutual
theorem NdE.onY{H H':LHeap}{P Q:Nat->Prop}{Y:List Nat}(p:PresX Y H H')(hP:∀i,P i->i<H.next->i∉Y/\Q i):∀{n:Nd},NdE H P n->NdE H' Q n
 | .mk x l,h=>by
  unfold NdE at h |-;refine ⟨fun a e=> ?_,NdsE.onY p hP h.2⟩;obtain ⟨h1,h2,h3⟩:=h.1 a e;obtain ⟨h4,h5⟩:=hP _ h1 h2;exact ⟨h5,Nat.lt_of_lt_of_le h2 p.next,(p.keep _ h2 h4).loads a _ _ rfl h3⟩
theorem NdsE.onY{H H':LHeap}{P Q:Nat->Prop}{Y:List Nat}(p:PresX Y H H')(hP:∀i,P i->i<H.next->i∉Y/\Q i):∀{l:List Nd},NdsE H P l->NdsE H' Q l
 |[],_=>by unfold NdsE;trivial
 |n::l,h=>by
  unfold NdsE at h |-;exact ⟨NdE.onY p hP h.1,NdsE.onY p hP h.2⟩
end
theorem NdE.on{H H':LHeap}{P:Nat->Prop}(p:PresX [] H H'){n:Nd}(h:NdE H P n):NdE H' P n:=NdE.onY p (fun i hi _=>⟨by simp,hi⟩) h
theorem NdsE.on{H H':LHeap}{P:Nat->Prop}(p:PresX [] H H'){l:List Nd}(h:NdsE H P l):NdsE H' P l:=NdsE.onY p (fun i hi _=>⟨by simp,hi⟩) h
theorem NdE.mono{H:LHeap}{P Q:Nat->Prop}(hP:∀i,P i->i<H.next->Q i){n:Nd}(h:NdE H P n):NdE H Q n:=NdE.onY (.refl [] H) (fun i hi hl=>⟨by simp,hP i hi hl⟩) h
theorem NdsE.all{H:LHeap}{P:Nat->Prop}:∀{l:List Nd},(∀m∈l,NdE H P m)->NdsE H P l
 |[],_=>by unfold NdsE;trivial
 |n::l,h=>by
  unfold NdsE;exact ⟨h n List.mem_cons_self,NdsE.all fun m hm=>h m (List.mem_cons_of_mem _ hm)⟩
theorem NdsE.mem{H:LHeap}{P:Nat->Prop}:∀{l:List Nd},NdsE H P l->∀m∈l,NdE H P m
 |[],_,m,hm=>by cases hm
 |n::l,h,m,hm=>by
  unfold NdsE at h;rcases List.mem_cons.1 hm with rfl |hm
  ·exact h.1
  ·exact NdsE.mem h.2 m hm
mutual
def Cp:Nd->Nd->Prop
 | .mk x l,.mk y m=>y.bare=x.bare/\Cps l m
def Cps:List Nd->List Nd->Prop
 |[],[]=>True
 |n::l,k::m=>Cp n k/\Cps l m
 |[],_::_=>False
 |_::_,[]=>False
end
theorem NdsAt.mem{H:LHeap}:∀{l:List Nd} {a:Option LAddr} {i:Nat},NdsAt H l a i->∀n∈l,NdAt H n
 |[],_,_,_,n,hn=>by cases hn
 |m::l,a,i,h,n,hn=>by
  unfold NdsAt at h;rcases List.mem_cons.1 hn with rfl |hn
  ·exact h.2.1
  ·exact NdsAt.mem h.2.2 n hn
theorem NdsSm.mem:∀{l:List Nd},NdsSm l->∀n∈l,NdSm n
 |[],_,n,hn=>by cases hn
 |m::l,h,n,hn=>by
  unfold NdsSm at h;rcases List.mem_cons.1 hn with rfl |hn
  ·exact h.1
  ·exact NdsSm.mem h.2 n hn
def bareT(N:Nd):List NdC:=(preT N).map NdC.bare
def bareTs(l:List Nd):List NdC:=(preTs l).map NdC.bare
theorem bareTs_cons(n:Nd)(l:List Nd):bareTs (n::l)=bareT n++bareTs l:=by unfold bareTs bareT;rw [preTs,List.map_append]
theorem bareT_len(N:Nd):(bareT N).length=(preT N).length:=by unfold bareT;rw [List.length_map]
theorem Cp.root{N M:Nd}(h:Cp N M):M.root.bare=N.root.bare:=by
 match N,M,h with
 | .mk x l,.mk y m,h=>unfold Cp at h;exact h.1
def WR(Y:List Nat)(J:List NdC->LHeap->Prop)(St:LHeap->Prop)(rest:List NdC)(H:LHeap):LV->LHeap->Prop:=
 fun v H'=>PresX Y H H'/\∃b,v=.bool b/\(b=true->J rest H')/\(b=false->St H')
theorem WR.sh{Y:List Nat}{J:List NdC->LHeap->Prop}{St:LHeap->Prop}{rest:List NdC}{H:LHeap}:∀v H',WR Y J St rest H v H'->PresX Y H H'/\hasSh .bool v:=
 fun v H' ⟨h1,b,e,_⟩=>⟨h1,b,e⟩
theorem bareTs_mem:∀{l:List Nd} {n:Nd},n∈l->(bareT n).length<=(bareTs l).length
 |[],n,h=>by cases h
 |m::l,n,h=>by
  rw [bareTs_cons,List.length_append];rcases List.mem_cons.1 h with rfl |h
  ·omega
  ·have:=bareTs_mem h;omega
mutual
def depthT:Nd->Int
 | .mk _ l=>depthTs l 0+1
def depthTs:List Nd->Int->Int
 |[],d=>d
 |n::l,d=>depthTs l (if depthT n>d then depthT n else d)
end
mutual
theorem depth_le:∀(n:Nd),1<=depthT n/\depthT n<=(preT n).length
 | .mk x l=>by
  have:=depths_le l 0 (by omega);unfold depthT;rw [preT,List.length_cons];omega
theorem depths_le:∀(l:List Nd) (d:Int),0<=d->d<=depthTs l d/\(depthTs l d<=d\/depthTs l d<=(preTs l).length)
 |[],d,h=>by unfold depthTs;omega
 |n::l,d,h=>by
  have h1:=depth_le n;unfold depthTs;rw [preTs,List.length_append];split
  ·have h2:=depths_le l (depthT n) (by omega);omega
  ·have h2:=depths_le l d h;omega
end
theorem loop50:∀(l:List Nd) (_:∀n∈l,∀H,NdAt H n->CallL cfg 50 [n.root.lv] H (Ret (.int .i64 (depthT n)) H)) (a:Option LAddr) (q:Cap) (k:Nat) (H0:LHeap) (r:Int),k<=1000000000->∀(dp:Int),0<=dp->dp<=1000000->(preTs l).length<=1000000->depthTs l dp=r->∀(i:Nat),i+l.length=k->NdsAt H0 l a i->∀(d:Nat->LV) (H:LHeap),
  GoesT cfg 50 (Ret (.int .i64 (r+1)) H0) [] H0 [] (L50t_0 d (i:Int) dp a k q (k:Int)) (loopAt cfg 50 0) H
 |[],_,a,q,k,H0,r,hk,dp,h0,h1,hsz,hr,i,hi,hA,d,H=>by
  intro hin hI;unfold depthTs at hr;refine g50t_0 _ H0 d i dp a k q k H ⟨fun h=> ?_,fun h hI=>⟨by rw [lwrap_small (by omega) (by omega),hr],hI.pres⟩⟩ hin hI;simp at h hi;omega
 |n::l,hs,a,q,k,H0,r,hk,dp,h0,h1,hsz,hr,i,hi,hA,d,H=>by
  intro hin hI;rw [List.length_cons] at hi;rw [preTs,List.length_append] at hsz;unfold NdsAt at hA;unfold depthTs at hr;obtain ⟨⟨n1,n2,n3⟩,n4,n5⟩:=hA;have hd:=depth_le n;have hk':lwrap .i64 ((i:Int)+1)=((i+1:Nat):Int):=by rw [lwrap_small (by omega) (by omega)];simp
  refine g50t_0 _ H0 d i dp a k q k H ⟨fun h=>⟨⟨by omega,by omega,n1⟩,fun hI=>⟨n.root,?ld,fun i9 H10 _ _ H11 _ hI11=>⟨_,hs n List.mem_cons_self H11 (n4.on hI11.pres),Ret.use ⟨_,rfl⟩,fun n13 H14 ⟨e,_⟩ d15=> ?next⟩⟩⟩,fun h=> ?ge⟩ hin hI
  case ge=>simp at h;omega
  case ld=>
   simp only [Int.toNat_natCast];exact hI.pres.load0 (a:=⟨(adr a).id,(adr a).ver,(adr a).off+i*18⟩) n2 n3
  case next=>
   cases e;rw [hk'];refine loop50 l (fun m hm=>hs m (List.mem_cons_of_mem _ hm)) a q k H0 r hk _ ?_ ?_ (by omega) hr (i+1) (by omega) n5 d15 H14
   ·split<;>omega
   ·split<;>omega
theorem s50(N:Nd)(H:LHeap)(hS:NdSm N)(hN:NdAt H N)(hsz:(preT N).length<=1000000):CallL cfg 50 [N.root.lv] H (Ret (.int .i64 (depthT N)) H):=by
 match N,hS,hN,hsz with
 | .mk x l,hS,hN,hsz=>
  have hN':=hN;unfold NdAt at hN';unfold NdSm at hS;rw [preT,List.length_cons] at hsz;have hmem:∀n∈l,(preT n).length<=1000000:=by
   intro n hn;have h1:=bareTs_mem hn;rw [bareT_len] at h1;unfold bareTs at h1;rw [List.length_map] at h1;omega
  refine e50t _ x H fun i1 H2 _ _ d3=> ?_;unfold depthT;exact loop50 l (fun n hn H' hA=>s50 n H' (hS.2.mem n hn) hA (hmem n hn)) x.argsA x.argsQ x.argsL H _ hS.1 0 (by omega) (by omega) (by omega) rfl 0 (by have:=hN'.1;omega) hN'.2.2 d3 H2
termination_by SizeOf.sizeOf N
decreasing_by
 have:=List.sizeOf_lt_of_mem hn
 simp_wf
 omega
end Go.Proofs.YtjihhflffkoffaaGreatDoor.Z
