/- Contracts of functions of the program; no condition. -/
import Derived.Test.YtjihhflffkoffaaGreatDoorG12
import Derived.Test.YtjihhflffkoffaaGreatDoorG5
import Derived.Test.YtjihhflffkoffaaGreatDoorG0
import Derived.Test.YtjihhflffkoffaaGreatDoorLe
import Derived.Test.YtjihhflffkoffaaGreatDoorG2
set_option linter.unusedSimpArgs false
set_option linter.unusedVariables false
set_option linter.unusedSectionVars false
set_option linter.unnecessarySimpa false
namespace Go.Proofs.YtjihhflffkoffaaGreatDoor.Z
open Go Go.Lm
set_option maxRecDepth 1000000
set_option maxHeartbeats 0
theorem load_sub{P:Program}{H:LHeap}{t u:TypeId}{a:LAddr}{n k m:Nat}{cs:List LV}(h1:isAggT P t=some true)(h2:sizeOfT P t=some n)(h:loadT P H t a=some (.agg cs))(h3:isAggT P u=some true)(h4:sizeOfT P u=some m)(hk:k+m<=n):
  loadT P H u ⟨a.id,a.ver,a.off+k⟩=some (.agg ((cs.drop k).take m)):=by
 unfold loadT at h |-
 rw [h1] at h
 rw [h3]
 simp only [h2,h4,Option.map_eq_some_iff] at h |-
 obtain ⟨cs',hl,he⟩:=h
 cases he
 refine ⟨_,?_,rfl⟩
 unfold loadN at hl |-
 simp only
 split at hl
 ·split at hl
  ·rename_i hb
   simp only [Bool.and_eq_true,Nat.ble_eq] at hb
   rw [if_pos (by simp only [Bool.and_eq_true,Nat.ble_eq];omega)]
   obtain ⟨hl1,rfl⟩:=takeN_some _ _ _ hl
   rw [dropN_eq] at hl1 |-
   rw [dropN_eq]
   rw [takeN_of _ _ (by rw [List.length_drop] at hl1 |-;omega)]
   rw [List.drop_take,List.take_take,List.drop_drop,Nat.min_eq_left (by omega)]
  ·cases hl
 ·cases hl
theorem ag69:isAggT cfg.P 69=some true:=by kernel_rfl
theorem sz69:sizeOfT cfg.P 69=some 6:=by kernel_rfl
def RefDS(i:Nat)(o:Res)(H:LHeap):LV->LHeap->Prop:=fun v H'=>(∃(x:NdC) (r:List TokC),o=some ([.mk x []],r)/\v=x.lv/\DS i false r H H')\/(∃x:NdC,o=none/\v=x.lv/\DS i true [] H H')
theorem refDS_sh{i:Nat}{o:Res}{H:LHeap}(v:LV)(H':LHeap)(h:RefDS i o H v H'):PresX [i] H H'/\hasSh (.cust NdC NdC.lv) v/\∃cs,hasSh (.agg [.slice,.bool]) (.agg cs)/\List.length cs=2/\H'.get i=some (Slot.obj ⟨i,cs,184⟩):=by
 rcases h with ⟨x,r,_,rfl,hd⟩ |⟨x,_,rfl,hd⟩
 ·exact ⟨(ds_sh hd).1,⟨_,rfl⟩,(ds_sh hd).2⟩
 ·exact ⟨(ds_sh hd).1,⟨_,rfl⟩,(ds_sh hd).2⟩
theorem d303(i:Nat)(t:TokC)(ts:List TokC)(a:Option LAddr)(k:Nat)(q:Cap)(H:LHeap)(hI:Inv [i] H [⟨i,[.slice a k q,.bool false],184⟩] H)(hT:TokAt H i 127 a k q ts):
  CallL cfg 303 [.ptr (some ⟨i,2,0⟩),t.lv] H (RefDS i (areaM t ts) H):=by
 have hi:i<H.next:=(hI.slot 0 _ rfl).1
 have ho:=opM_opS (s:=[58]) (by decide) ts
 refine e303d _ a k q false t i H hI fun i0 H1 l0 p1 i2 H3 l2 p3 hI3=>⟨_,d210 i false ts a k q H3 (inv_one hI3) (hT.via (.refl _ _) hI3.pres hi),Ret.use ⟨_,rfl⟩,fun s5 H6 hS=> ?_⟩
 obtain ⟨e,p6⟩:=hS
 cases e
 have p6':PresX [i] H H6:=hI3.pres.trans0 p6
 refine ⟨fun h H7 p7 hI7=> ?_,fun h hI6=>⟨_,d211 i [58] (by decide) false ts a k q H6 (inv_one hI6) (hT.via (.refl _ _) p6' hi),takeS_sh,fun a9 l10 c11 b12 H13 hS g13=> ?_⟩⟩
 ·have he:¬opS ts=[58]:=by simpa using h
  rw [if_neg he] at ho
  exact .inl ⟨refNp t,ts,by unfold areaM;rw [ho],rfl,hI7.pres,_,_,_,slot_i hI7,hT.via (.refl _ _) hI7.pres hi⟩
 ·have he:opS ts=[58]:=by simpa using h
  rw [if_pos he] at ho
  rcases hS.2 with ⟨r,hr,hd⟩ |⟨hr,_⟩
  ·obtain ⟨rfl,hT13⟩:=ds_at hd g13
   have p13:PresX [i] H H13:=p6'.trans hd.1 (fun y h=>.inl h)
   have hl:=hT13.len
   have bad:areaM t ts=none->∀{x:NdC} {l:List Slot} {a':Option LAddr} {k':Nat} {q':Cap} {b':Bool} {H20 H21:LHeap},(DS i true [] H13 H20)->H20.get i=some (Slot.obj (Slot.mk i [.slice a' k' q',.bool b'] 184))->Inv [i] H (⟨i,[.slice a' k' q',.bool b'],184⟩::l) H21->RefDS i (areaM t ts) H x.lv H21:=by
    intro hn x l a' k' q' b' H20 H21 hd' g hI'
    obtain ⟨rfl,hT'⟩:=ds_at hd' g
    have p20:PresX [i] H H20:=p13.trans hd'.1 (fun y h=>.inl h)
    exact .inr ⟨x,hn,rfl,hI'.pres,_,_,_,slot_i hI',hT'.via p20 hI'.pres hi⟩
   match r,hr,hd,hT13,hl with
   |[],hr,hd,hT13,hl=>
    have hn:areaM t ts=none:=by unfold areaM;rw [hr]
    refine ⟨fun h' hI13=>⟨_,d302 i false a9 l10 c11 H13 (inv_one hI13),failS_sh,fun x15 a16 l17 c18 b19 H20 hS g20 H21 p21 hI21=>bad hn hS.2 g20 hI21⟩,fun h'=> ?_⟩
    simp [hl] at h'
   |u::r',hr,hd,hT13,hl=>
    rw [List.length_cons] at hl
    obtain ⟨g1,g2,g3,g4,g5⟩:=hT13.tok 0 u rfl
    have hc:((0:Int)<=(0:Int))/\((0:Int)<((l10:Nat):Int))/\(Option.isSome a9)=Bool.true:=⟨by omega,by omega,g1⟩
    have har:areaM t ts=if u.kind≠3\/u.refSheet≠[] then none else some ([.mk (areaNp t u) []],r'):=by unfold areaM;rw [hr]
    refine ⟨fun h'=> ?_,fun h'=>⟨hc,fun hI13=>⟨u.kind,load_field (a:=⟨(adr a9).id,(adr a9).ver,(adr a9).off+0⟩) (k:=0) ag127 sz127 g5 ag3 rfl,fun h3 hI13=> ?_,fun h3=>⟨hc,fun hI13=>⟨u.refSheet,load_field (a:=⟨(adr a9).id,(adr a9).ver,(adr a9).off+0⟩) (k:=4) ag127 sz127 g5 ag9 rfl,fun h4 hI13=> ?_,fun h4=>⟨hc,fun hI13=>⟨refOfT u,?_,fun i47 H48 l48 p48 H49 p49=> ?_⟩⟩⟩⟩⟩⟩⟩
    ·simp at h';omega
    ·exact ⟨_,d302 i false a9 l10 c11 H13 (inv_one hI13),failS_sh,fun x15 a16 l17 c18 b19 H20 hS g20 H21 p21 hI21=>bad (by rw [har,if_pos (.inl (by simpa using h3))]) hS.2 g20 hI21⟩
    ·exact ⟨_,d302 i false a9 l10 c11 H13 (inv_one hI13),failS_sh,fun x15 a16 l17 c18 b19 H20 hS g20 H21 p21 hI21=>bad (by rw [har,if_pos (.inr (by simpa using h4))]) hS.2 g20 hI21⟩
    ·exact load_sub (a:=⟨(adr a9).id,(adr a9).ver,(adr a9).off+0⟩) (k:=3) ag127 sz127 g5 ag69 sz69 (by omega)
    ·obtain ⟨a',k',q',hsl,hT'⟩:=hT13.tail sl26 sz127
     refine ⟨a',k',q',hsl,fun H54 p54 H55 p55 hI55=>.inl ⟨areaNp t u,r',by rw [har,if_neg (by simp at h3 h4;simp [h3,h4])],rfl,hI55.pres,_,_,_,slot_i hI55,hT'.via p13 hI55.pres hi⟩⟩
  ·rw [hr] at ho;cases ho
theorem dloop315(i:Nat)(H0:LHeap)(hi:i<H0.next)(R:LV->LHeap->Prop)(i5:Nat)(x6:NdC)(i7:Nat)(B:Nat)(h5:i5<B)(h7:i7<B)(hB0:H0.next<=B)(h57:H0.next<=i7)(up:List UInt8)(ts0:List TokC)(hL:∀r,r.length<ts0.length->BinC r):
  ∀(n:Nat) (ts:List TokC) (ms:List Nd) (d:Nat->LV) (a:Option LAddr) (k:Nat) (q:Cap) (ra:Option LAddr) (rq:Cap) (H:LHeap),ts.length<n->ts.length<ts0.length->ms.length+ts.length<=1000->TokAt H i 127 a k q ts->Grown H B ra rq ms->B<=H.next->
  (∀ms' ra' rq' r r' v H',PD (.args ts (bareNs ms)) (some (bareNs ms',r))->opM [41] r=some r'->ms'.length<=16->v=(callC up ra' ms'.length rq').lv->NdAt H' (.mk (callC up ra' ms'.length rq') ms')->NdIds (H0.next<=·) (.mk (callC up ra' ms'.length rq') ms')->DS i false r' H0 H'->R v H')->
  (PD (.args ts (bareNs ms)) none->∀(x:NdC) H',DS i true [] H0 H'->R x.lv H')->
  (∀l r,PD (.args ts (bareNs ms)) (some (l,r))->shutM up l r=none->∀(x:NdC) H',DS i true [] H0 H'->R x.lv H')->
  GoesT cfg 315 R [i] H0 [⟨i,[.slice a k q,.bool false],184⟩,⟨i5,x6.cs,72⟩,⟨i7,(callC up ra ms.length rq).cs,72⟩] (L315d_0 d) (loopAt cfg 315 0) H
 |0,_,_,_,_,_,_,_,_,_,h,_,_,_,_,_,_,_,_=>by omega
 |n+1,ts,ms,d,a,k,q,ra,rq,H,hn,hts,hms,hT,hG,hBH,hR,hPn1,hPn2=>by
  intro hin hI
  have hrow:∀ad,ra=some ad->ad.id<H.next:=fun ad e=>by subst e;exact hG.row.id
  refine g315d_0 _ H0 d i a k q false i5 x6 i7 (callC up ra ms.length rq) H ⟨fun _=>⟨rfl,fun hI1=>⟨_,hL ts hts i 1 a k q H (by omega) (by omega) (inv_one hI1) hT,docS_sh,fun x11 a12 l13 c14 b15 H16 hS g16 H17 e17=>⟨rfl,fun hI17=> ?_⟩⟩⟩,fun h=>(by cases h)⟩ hin hI
  have p17:PresX [] H16 H17:=by rw [e17];exact .push _ _ _
  have n17:=p17.next
  have idY:∀{Y:List Nat},(∀j∈Y,∃ad,ra=some ad/\ad.id=j)->∀j∈Y,H0.next<=j/\B<=j:=fun h4 j hj=>by
   obtain ⟨ad,e,rfl⟩:=h4 j hj
   have:=hG.low ad e
   omega
  have ok:∀{a':Option LAddr} {k':Nat} {q':Cap} {b':Bool},∀j,H0.next<=j/\B<=j->okId [i] H0 [⟨i,[.slice a' k' q',.bool b'],184⟩,⟨i5,x6.cs,72⟩,⟨i7,(callC up ra ms.length rq).cs,72⟩] j:=fun j hj=>by
   refine ⟨.inr hj.1,fun m s hs=> ?_⟩
   match m,hs with
   |0,hs=>cases hs;show i≠_;omega
   |1,hs=>cases hs;show i5≠_;omega
   |2,hs=>cases hs;show i7≠_;omega
   |m+3,hs=>simp [nth] at hs
  rcases hS with ⟨nd,r,hPD,e,hN,hD,hd⟩ |⟨x,hPD,e,hd⟩
  ·obtain rfl:=NdC.lv_inj e
   obtain ⟨rfl,hT16⟩:=ds_at hd g16
   have hlen:=(hPD.same (show (1:Int)<=1 by omega) (show (1:Int)<=6 by omega)).less rfl
   simp only at hlen
   have n16:=hd.1.next
   have p16:PresX [i] H0 H16:=hI.pres.trans hd.1 (fun y h=>.inl h)
   have G16:Grown H16 B ra rq ms:=hG.on hd.1 (fun y hy=>.inl (by rw [List.mem_singleton.1 hy];omega))
   have G17:Grown H17 B ra rq ms:=G16.on p17 (fun y hy=>by cases hy)
   obtain ⟨Y,ra',rq',H22,a1,a2,a3,a4⟩:=G17.more (M:=nd) (x:=.slice (some ⟨H16.next,18,0⟩) 1 (.exact 1)) (NdAt.on p17 hN) (NdIds.mono (fun j hj=>⟨by omega,fun ad e=>by have:=hrow ad e;omega⟩) hD) (by omega) rfl (row_push e17) (by omega)
   have hok:=idY a4
   refine ⟨Y,ra',ms.length+1,rq',H22,⟨a1,a2,fun j hj=>ok j (hok j hj)⟩,fun H24 p24 hI24=> ?_⟩
   have n22:=a2.next
   have n24:=p24.next
   have p22:PresX [i] H0 H22:=(p16.trans0 p17).trans a2 (fun y hy=>.inr (hok y hy).1)
   have G24:Grown H24 B ra' rq' (ms++[nd]):=a3.on p24 (fun y hy=>.inl (by rw [List.mem_singleton.1 hy];omega))
   have ho:=opM_opS (s:=[44]) (by decide) r
   refine ⟨_,d210 i false r a12 l13 c14 H24 (inv_one hI24) (hT16.via p16 hI24.pres hi),Ret.use ⟨_,rfl⟩,fun s27 H28 hS=> ?_⟩
   obtain ⟨e,p28⟩:=hS
   cases e
   have p28':PresX [i] H0 H28:=hI24.pres.trans0 p28
   have n28:=p28.next
   have G28:Grown H28 B ra' rq' (ms++[nd]):=G24.on p28 (fun y hy=>by cases hy)
   have hT28:=hT16.via p16 p28' hi
   have hlen1:(ms++[nd]).length=ms.length+1:=by simp
   refine ⟨fun h hI28=> ?_,fun h hI28=> ?_⟩
   ·have he:¬opS r=[44]:=by simpa using h
    rw [if_neg he] at ho
    have hargs:PD (.args ts (bareNs ms)) (some (bareNs (ms++[nd]),r)):=by
     rw [bareNs_app]
     exact .args1 hPD ho
    refine ⟨_,d211 i [41] (by decide) false r a12 l13 c14 H28 (inv_one hI28) hT28,takeS_sh,fun a30 l31 c32 b33 H34 hS g34=> ?_⟩
    rcases hS.2 with ⟨r3,h41,hd3⟩ |⟨h41,hd3⟩
    ·obtain ⟨rfl,hT34⟩:=ds_at hd3 g34
     have n34:=hd3.1.next
     have p34:PresX [i] H0 H34:=p28'.trans hd3.1 (fun y h=>.inl h)
     refine ⟨fun hbig hI34=>⟨_,d302 i false a30 l31 c32 H34 (inv_one hI34),failS_sh,fun x36 a37 l38 c39 b40 H41 hS g41 H42 p42 hI42=> ?_⟩,fun hsm H43 p43 hI43=> ?_⟩
     ·obtain ⟨rfl,hT41⟩:=ds_at hS.2 g41
      have p41:PresX [i] H0 H41:=p34.trans hS.2.1 (fun y h=>.inl h)
      exact hPn2 _ _ hargs (by unfold shutM;rw [h41];simp only;rw [if_pos (by rw [bareNs_len,hlen1];simp at hbig;omega)]) x36 H42 ⟨hI42.pres,_,_,_,slot_i hI42,hT41.via p41 hI42.pres hi⟩
     ·have G43:Grown H43 B ra' rq' (ms++[nd]):=(G28.on hd3.1 (fun y hy=>.inl (by rw [List.mem_singleton.1 hy];omega))).on p43 (fun y hy=>.inl (by rw [List.mem_singleton.1 hy];omega))
      have hnode:=G43.node up (by rw [hlen1];omega)
      exact hR (ms++[nd]) ra' rq' r r3 _ H43 hargs h41 (by rw [hlen1];simp at hsm;omega) (by rw [hlen1];rfl) hnode.1 (NdIds.mono (fun j hj=>by omega) hnode.2) ⟨hI43.pres,_,_,_,slot_i hI43,hT34.via p34 hI43.pres hi⟩
    ·obtain ⟨rfl,hT34⟩:=ds_at hd3 g34
     have p34:PresX [i] H0 H34:=p28'.trans hd3.1 (fun y h=>.inl h)
     have hsh:shutM up (bareNs (ms++[nd])) r=none:=by unfold shutM;rw [h41]
     refine ⟨fun hbig hI34=>⟨_,d302 i true a30 l31 c32 H34 (inv_one hI34),failS_sh,fun x36 a37 l38 c39 b40 H41 hS g41 H42 p42 hI42=> ?_⟩,fun hsm H43 p43 hI43=> ?_⟩
     ·obtain ⟨rfl,hT41⟩:=ds_at hS.2 g41
      have p41:PresX [i] H0 H41:=p34.trans hS.2.1 (fun y h=>.inl h)
      exact hPn2 _ _ hargs hsh x36 H42 ⟨hI42.pres,_,_,_,slot_i hI42,hT41.via p41 hI42.pres hi⟩
     ·exact hPn2 _ _ hargs hsh (callC up ra' (ms.length+1) rq') H43 ⟨hI43.pres,_,_,_,slot_i hI43,hT34.via p34 hI43.pres hi⟩
   ·have he:opS r=[44]:=by simpa using h
    rw [if_pos he] at ho
    refine ⟨_,d211 i [44] (by decide) false r a12 l13 c14 H28 (inv_one hI28) hT28,takeS_sh,fun a45 l46 c47 b48 H49 hS g49 d50=> ?_⟩
    rcases hS.2 with ⟨r2,h44,hd3⟩ |⟨h44,hd3⟩
    ·obtain ⟨rfl,hT49⟩:=ds_at hd3 g49
     have n49:=hd3.1.next
     have G49:Grown H49 B ra' rq' (ms++[nd]):=G28.on hd3.1 (fun y hy=>.inl (by rw [List.mem_singleton.1 hy];omega))
     have hl2:=opM_len h44
     have:=dloop315 i H0 hi R i5 x6 i7 B h5 h7 hB0 h57 up ts0 hL n r2 (ms++[nd]) d50 a45 l46 c47 ra' rq' H49 (by omega) (by omega) (by rw [hlen1];omega) hT49 G49 (by omega)
      (fun ms' ra' rq' r r' v H' h1=>hR ms' ra' rq' r r' v H' (.args hPD h44 (by rw [<-bareNs_app];exact h1)))
      (fun h1=>hPn1 (.args hPD h44 (by rw [<-bareNs_app];exact h1))) (fun l r h1=>hPn2 l r (.args hPD h44 (by rw [<-bareNs_app];exact h1)))
     rw [hlen1] at this
     exact this
    ·rw [h44] at ho;cases ho
  ·
   obtain ⟨rfl,hT16⟩:=ds_at hd g16
   have n16:=hd.1.next
   have p16:PresX [i] H0 H16:=hI.pres.trans hd.1 (fun y h=>.inl h)
   have hnone:PD (.args ts (bareNs ms)) none:=.args0 hPD
   have G16:Grown H16 B ra rq ms:=hG.on hd.1 (fun y hy=>.inl (by rw [List.mem_singleton.1 hy];omega))
   have G17:Grown H17 B ra rq ms:=G16.on p17 (fun y hy=>by cases hy)
   obtain ⟨Y,ra',rq',H22,a1,a2,a3,a4,a5⟩:=G17.row.append rowT (x:=.slice (some ⟨H16.next,18,0⟩) 1 (.exact 1)) rfl (row_push e17) (by rw [ndc_len]) (ndc_cells _) (by omega)
   have hok:=idY a4
   refine ⟨Y,ra',ms.length+1,rq',H22,⟨a1,a2,fun j hj=>ok j (hok j hj)⟩,fun H24 p24 hI24=> ?_⟩
   refine ⟨_,d210 i true [] a12 l13 c14 H24 (inv_one hI24) (hT16.via p16 hI24.pres hi),Ret.use ⟨_,rfl⟩,fun s27 H28 hS=> ?_⟩
   obtain ⟨e,p28⟩:=hS
   cases e
   have p28':PresX [i] H0 H28:=hI24.pres.trans0 p28
   have hT28:=hT16.via p16 p28' hi
   refine ⟨fun h hI28=> ?_,fun h hI28=>(by simp [opS] at h)⟩
   refine ⟨_,d211 i [41] (by decide) true [] a12 l13 c14 H28 (inv_one hI28) hT28,takeS_sh,fun a30 l31 c32 b33 H34 hS g34=> ?_⟩
   rcases hS.2 with ⟨r3,h41,hd3⟩ |⟨h41,hd3⟩
   ·cases h41
   ·obtain ⟨rfl,hT34⟩:=ds_at hd3 g34
    have p34:PresX [i] H0 H34:=p28'.trans hd3.1 (fun y h=>.inl h)
    refine ⟨fun hbig hI34=>⟨_,d302 i true a30 l31 c32 H34 (inv_one hI34),failS_sh,fun x36 a37 l38 c39 b40 H41 hS g41 H42 p42 hI42=> ?_⟩,fun hsm H43 p43 hI43=> ?_⟩
    ·obtain ⟨rfl,hT41⟩:=ds_at hS.2 g41
     have p41:PresX [i] H0 H41:=p34.trans hS.2.1 (fun y h=>.inl h)
     exact hPn1 hnone x36 H42 ⟨hI42.pres,_,_,_,slot_i hI42,hT41.via p41 hI42.pres hi⟩
    ·exact hPn1 hnone (callC up ra' (ms.length+1) rq') H43 ⟨hI43.pres,_,_,_,slot_i hI43,hT34.via p34 hI43.pres hi⟩
theorem docAlone{i:Nat}{t:TokC}{r r':List TokC}{x:NdC}{H H':LHeap}(ho:opM [40] (t::r)=none)(ha:aloneM t r=some (some ([.mk x []],r')))(hb:x.bare=x)(hp:DS i false r' H H'):DocS i (.plain (t::r)) H x.lv H':=by
 refine .inl ⟨.mk x [],r',?_,rfl,?_,?_,hp⟩
 ·have:bareN (.mk x [])=.mk x []:=by simp only [bareN,bareNs,hb]
  rw [this]
  exact .alone ho ha
 ·unfold NdAt NdsAt
  have:x.argsL=0:=by rw [<-hb];rfl
  exact ⟨this.symm,by rw [this];exact Nat.zero_le _,trivial⟩
 ·unfold NdIds NdsIds
  exact ⟨.inl rfl,trivial⟩
theorem d315(i:Nat)(t:TokC)(r r1:List TokC)(a:Option LAddr)(k:Nat)(q:Cap)(H:LHeap)(hI:Inv [i] H [⟨i,[.slice a k q,.bool false],184⟩] H)(hT:TokAt H i 127 a k q r)(hk:t.kind=4)(hbk:t.refBook=[])(hr:opM [40] r=some r1)(hL:∀r',r'.length<r.length+1->BinC r'):
  CallL cfg 315 [.ptr (some ⟨i,2,0⟩),.str (upL t.s)] H (DocS i (.plain (t::r)) H):=by
 have hi:i<H.next:=(hI.slot 0 _ rfl).1
 have ho:opM [40] (t::r)=none:=by rw [opM_cons,if_neg];rintro ⟨e,_⟩;omega
 have h4:=alone4 hk r
 rw [if_pos hbk,hr] at h4
 simp only at h4
 have hl1:=opM_len hr
 have hsm:=hT.small
 have hlen:=hT.len
 refine e315d _ a k q false (upL t.s) i H hI fun i0 H1 l0 p1 i2 H3 l2 p3 H4 p4 hI4=>⟨_,d211 i [40] (by decide) false r a k q H4 (inv_one hI4) (hT.via (.refl _ _) hI4.pres hi),takeS_sh,fun a6 l7 c8 b9 H10 hS g10 hI10=> ?_⟩
 rcases hS.2 with ⟨r0,hr0,hd⟩ |⟨hr0,_⟩
 ·rw [hr] at hr0
  cases hr0
  obtain ⟨rfl,hT10⟩:=ds_at hd g10
  have hop:=opM_opS (s:=[41]) (by decide) r1
  refine ⟨_,d210 i false r1 a6 l7 c8 H10 (inv_one hI10) hT10,Ret.use ⟨_,rfl⟩,fun s12 H13 hS=> ?_⟩
  obtain ⟨e,p13⟩:=hS
  cases e
  have p13':PresX [i] H H13:=hI10.pres.trans0 p13
  have hT13:=hT10.via hI10.pres p13' hi
  have li0:=(hI10.slot 1 _ rfl).1
  have li2:=(hI10.slot 2 _ rfl).1
  simp only at li0 li2
  have n13:=p13.next
  refine ⟨fun h hI13=>⟨_,d211 i [41] (by decide) false r1 a6 l7 c8 H13 (inv_one hI13) hT13,takeS_sh,fun a15 l16 c17 b18 H19 hS g19 H20 p20 hI20=> ?_⟩,fun h d21=> ?_⟩
  ·have he:opS r1=[41]:=by simpa using h
   rw [if_pos he] at hop
   rcases hS.2 with ⟨r2,h41,hd2⟩ |⟨h41,_⟩
   ·obtain ⟨rfl,hT19⟩:=ds_at hd2 g19
    have p19:PresX [i] H H19:=p13'.trans hd2.1 (fun y h=>.inl h)
    rw [h41] at h4
    exact docAlone ho h4 rfl ⟨hI20.pres,_,_,_,slot_i hI20,hT19.via p19 hI20.pres hi⟩
   ·rw [h41] at hop;cases hop
  ·have he:¬opS r1=[41]:=by simpa using h
   rw [if_neg he] at hop
   rw [hop] at h4
   simp only at h4
   refine dloop315 i H hi _ i0 nilNp i2 H13.next (by omega) (by omega) p13'.next (by have:=p1.next;omega) (upL t.s) (t::r) (fun r' hr'=>hL r' (by simpa using hr')) (r1.length+1) r1 [] d21 a6 l7 c8 none (.exact 0) H13 (by omega) (by simp only [List.length_cons];omega) (by simp only [List.length_nil];omega) hT13 ⟨.nil,by simp,by simp,by simp⟩ (Nat.le_refl _) ?_ ?_ ?_
   ·intro ms' ra' rq' r3 r' v H' h1 h2 h3 h5 h6 h7 h8
    have hc:=PD.call ho h4 hr h1
    have hs:shutM (upL t.s) (bareNs ms') r3=some ([callNp (upL t.s) (bareNs ms')],r'):=by
     unfold shutM
     rw [h2]
     simp only
     rw [if_neg (by rw [bareNs_len];omega)]
    rw [hs] at hc
    exact .inl ⟨.mk (callC (upL t.s) ra' ms'.length rq') ms',r',hc,h5,h6,h7,h8⟩
   ·intro h1 x H' hds
    exact .inr ⟨x,.call0 ho h4 hr h1,rfl,hds⟩
   ·intro l r3 h1 h2 x H' hds
    have hc:=PD.call ho h4 hr h1
    rw [h2] at hc
    exact .inr ⟨x,hc,rfl,hds⟩
 ·rw [hr] at hr0;cases hr0
theorem d304(i:Nat)(t:TokC)(r:List TokC)(a:Option LAddr)(k:Nat)(q:Cap)(H:LHeap)(hI:Inv [i] H [⟨i,[.slice a k q,.bool false],184⟩] H)(hT:TokAt H i 127 a k q r)(hok:TokOK t)(hk:t.kind=4)(hL:∀r',r'.length<r.length+1->BinC r'):
  CallL cfg 304 [.ptr (some ⟨i,2,0⟩),t.lv] H (DocS i (.plain (t::r)) H):=by
 have hi:i<H.next:=(hI.slot 0 _ rfl).1
 have ho:opM [40] (t::r)=none:=by rw [opM_cons,if_neg];rintro ⟨e,_⟩;omega
 have hop:=opM_opS (s:=[40]) (by decide) r
 have hs:=hok.1
 have tail:(if t.refBook=[] then opM [40] r else none)=none->∀{l:List Slot} {H27:LHeap},Inv [i] H (⟨i,[.slice a k q,.bool false],184⟩::l) H27->
   (decide (truthF t.s>=0)=true->DocS i (.plain (t::r)) H ({ nilNp with kind:=1,valueKind:=3,valueN:=truthF t.s }:NdC).lv H27)/\
   (decide (truthF t.s>=0)=false->DocS i (.plain (t::r)) H (nameNp t).lv H27):=by
  intro hno l H27 hI27
  have h4:=alone4 hk r
  rw [hno] at h4
  simp only at h4
  have hds:DS i false r H H27:=⟨hI27.pres,_,_,_,slot_i hI27,hT.via (.refl _ _) hI27.pres hi⟩
  unfold truthF
  unfold upL at h4
  by_cases h1:t.s.map upB=[84,82,85,69]
  ·rw [if_pos h1] at h4
   refine ⟨fun _=> ?_,fun h=> ?_⟩
   ·rw [if_pos (by simpa using h1)]
    exact docAlone ho h4 rfl hds
   ·rw [if_pos (by simpa using h1)] at h;simp at h
  ·rw [if_neg h1] at h4
   by_cases h2:t.s.map upB=[70,65,76,83,69]
   ·rw [if_pos h2] at h4
    refine ⟨fun _=> ?_,fun h=> ?_⟩
    ·rw [if_neg (by simpa using h1),if_pos (by simpa using h2)]
     exact docAlone ho h4 rfl hds
    ·rw [if_neg (by simpa using h1),if_pos (by simpa using h2)] at h;simp at h
   ·rw [if_neg h2] at h4
    refine ⟨fun h=> ?_,fun _=>docAlone ho h4 rfl hds⟩
    rw [if_neg (by simpa using h1),if_neg (by simpa using h2)] at h;simp at h
 refine e304d _ a k q false t i H hI fun i0 H1 l0 p1 i2 H3 l2 p3 hI3=>⟨_,d210 i false r a k q H3 (inv_one hI3) (hT.via (.refl _ _) hI3.pres hi),Ret.use ⟨_,rfl⟩,fun s5 H6 hS=> ?_⟩
 obtain ⟨e,p6⟩:=hS
 cases e
 have p6':PresX [i] H H6:=hI3.pres.trans0 p6
 have l2':=(hI3.slot 2 _ rfl).1
 simp only at l2'
 have n6:=p6.next
 refine ⟨fun h=>⟨fun hbk hI6=>⟨_,s252 t.s H6 (by omega),Ret.use ⟨_,rfl⟩,fun s8 H9 hS hI9=> ?_⟩,fun hbk hI6=>⟨_,x182 t.s (by omega) H6,Ret.use ⟨_,rfl⟩,fun n19 H20 hS=> ?_⟩⟩,fun h hI6=>⟨_,x182 t.s (by omega) H6,Ret.use ⟨_,rfl⟩,fun n19 H20 hS=> ?_⟩⟩
 ·obtain ⟨e,p9⟩:=hS
  cases e
  have he:opS r=[40]:=by simpa using h
  rw [if_pos he] at hop
  have hbk':t.refBook=[]:=by simpa using hbk
  refine ⟨_,d315 i t r _ a k q H9 (inv_one hI9) (hT.via (.refl _ _) hI9.pres hi) hk hbk' hop hL,docS_sh,fun x11 a12 l13 c14 b15 H16 hS g16 H17 p17 hI17=> ?_⟩
  have n9:=hI9.pres.next
  have n9':=p9.next
  rcases hS with ⟨nd,r',hPD,e,hN,hD,hd⟩ |⟨x,hPD,e,hd⟩
  ·obtain rfl:=NdC.lv_inj e
   obtain ⟨rfl,hT16⟩:=ds_at hd g16
   have p16:PresX [i] H H16:=hI9.pres.trans hd.1 (fun y h=>.inl h)
   exact .inl ⟨nd,r',hPD,rfl,NdAt.onY p17 (NdIds.mono (fun j hj hm=>by have:=List.mem_singleton.1 hm;omega) hD) hN,NdIds.mono (fun j hj=>by omega) hD,hI17.pres,_,_,_,slot_i hI17,hT16.via p16 hI17.pres hi⟩
  ·obtain ⟨rfl,hT16⟩:=ds_at hd g16
   have p16:PresX [i] H H16:=hI9.pres.trans hd.1 (fun y h=>.inl h)
   exact .inr ⟨x11,hPD,rfl,hI17.pres,_,_,_,slot_i hI17,hT16.via p16 hI17.pres hi⟩
 ·obtain ⟨e,p20⟩:=hS
  cases e
  have hno:(if t.refBook=[] then opM [40] r else none)=none:=by rw [if_neg];simpa using hbk
  exact ⟨fun h H21 p21 hI21=>(tail hno hI21).1 h,fun h H22 p22 hI22=>(tail hno hI22).2 h⟩
 ·obtain ⟨e,p20⟩:=hS
  cases e
  have he:¬opS r=[40]:=by simpa using h
  rw [if_neg he] at hop
  have hno:(if t.refBook=[] then opM [40] r else none)=none:=by split;exact hop;rfl
  exact ⟨fun h H21 p21 hI21=>(tail hno hI21).1 h,fun h H22 p22 hI22=>(tail hno hI22).2 h⟩
theorem plain_of(ts:List TokC)(hL:∀r,r.length<ts.length->BinC r):PlainC ts:=by
 intro i a k q H hI hT
 have hi:i<H.next:=(hI.slot 0 _ rfl).1
 have hl:=hT.len
 refine e269d _ a k q false i H hI fun i0 H1 l0 p1=>⟨fun h=>(by cases h),fun _=>⟨fun h hI1=> ?_,fun h=> ?_⟩⟩
 ·have h0:ts=[]:=by
   cases ts with
   |nil=>rfl
   |cons t r=>simp [hl] at h;omega
  subst h0
  refine ⟨_,d302 i false a k q H1 (inv_one hI1),failS_sh,fun x11 a12 l13 c14 b15 H16 hS g16 H17 p17 hI17=> ?_⟩
  obtain ⟨rfl,hT16⟩:=ds_at hS.2 g16
  have p16:PresX [i] H H16:=hI1.pres.trans hS.2.1 (fun y h=>.inl h)
  exact .inr ⟨x11,.empty,rfl,hI17.pres,_,_,_,slot_i hI17,hT16.via p16 hI17.pres hi⟩
 ·match ts,hT,hl,hL with
  |[],hT,hl,hL=>simp [hl] at h
  |t::r,hT,hl,hL=>
   obtain ⟨h1,h2,h3,hok,h5⟩:=hT.tok 0 t rfl
   rw [List.length_cons] at hl
   refine ⟨⟨by omega,by omega,h1⟩,fun hI1=>⟨t,?_,fun i21 H22 l22 p22 H23 p23=> ?_⟩⟩
   ·have:=p1.load (a:=⟨(adr a).id,(adr a).ver,(adr a).off+0*9⟩) h2 (by simp) h5
    simpa using this
   ·obtain ⟨a',k',q',hsl,hT'⟩:=hT.tail sl26 sz127
    have li0:=(hI1.slot 1 _ rfl).1
    simp only at li0
    have n1:=p1.next
    have n22:=p22.next
    have n23:=p23.next
    refine ⟨a',k',q',hsl,fun H28 p28=> ?_⟩
    have n28:=p28.next
    have con:∀{x:NdC} {l:List Slot} {H':LHeap},opM [40] (t::r)=none->x.bare=x->aloneM t r=some (some ([.mk x []],r))->Inv [i] H (⟨i,[.slice a' k' q',.bool false],184⟩::l) H'->DocS i (.plain (t::r)) H x.lv H':=fun ho hx ha hI'=>
     docAlone ho ha hx ⟨hI'.pres,_,_,_,slot_i hI',hT'.via (.refl _ _) hI'.pres hi⟩
    have no5:t.kind≠5->opM [40] (t::r)=none:=fun h=>by rw [opM_cons,if_neg];exact fun e=>h e.1
    refine ⟨fun hk H29 p29 hI29=> ?_,fun k1=>⟨fun hk H30 p30 hI30=> ?_,fun k2=>⟨fun hk H31 p31 hI31=> ?_,fun k6=>⟨fun hk hI28=> ?_,fun k3=>⟨fun hk hI28=> ?_,fun k4=>⟨fun hs hI28=> ?_,fun hs hI28=> ?_⟩⟩⟩⟩⟩⟩
    ·have hk':t.kind=1:=by simpa using hk
     exact con (no5 (by omega)) rfl (by unfold aloneM;rw [if_pos hk'];rfl) hI29
    ·have hk':t.kind=2:=by simpa using hk
     exact con (no5 (by omega)) rfl (by unfold aloneM;rw [if_neg (by omega),if_pos hk'];rfl) hI30
    ·have hk':t.kind=6:=by simpa using hk
     exact con (no5 (by omega)) rfl (by unfold aloneM;rw [if_neg (by omega),if_neg (by omega),if_pos hk'];rfl) hI31
    ·have hk':t.kind=3:=by simpa using hk
     have ho:=no5 (by omega)
     have ha:aloneM t r=some (areaM t r):=by unfold aloneM;rw [if_neg (by omega),if_neg (by omega),if_neg (by omega),if_pos hk']
     refine ⟨_,d303 i t r a' k' q' H28 (inv_one hI28) (hT'.via (.refl _ _) hI28.pres hi),refDS_sh,fun x33 a34 l35 c36 b37 H38 hS g38 H39 p39 hI39=> ?_⟩
     rcases hS with ⟨x,r2,hm,e,hd⟩ |⟨x,hm,e,hd⟩
     ·obtain rfl:=NdC.lv_inj e
      obtain ⟨rfl,hT38⟩:=ds_at hd g38
      have p38:PresX [i] H H38:=hI28.pres.trans hd.1 (fun y h=>.inl h)
      exact docAlone ho (by rw [ha,hm]) (areaM_bare hm) ⟨hI39.pres,_,_,_,slot_i hI39,hT38.via p38 hI39.pres hi⟩
     ·obtain ⟨rfl,hT38⟩:=ds_at hd g38
      have p38:PresX [i] H H38:=hI28.pres.trans hd.1 (fun y h=>.inl h)
      exact .inr ⟨x33,.alone ho (by rw [ha,hm]),rfl,hI39.pres,_,_,_,slot_i hI39,hT38.via p38 hI39.pres hi⟩
    ·have hk':t.kind=4:=by simpa using hk
     refine ⟨_,d304 i t r a' k' q' H28 (inv_one hI28) (hT'.via (.refl _ _) hI28.pres hi) hok hk' (fun r3 h3=>hL r3 (by simpa using h3)),docS_sh,fun x41 a42 l43 c44 b45 H46 hS g46 H47 p47 hI47=> ?_⟩
     have n28':=hI28.pres.next
     rcases hS with ⟨nd,r',hPD,e,hN,hD,hd⟩ |⟨x,hPD,e,hd⟩
     ·obtain rfl:=NdC.lv_inj e
      obtain ⟨rfl,hT46⟩:=ds_at hd g46
      have p46:PresX [i] H H46:=hI28.pres.trans hd.1 (fun y h=>.inl h)
      exact .inl ⟨nd,r',hPD,rfl,NdAt.onY p47 (NdIds.mono (fun j hj hm=>by have:=List.mem_singleton.1 hm;omega) hD) hN,NdIds.mono (fun j hj=>by omega) hD,hI47.pres,_,_,_,slot_i hI47,hT46.via p46 hI47.pres hi⟩
     ·obtain ⟨rfl,hT46⟩:=ds_at hd g46
      have p46:PresX [i] H H46:=hI28.pres.trans hd.1 (fun y h=>.inl h)
      exact .inr ⟨x41,hPD,rfl,hI47.pres,_,_,_,slot_i hI47,hT46.via p46 hI47.pres hi⟩
    ·have h5':t.kind=5:=by
      have:=hok.2
      simp at k1 k2 k3 k4 k6
      omega
     have hs':t.s=[40]:=by simpa using hs
     have ho:opM [40] (t::r)=some r:=by rw [opM_cons,if_pos ⟨h5',hs'⟩]
     refine ⟨_,hL r (by simp) i 1 a' k' q' H28 (by omega) (by omega) (inv_one hI28) (hT'.via (.refl _ _) hI28.pres hi),docS_sh,fun x49 a50 l51 c52 b53 H54 hS g54 i55 H56 l56 p56 H57 p57 hI57=> ?_⟩
     have n28':=hI28.pres.next
     have n56:=p56.next
     have n57:=p57.next
     rcases hS with ⟨nd,r',hPD,e,hN,hD,hd⟩ |⟨x,hPD,e,hd⟩
     ·obtain rfl:=NdC.lv_inj e
      obtain ⟨rfl,hT54⟩:=ds_at hd g54
      have p54:PresX [i] H H54:=hI28.pres.trans hd.1 (fun y h=>.inl h)
      have n54:=hd.1.next
      refine ⟨_,d211 i [41] (by decide) false r' a50 l51 c52 H57 (inv_one hI57) (hT54.via p54 hI57.pres hi),takeS_sh,fun a59 l60 c61 b62 H63 hS g63 H64 p64 hI64=> ?_⟩
      rcases hS.2 with ⟨r2,h41,hd2⟩ |⟨h41,hd2⟩
      ·obtain ⟨rfl,hT63⟩:=ds_at hd2 g63
       have p63:PresX [i] H H63:=hI57.pres.trans hd2.1 (fun y h=>.inl h)
       exact .inl ⟨nd,r2,.paren ho hPD h41,rfl,NdAt.onY p64 (NdIds.mono (fun j hj hm=>by have:=List.mem_singleton.1 hm;omega) hD) (NdAt.onY hd2.1 (NdIds.mono (fun j hj hm=>by have:=List.mem_singleton.1 hm;omega) hD) (NdAt.onY p57 (NdIds.mono (fun j hj hm=>by have:=List.mem_singleton.1 hm;omega) (NdAt.ids hN)) (NdAt.on p56 hN))),NdIds.mono (fun j hj=>by omega) hD,hI64.pres,_,_,_,slot_i hI64,hT63.via p63 hI64.pres hi⟩
      ·obtain ⟨rfl,hT63⟩:=ds_at hd2 g63
       have p63:PresX [i] H H63:=hI57.pres.trans hd2.1 (fun y h=>.inl h)
       exact .inr ⟨nd.root,.paren1 ho hPD h41,rfl,hI64.pres,_,_,_,slot_i hI64,hT63.via p63 hI64.pres hi⟩
     ·obtain ⟨rfl,hT54⟩:=ds_at hd g54
      have p54:PresX [i] H H54:=hI28.pres.trans hd.1 (fun y h=>.inl h)
      refine ⟨_,d211 i [41] (by decide) true [] a50 l51 c52 H57 (inv_one hI57) (hT54.via p54 hI57.pres hi),takeS_sh,fun a59 l60 c61 b62 H63 hS g63 H64 p64 hI64=> ?_⟩
      rcases hS.2 with ⟨r2,h41,hd2⟩ |⟨h41,hd2⟩
      ·cases h41
      ·obtain ⟨rfl,hT63⟩:=ds_at hd2 g63
       have p63:PresX [i] H H63:=hI57.pres.trans hd2.1 (fun y h=>.inl h)
       exact .inr ⟨x49,.paren0 ho hPD,rfl,hI64.pres,_,_,_,slot_i hI64,hT63.via p63 hI64.pres hi⟩
    ·have hs':¬t.s=[40]:=by simpa using hs
     have ho:opM [40] (t::r)=none:=by rw [opM_cons,if_neg];exact fun e=>hs' e.2
     have ha:aloneM t r=some none:=by
      unfold aloneM
      rw [if_neg (by simpa using k1),if_neg (by simpa using k2),if_neg (by simpa using k6),if_neg (by simpa using k3),if_neg (by simpa using k4)]
     refine ⟨_,d302 i false a' k' q' H28 (inv_one hI28),failS_sh,fun x66 a67 l68 c69 b70 H71 hS g71 H72 p72 hI72=> ?_⟩
     obtain ⟨rfl,hT71⟩:=ds_at hS.2 g71
     have p71:PresX [i] H H71:=hI28.pres.trans hS.2.1 (fun y h=>.inl h)
     exact .inr ⟨x66,.alone ho ha,rfl,hI72.pres,_,_,_,slot_i hI72,hT71.via p71 hI72.pres hi⟩
theorem doc_all:∀(n:Nat) (ts:List TokC),ts.length<n->BinC ts/\UnC ts
 |0,ts,h=>by omega
 |n+1,ts,h=>by
  have hL:∀r,r.length<ts.length->BinC r:=fun r hr=>(doc_all n r (by omega)).1
  have hU:∀r,r.length<ts.length->UnC r:=fun r hr=>(doc_all n r (by omega)).2
  have h2:=un_of ts (plain_of ts hL) hU
  exact ⟨fun i b a k q H h1 h2' hI hT=>bin_of ts h2 hL ((6-b).toNat+1) i b a k q H (by omega) h1 h2' hI hT,h2⟩
theorem d128(ts:List TokC):BinC ts:=(doc_all (ts.length+1) ts (by omega)).1
abbrev qP8_1(i4:Nat)(x1:NdC)(i11:Nat)(x8:NdC):List Slot:=[Sk i4 (NdC.cs x1) 72,Sk i11 (NdC.cs x8) 72]
theorem e12w(R:RR)(s:(List UInt8))(H:LHeap)
 (h:Inv [] H [] H->CL 54 [.str s] H (.tuple [.cust NdC NdC.lv,.int .i64]) fun S0=>∀x1 n2 H3,S0 (.tuple [NdC.lv x1,I6 n2]) H3->NX H3 fun i4 H5=>PX [i4] H5 fun H6=>Inv [] H [Sk i4 (NdC.cs x1) 72] H6->CL 59 [.str s] H6 (.tuple [.cust NdC NdC.lv,.int .i64]) fun S7=>∀x8 n9 H10,S7 (.tuple [NdC.lv x8,I6 n9]) H10->NX H10 fun i11 H12=>PX [i11] H12 fun H13=>Cd (n2==n9) (Inv [] H (qP8_1 i4 x1 i11 x8) H13->Ka 60 [NdC.lv x1,NdC.lv x8] H13 fun b15 H16=>Cd b15 (Inv [] H (qP8_1 i4 x1 i11 x8) H16->Ka 53 [NdC.lv x1,NdC.lv x8] H16 fun b18 H19=>Cd b18 (R0 H (qP8_1 i4 x1 i11 x8) H19 R (.bool true)) (R0 H (qP8_1 i4 x1 i11 x8) H19 R (.bool false))) (R0 H (qP8_1 i4 x1 i11 x8) H16 R (.bool false))) (R0 H (qP8_1 i4 x1 i11 x8) H13 R (.bool false))):
 CallL cfg 12 [.str s] H R:=call_wt0 (k:=(.go 7 (.facts (.call (.tuple [.cust NdC NdC.lv,.int .i64]) (.go 3 (.boxP (.putP (.go 5 (.facts (.call (.tuple [.cust NdC NdC.lv,.int .i64]) (.go 3 (.boxP (.putP (.go 8 (.cases 20 (.go 2 (.facts (.call .bool (.go 2 (.cases 25 (.go 2 (.facts (.call .bool (.go 2 (.cases 30 (.go 4 (.facts .ret)) (.go 4 (.facts .ret))))))) (.go 9 (.facts .ret))))))) (.go 14 (.facts .ret))))))))))))))))) (by kernel_rfl) h
def eqV(x y:NdC):Bool:=(x.valueKind==y.valueKind)&&((x.valueN==y.valueN)&&(x.valueS==y.valueS))
def eqR(x y:NdC):Bool:=(x.refBook==y.refBook)&&((x.refSheet==y.refSheet)&&((x.refRow==y.refRow)&&((x.refCol==y.refCol)&&((x.refFixRow==y.refFixRow)&&(x.refFixCol==y.refFixCol)))))
def eqT(x y:NdC):Bool:=(x.toBook==y.toBook)&&((x.toSheet==y.toSheet)&&((x.toRow==y.toRow)&&((x.toCol==y.toCol)&&((x.toFixRow==y.toFixRow)&&(x.toFixCol==y.toFixCol)))))
def headEq(x y:NdC):Bool:=(x.kind==y.kind)&&((x.s==y.s)&&(eqV x y&&(eqR x y&&eqT x y)))
mutual
def sameT:Nd->Nd->Bool
 | .mk x l,.mk y m=>headEq x y&&sameTs l m
def sameTs:List Nd->List Nd->Bool
 |[],[]=>true
 |a::l,b::m=>sameT a b&&sameTs l m
 |_,_=>false
end
theorem sameTs_len:∀{l m:List Nd},l.length≠m.length->sameTs l m=false
 |[],[],h=>by simp at h
 |[],_::_,_=>by unfold sameTs;rfl
 |_::_,[],_=>by unfold sameTs;rfl
 |a::l,b::m,h=>by
  unfold sameTs
  rw [sameTs_len (by simpa using h),Bool.and_false]
mutual
theorem s60:∀(n m:Nd) (H:LHeap),NdAt H n->NdAt H m->CallL cfg 60 [n.root.lv,m.root.lv] H (Ret (.bool (sameT n m)) H)
 | .mk x l,.mk y m,H,hn,hm=>by
  have key:∀{H':LHeap} {b:Bool},sameT (.mk x l) (.mk y m)=b->PresX [] H H'->Ret (.bool (sameT (.mk x l) (.mk y m))) H (.bool b) H':=fun e p=>by rw [e];exact .mk p
  have no:headEq x y=false->sameT (.mk x l) (.mk y m)=false:=fun h=>by unfold sameT;rw [h];rfl
  unfold NdAt at hn hm
  refine e60 _ x y H fun i H1 j H2=>⟨fun k=>⟨fun s=>⟨fun v=>⟨fun r=>⟨fun t hI=>⟨_,s129 l m x.argsA y.argsA x.argsL y.argsL x.argsQ y.argsQ H2 hn.1 hm.1 hn.2.1 hm.2.1 (hn.2.2.on hI.pres) (hm.2.2.on hI.pres),Ret.use ⟨_,rfl⟩,fun b H3 ⟨e,p⟩ hI=> ?yes⟩,
   fun t hI=>key (no ?n1) hI.pres⟩,fun r hI=>key (no ?n2) hI.pres⟩,fun v hI=>key (no ?n3) hI.pres⟩,fun s hI=>key (no ?n4) hI.pres⟩,fun k hI=>key (no ?n5) hI.pres⟩
  case yes=>
   cases e
   refine key ?_ hI.pres
   have hh:headEq x y=true:=by unfold headEq eqV eqR eqT;rw [k,s,v,r,t];rfl
   unfold sameT
   rw [hh]
   rfl
  case n1=>unfold headEq eqV eqR eqT;rw [t];simp
  case n2=>unfold headEq eqV eqR;rw [r];simp
  case n3=>unfold headEq eqV;rw [v];simp
  case n4=>unfold headEq;rw [s];simp
  case n5=>unfold headEq;rw [k];simp
 termination_by n=>(SizeOf.sizeOf n,0)
theorem s129:∀(l m:List Nd) (a b:Option LAddr) (k j:Nat) (q e:Cap) (H:LHeap),l.length=k->m.length=j->k<=maxLen->j<=maxLen->NdsAt H l a 0->NdsAt H m b 0->
  CallL cfg 129 [.slice a k q,.slice b j e,.func (.func 60) [] []] H (Ret (.bool (sameTs l m)) H)
 |l,m,a,b,k,j,q,e,H,hk,hj,bk,bj,hl,hm=>by
  refine e129 _ a b k j q e H ⟨fun h hI=> ?_,fun h d=> ?_⟩
  ·have hne:l.length≠m.length:=by rw [hk,hj];intro hc;rw [hc] at h;simp at h
   rw [sameTs_len hne]
   exact .mk hI.pres
  ·have hkj:k=j:=by simp at h;omega
   have:=loop129 l m a b k q e H bk 0 (by omega) (by omega) hl hm (sameTs l m) rfl d H
   rw [<-hkj]
   exact this
 termination_by l=>(SizeOf.sizeOf l,1)
theorem loop129:∀(l m:List Nd) (a b:Option LAddr) (k:Nat) (q e:Cap) (H0:LHeap),k<=maxLen->∀(i:Nat),i+l.length=k->m.length=l.length->NdsAt H0 l a i->NdsAt H0 m b i->∀(r:Bool),sameTs l m=r->∀(d:Nat->LV) (H:LHeap),
  GoesT cfg 129 (Ret (.bool r) H0) [] H0 [] (L129_0 d (i:Int) b k e a k q (k:Int)) (loopAt cfg 129 0) H
 |[],m,a,b,k,q,e,H0,hk,i,hi,hml,hl,hm,r,hr,d,H=>by
  intro hin hI
  refine g129_0 _ H0 d i b k e a k q k H ⟨fun h=> ?_,fun h hI=> ?_⟩ hin hI
  ·simp at h hi;omega
  ·obtain rfl:m=[]:=by simpa using hml
   unfold sameTs at hr
   rw [<-hr]
   exact .mk hI.pres
 |n::l,[],a,b,k,q,e,H0,hk,i,hi,hml,hl,hm,r,hr,d,H=>by simp at hml
 |n::l,o::m,a,b,k,q,e,H0,hk,i,hi,hml,hl,hm,r,hr,d,H=>by
  intro hin hI
  rw [List.length_cons] at hi
  unfold NdsAt at hl hm
  obtain ⟨⟨n1,n2,n3⟩,n4,n5⟩:=hl
  obtain ⟨⟨m1,m2,m3⟩,m4,m5⟩:=hm
  unfold maxLen at hk
  unfold sameTs at hr
  refine g129_0 _ H0 d i b k e a k q k H ⟨fun h=>⟨⟨by omega,by omega,n1⟩,fun hI=>⟨n.root,by rw [toNat_mul];exact hI.pres.load0 (a:=⟨(adr a).id,(adr a).ver,(adr a).off+i*18⟩) n2 n3,fun j1 H1 H2=>⟨⟨by omega,by omega,m1⟩,fun hI=>⟨o.root,by rw [toNat_mul];exact hI.pres.load0 (a:=⟨(adr b).id,(adr b).ver,(adr b).off+i*18⟩) m2 m3,fun j2 H3 H4 hI=>
   ⟨_,s60 n o H4 (n4.on hI.pres) (m4.on hI.pres),Ret.use ⟨_,rfl⟩,fun w H5 ⟨e1,p⟩=>⟨fun hc hI=> ?no,fun hc d1=> ?go⟩⟩⟩⟩⟩⟩,fun h=> ?ge⟩ hin hI
  case ge=>simp at h;omega
  case no=>
   cases e1
   have hs:sameT n o=false:=by simpa using hc
   rw [hs] at hr
   rw [<-hr]
   exact .mk hI.pres
  case go=>
   cases e1
   have hs:sameT n o=true:=by simpa using hc
   rw [hs,Bool.true_and] at hr
   rw [lwrap_small (by omega) (by omega)]
   exact loop129 l m a b k q e H0 (by unfold maxLen;omega) (i+1) (by omega) (by simpa using hml) n5 m5 r hr d1 H5
 termination_by l=>(SizeOf.sizeOf l,0)
end
mutual
theorem s53:∀(n m:Nd) (H:LHeap),NdAt H n->NdAt H m->CallL cfg 53 [n.root.lv,m.root.lv] H (Ret (.bool (sameT n m)) H)
 | .mk x l,.mk y m,H,hn,hm=>by
  have key:∀{H':LHeap} {b:Bool},sameT (.mk x l) (.mk y m)=b->PresX [] H H'->Ret (.bool (sameT (.mk x l) (.mk y m))) H (.bool b) H':=fun e p=>by rw [e];exact .mk p
  have no:headEq x y=false->sameT (.mk x l) (.mk y m)=false:=fun h=>by unfold sameT;rw [h];rfl
  unfold NdAt at hn hm
  refine e53 _ x y H fun i H1 j H2=>⟨fun k hI=>key (no ?n5) hI.pres,fun k=>⟨fun s hI=>key (no ?n4) hI.pres,fun s=>⟨fun v hI=>key (no ?n3) hI.pres,fun v=>⟨fun r hI=>key (no ?n2) hI.pres,fun r=>⟨fun t hI=>key (no ?n1) hI.pres,fun t=>⟨fun ll hI=>key ?len hI.pres,fun ll d=> ?yes⟩⟩⟩⟩⟩⟩
  case yes=>
   have hk:x.kind==y.kind:=by simpa using k
   have hs:x.s==y.s:=by simpa using s
   have hv:eqV x y=true:=by unfold eqV;simpa using v
   have hr:eqR x y=true:=by unfold eqR;simpa using r
   have ht:eqT x y=true:=by unfold eqT;simpa using t
   have hh:headEq x y=true:=by unfold headEq;rw [hk,hs,hv,hr,ht];rfl
   have hkj:x.argsL=y.argsL:=by simp at ll;omega
   have e:sameT (.mk x l) (.mk y m)=sameTs l m:=by unfold sameT;rw [hh,Bool.true_and]
   exact loop53 l m x y x.argsL i j H hn.2.1 rfl hkj.symm 0 (by omega) (by omega) hn.2.2 hm.2.2 _ e.symm d H2
  case len=>
   unfold sameT
   rw [sameTs_len,Bool.and_false]
   rw [hn.1,hm.1]
   intro hc
   rw [hc] at ll
   simp at ll
  case n1=>have ht:eqT x y=false:=by { have h':(!(eqT x y))=true:=t;simpa using h' };unfold headEq;rw [ht];simp
  case n2=>have ht:eqR x y=false:=by { have h':(!(eqR x y))=true:=r;simpa using h' };unfold headEq;rw [ht];simp
  case n3=>have ht:eqV x y=false:=by { have h':(!(eqV x y))=true:=v;simpa using h' };unfold headEq;rw [ht];simp
  case n4=>have ht:(x.s==y.s)=false:=by { simpa using s };unfold headEq;rw [ht];simp
  case n5=>have ht:(x.kind==y.kind)=false:=by { simpa using k };unfold headEq;rw [ht];simp
theorem loop53:∀(l m:List Nd) (x y:NdC) (k:Nat) (i1 i2:Nat) (H0:LHeap),k<=maxLen->x.argsL=k->y.argsL=k->∀(i:Nat),i+l.length=k->m.length=l.length->NdsAt H0 l x.argsA i->NdsAt H0 m y.argsA i->∀(r:Bool),sameTs l m=r->∀(d:Nat->LV) (H:LHeap),
  GoesT cfg 53 (Ret (.bool r) H0) [] H0 [(Slot.mk i1 (NdC.cs x) 72),(Slot.mk i2 (NdC.cs y) 72)] (L53_0 d (i:Int) (k:Int)) (loopAt cfg 53 0) H
 |[],m,x,y,k,i1,i2,H0,hk,hxk,hyk,i,hi,hml,hl,hm,r,hr,d,H=>by
  intro hin hI
  refine g53_0 _ H0 d i k i1 x i2 y H ⟨fun h=> ?_,fun h hI=> ?_⟩ hin hI
  ·simp at h hi;omega
  ·obtain rfl:m=[]:=by simpa using hml
   unfold sameTs at hr
   rw [<-hr]
   exact .mk hI.pres
 |n::l,[],x,y,k,i1,i2,H0,hk,hxk,hyk,i,hi,hml,hl,hm,r,hr,d,H=>by simp at hml
 |n::l,o::m,x,y,k,i1,i2,H0,hk,hxk,hyk,i,hi,hml,hl,hm,r,hr,d,H=>by
  intro hin hI
  rw [List.length_cons] at hi
  unfold NdsAt at hl hm
  obtain ⟨⟨n1,n2,n3⟩,n4,n5⟩:=hl
  obtain ⟨⟨m1,m2,m3⟩,m4,m5⟩:=hm
  unfold maxLen at hk
  unfold sameTs at hr
  have ld:∀{H':LHeap},PresX [] H0 H'->loadT cfg.P H' 72 ⟨(adr x.argsA).id,(adr x.argsA).ver,(adr x.argsA).off+((i:Int)).toNat*18⟩=some n.root.lv:=fun p=>by rw [toNat_mul];exact p.load0 (a:=⟨(adr x.argsA).id,(adr x.argsA).ver,(adr x.argsA).off+i*18⟩) n2 n3
  have ld':∀{H':LHeap},PresX [] H0 H'->loadT cfg.P H' 72 ⟨(adr y.argsA).id,(adr y.argsA).ver,(adr y.argsA).off+((i:Int)).toNat*18⟩=some o.root.lv:=fun p=>by rw [toNat_mul];exact p.load0 (a:=⟨(adr y.argsA).id,(adr y.argsA).ver,(adr y.argsA).off+i*18⟩) m2 m3
  refine g53_0 _ H0 d i k i1 x i2 y H ⟨fun h=>⟨⟨by omega,by omega,n1⟩,fun hI=>⟨n.root,ld hI.pres,⟨by omega,by omega,m1⟩,fun hI=>⟨o.root,ld' hI.pres,fun hI=>⟨ld' hI.pres,ld hI.pres,rfl,fun hI=>
   ⟨_,s53 n o H (n4.on hI.pres) (m4.on hI.pres),Ret.use ⟨_,rfl⟩,fun w H5 ⟨e1,p⟩ hI=>⟨fun hc hI=> ?no,fun hc d1=> ?go⟩⟩⟩⟩⟩⟩,fun h=> ?ge⟩ hin hI
  case ge=>simp at h;omega
  case no=>
   cases e1
   have hs:sameT n o=false:=by simpa using hc
   rw [hs] at hr
   rw [<-hr]
   exact .mk hI.pres
  case go=>
   cases e1
   have hs:sameT n o=true:=by simpa using hc
   rw [hs,Bool.true_and] at hr
   rw [lwrap_small (by omega) (by omega)]
   exact loop53 l m x y k i1 i2 H0 (by unfold maxLen;omega) hxk hyk (i+1) (by omega) (by simpa using hml) n5 m5 r hr d1 H5
end
theorem dloop51:∀(l:List Nd) (_:∀n∈l,∀H,NdAt H n->CallL cfg 51 [n.root.lv] H (Ret (.int .i64 (depthT n)) H)) (a:Option LAddr) (q:Cap) (k:Nat) (H0:LHeap) (r:Int),k<=1000000000->∀(dp:Int),0<=dp->dp<=1000000->(preTs l).length<=1000000->depthTs l dp=r->∀(i:Nat),i+l.length=k->NdsAt H0 l a i->∀(d:Nat->LV) (H:LHeap),
  GoesT cfg 51 (Ret (.int .i64 (r+1)) H0) [] H0 [] (L51_0 d (i:Int) dp a k q (k:Int)) (loopAt cfg 51 0) H
 |[],_,a,q,k,H0,r,hk,dp,h0,h1,hsz,hr,i,hi,hA,d,H=>by
  intro hin hI
  unfold depthTs at hr
  refine g51_0 _ H0 d i dp a k q k H ⟨fun h=> ?_,fun h hI=>⟨by rw [lwrap_small (by omega) (by omega),hr],hI.pres⟩⟩ hin hI
  simp at h hi;omega
 |n::l,hs,a,q,k,H0,r,hk,dp,h0,h1,hsz,hr,i,hi,hA,d,H=>by
  intro hin hI
  rw [List.length_cons] at hi
  rw [preTs,List.length_append] at hsz
  unfold NdsAt at hA
  unfold depthTs at hr
  obtain ⟨⟨n1,n2,n3⟩,n4,n5⟩:=hA
  have hd:=depth_le n
  have hk':lwrap .i64 ((i:Int)+1)=((i+1:Nat):Int):=by rw [lwrap_small (by omega) (by omega)];simp
  refine g51_0 _ H0 d i dp a k q k H ⟨fun h=>⟨⟨by omega,by omega,n1⟩,fun hI=>⟨n.root,?ld,fun i9 H10 _ _ H11 _ hI11=>⟨_,hs n List.mem_cons_self H11 (n4.on hI11.pres),Ret.use ⟨_,rfl⟩,fun n13 H14 hS=> ?next⟩⟩⟩,fun h=> ?ge⟩ hin hI
  case ge=>simp at h;omega
  case ld=>
   simp only [Int.toNat_natCast]
   exact hI.pres.load0 (a:=⟨(adr a).id,(adr a).ver,(adr a).off+i*18⟩) n2 n3
  case next=>
   obtain ⟨e,_⟩:=hS
   cases e
   rw [hk']
   refine ⟨fun h d15=> ?_,fun h d15=> ?_⟩
   ·rw [if_pos (by simpa using h)] at hr
    exact dloop51 l (fun m hm=>hs m (List.mem_cons_of_mem _ hm)) a q k H0 r hk _ (by omega) (by omega) (by omega) hr (i+1) (by omega) n5 d15 H14
   ·rw [if_neg (by simpa using h)] at hr
    exact dloop51 l (fun m hm=>hs m (List.mem_cons_of_mem _ hm)) a q k H0 r hk _ (by omega) (by omega) (by omega) hr (i+1) (by omega) n5 d15 H14
theorem d51(N:Nd)(H:LHeap)(hS:NdSm N)(hN:NdAt H N)(hsz:(preT N).length<=1000000):CallL cfg 51 [N.root.lv] H (Ret (.int .i64 (depthT N)) H):=by
 match N,hS,hN,hsz with
 | .mk x l,hS,hN,hsz=>
  have hN':=hN
  unfold NdAt at hN'
  unfold NdSm at hS
  rw [preT,List.length_cons] at hsz
  have hmem:∀n∈l,(preT n).length<=1000000:=by
   intro n hn
   have h1:=bareTs_mem hn
   rw [bareT_len] at h1
   unfold bareTs at h1
   rw [List.length_map] at h1
   omega
  refine e51 _ x H fun i1 H2 l1 p2 d3=> ?_
  unfold depthT
  have hlen:=hN'.1
  exact dloop51 l (fun n hn H' hA=>d51 n H' (hS.2.mem n hn) hA (hmem n hn)) x.argsA x.argsQ x.argsL H _ hS.1 0 (by omega) (by omega) (by omega) rfl 0 (by omega) hN'.2.2 d3 H2
termination_by SizeOf.sizeOf N
decreasing_by
 have:=List.sizeOf_lt_of_mem hn
 simp_wf
 omega
theorem parseS_sh{s:List UInt8}{H:LHeap}(v:LV)(H':LHeap)(h:ParseS s H v H'):PresX [] H H'/\hasSh (.tuple [.cust NdC NdC.lv,.int .i64]) v:=by
 obtain ⟨p,o,e,_,hv⟩:=h
 match o,hv with
 |none,hv=>subst hv;exact ⟨p,nilNp,e,rfl⟩
 |some n,⟨nd,_,hv,_⟩=>subst hv;exact ⟨p,nd.root,e,rfl⟩
theorem d59(s:List UInt8)(H:LHeap):CallL cfg 59 [.str s] H (ParseS s H):=by
 refine e59d _ s H fun i0 H1 l0 p1 hI1=>⟨_,s19 s H1,lexS_sh,fun a3 l4 c5 n6 H7 hS=> ?_⟩
 obtain ⟨p7,a,q,e,hrow⟩:=hS
 simp only [LV.tuple.injEq,List.cons.injEq,LV.slice.injEq,LV.int.injEq,true_and,and_true] at e
 obtain ⟨⟨rfl,rfl,rfl⟩,rfl⟩:=e
 refine ⟨fun herr H8 p8 hI8=>⟨hI8.pres,none,_,.lex (by simpa using herr),rfl⟩,fun hok i9 H10 l9 p10 hI10=> ?_⟩
 have hok':(lexO s).2=0:=by simpa using hok
 have n10:=p10.next
 have li0:=(hI10.slot 0 _ rfl).1
 have li9:=(hI10.slot 1 _ rfl).1
 simp only at li0 li9
 have hT7:TokAt H7 i9 127 a3 (lexO s).1.length c5 (lexO s).1:=row_tok hrow ag127 sz127 (lexO_ok s) (Nat.le_trans (lexO_len s) (by omega)) (fun ad e=>by subst e;have:=hrow.id;omega)
 have hT10:=hT7.on p10 (by simp)
 refine ⟨_,d128 (lexO s).1 i9 1 a3 (lexO s).1.length c5 H10 (by omega) (by omega) (inv_pick hI10 (k:=1) rfl) hT10,docS_sh,fun x12 a13 l14 c15 b16 H17 hS g17 i18 H19 l18 p19 H20 p20=> ?_⟩
 have p10':=hI10.pres
 have n10':=p10'.next
 rcases hS with ⟨nd,r,hPD,e,hN,hD,hd⟩ |⟨x,hPD,e,hd⟩
 ·obtain rfl:=NdC.lv_inj e
  obtain ⟨rfl,hT17⟩:=ds_at hd g17
  have hPR:PR (.level 1 (lexO s).1) (some ([bareN nd],r)):=hPD.same (show (1:Int)<=1 by omega) (show (1:Int)<=6 by omega)
  have hlr:=hT17.len
  have n17:=hd.1.next
  have n19:=p19.next
  have n20:=p20.next
  have hN20:NdAt H20 nd:=NdAt.onY p20 (NdIds.mono (fun j hj hm=>by have:=List.mem_singleton.1 hm;omega) (NdAt.ids hN)) (NdAt.on p19 hN)
  have hsz:(preT nd).length<=1000000:=by
   have h1:=hPR.nodes rfl
   simp only [preTs,List.append_nil,pre_bare] at h1
   have:=lexO_len s
   omega
  refine ⟨fun h=>(by cases h),fun _=>⟨fun h H22 p22 hI22=> ?_,fun h hI20=>⟨_,d51 nd H20 (ndSm nd H20 hN20 hsz) hN20 hsz,Ret.use ⟨_,rfl⟩,fun n24 H25 hS=> ?_⟩⟩⟩
  ·refine ⟨hI22.pres,none,10,?_,rfl⟩
   cases r with
   |nil=>simp [hlr] at h
   |cons t r'=>exact .more hok' hPR
  ·obtain ⟨e,p25⟩:=hS
   cases e
   have hr:r=[]:=by
    cases r with
    |nil=>rfl
    |cons t r'=>simp [hlr] at h
   subst hr
   refine ⟨fun h H26 p26 hI26=>⟨hI26.pres,none,10,.deep hok' hPR (by rw [depth_bare];simpa using h),rfl⟩,fun h H27 p27 hI27=>⟨hI27.pres,some (bareN nd),0,.yes hok' hPR (by rw [depth_bare];simpa using h),nd,rfl,rfl,?_,NdIds.mono (fun j hj=>by omega) hD⟩⟩
   exact NdAt.onY p27 (NdIds.mono (fun j hj hm=>by have:=List.mem_singleton.1 hm;omega) hD) (NdAt.on p25 hN20)
 ·obtain ⟨rfl,hT17⟩:=ds_at hd g17
  have hPR:PR (.level 1 (lexO s).1) none:=hPD.same (show (1:Int)<=1 by omega) (show (1:Int)<=6 by omega)
  exact ⟨fun _ H21 p21 hI21=>⟨hI21.pres,none,10,.no hok' hPR,rfl⟩,fun h=>(by cases h)⟩
theorem bare_fields{x y:NdC}(h:x.bare=y.bare):headEq x y=true:=by
 have h1:y.bare=x.bare:=h.symm
 cases x;cases y
 simp only [NdC.bare,NdC.mk.injEq] at h1
 obtain ⟨a1,a2,a3,a4,a5,a6,a7,a8,a9,a10,a11,a12,a13,a14,a15,a16,a17,_,_,_⟩:=h1
 subst a1 a2 a3 a4 a5 a6 a7 a8 a9 a10 a11 a12 a13 a14 a15 a16 a17
 simp [headEq,eqV,eqR,eqT]
mutual
theorem same_bare:∀(n m:Nd),bareN n=bareN m->sameT n m=true
 | .mk x l,.mk y m,h=>by
  simp only [bareN,Nd.mk.injEq] at h
  unfold sameT
  rw [bare_fields h.1,sames_bare l m h.2]
  rfl
theorem sames_bare:∀(l m:List Nd),bareNs l=bareNs m->sameTs l m=true
 |[],[],_=>by unfold sameTs;rfl
 |[],_::_,h=>by simp [bareNs] at h
 |_::_,[],h=>by simp [bareNs] at h
 |n::l,m::k,h=>by
  simp only [bareNs,List.cons.injEq] at h
  unfold sameTs
  rw [same_bare n m h.1,sames_bare l k h.2]
  rfl
end
theorem s12(s:List UInt8)(H:LHeap):CallL cfg 12 [.str s] H (Ret (.bool true) H):=by
 refine e12w _ s H fun hI0=>⟨_,s54 s H,parseS_sh,fun x1 n2 H3 hS i4 H5 l4 p5 H6 p6 hI6=>⟨_,d59 s H6,parseS_sh,fun x8 n9 H10 hS2 i11 H12 l11 p12 H13 p13=> ?_⟩⟩
 obtain ⟨p3,o,e,hPO,hv⟩:=hS
 obtain ⟨p10,o',e',hPO',hv'⟩:=hS2
 obtain ⟨rfl,rfl⟩:=hPO.det hPO'
 have li4:=(hI6.slot 0 _ rfl).1
 simp only at li4
 have n3:=p3.next
 have n5:=p5.next
 have n6:=p6.next
 have n10:=p10.next
 have n12:=p12.next
 have key:n2=e/\n9=e/\∃n m:Nd,x1=n.root/\x8=m.root/\bareN n=bareN m/\NdAt H13 n/\NdAt H13 m:=by
  match o,hv,hv' with
  |none,hv,hv'=>
   simp only [LV.tuple.injEq,List.cons.injEq,LV.int.injEq,true_and,and_true] at hv hv'
   obtain ⟨h1,rfl⟩:=hv
   obtain ⟨h2,rfl⟩:=hv'
   obtain rfl:=NdC.lv_inj h1
   obtain rfl:=NdC.lv_inj h2
   have hz:∀H:LHeap,NdAt H (.mk nilNp []):=fun H=>by unfold NdAt NdsAt;exact ⟨rfl,Nat.zero_le _,trivial⟩
   exact ⟨rfl,rfl,.mk nilNp [],.mk nilNp [],rfl,rfl,rfl,hz _,hz _⟩
  |some b,⟨nd,hb,hv,hN,hD⟩,⟨md,hb',hv',hM,hD'⟩=>
   simp only [LV.tuple.injEq,List.cons.injEq,LV.int.injEq,true_and,and_true] at hv hv'
   obtain ⟨h1,rfl⟩:=hv
   obtain ⟨h2,rfl⟩:=hv'
   obtain rfl:=NdC.lv_inj h1
   obtain rfl:=NdC.lv_inj h2
   refine ⟨rfl,rfl,nd,md,rfl,rfl,hb.trans hb'.symm,?_,?_⟩
   ·have a6:NdAt H6 nd:=NdAt.onY p6 (NdIds.mono (fun j hj hm=>by have:=List.mem_singleton.1 hm;omega) (NdAt.ids hN)) (NdAt.on p5 hN)
    have a10:NdAt H10 nd:=NdAt.on p10 a6
    exact NdAt.onY p13 (NdIds.mono (fun j hj hm=>by have:=List.mem_singleton.1 hm;omega) (NdAt.ids a10)) (NdAt.on p12 a10)
   ·exact NdAt.onY p13 (NdIds.mono (fun j hj hm=>by have:=List.mem_singleton.1 hm;omega) (NdAt.ids hM)) (NdAt.on p12 hM)
 obtain ⟨rfl,rfl,n,m,rfl,rfl,hb,hN,hM⟩:=key
 have hs:=same_bare n m hb
 refine ⟨fun h hI13=>⟨_,s60 n m H13 hN hM,Ret.use ⟨_,rfl⟩,fun b15 H16 hS=> ?_⟩,fun h=> ?_⟩
 ·obtain ⟨e,p16⟩:=hS
  cases e
  refine ⟨fun h hI16=>⟨_,s53 n m H16 (NdAt.on p16 hN) (NdAt.on p16 hM),Ret.use ⟨_,rfl⟩,fun b18 H19 hS=> ?_⟩,fun h=> ?_⟩
  ·obtain ⟨e,p19⟩:=hS
   cases e
   refine ⟨fun h hI19=>⟨rfl,hI19.pres⟩,fun h=> ?_⟩
   rw [hs] at h;cases h
  ·rw [hs] at h;cases h
 ·simp at h
end Go.Proofs.YtjihhflffkoffaaGreatDoor.Z
