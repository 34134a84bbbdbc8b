/- Contracts of functions of the program; no condition. -/
import Derived.Test.YtjihhflffkoffaaGreatDoorG13
import Derived.Test.YtjihhflffkoffaaGreatDoorLe
set_option linter.unusedSimpArgs false
set_option linter.unusedVariables false
set_option linter.unusedSectionVars false
set_option linter.unnecessarySimpa false
namespace Go.Proofs.YtjihhflffkoffaaGreatDoor.Z
open Go Go.Lm
set_option maxRecDepth 1000000
set_option maxHeartbeats 0
structure Ctx8 (N M0:Nd) (a:Option LAddr) (l:Nat) (q:Cap) (f:LAddr) (b:Nat) (K:LHeap):Prop where
 hN:NdAt K N
 nB:NdIds (·<b) N
 hM:NdAt K M0
 mE:NdE K (·<b) M0
 ld:loadT cfg.P K 72 f=some M0.root.lv
 fB:f.id<b
 hL:RowAt K 72 18 a (preT N).length q (cellsC (preT N))
 hLB:∀ad,a=some ad->ad.id<b
 bK:b<=K.next
theorem Ctx8.on{N M0 a l q f b K}(h:Ctx8 N M0 a l q f b K){Y:List Nat}{K':LHeap}(p:PresX Y K K')(hY:∀y∈Y,b<=y):Ctx8 N M0 a l q f b K':=by
 have out:∀j,j<b->j∉Y:=fun j hj hm=>by have:=hY j hm;omega
 have hid:∀ad,a=some ad->ad.id<K.next:=fun ad e=>Nat.lt_of_lt_of_le (h.hLB ad e) h.bK;exact {
  hN:=NdAt.onY p (NdIds.mono out h.nB) h.hN
  nB:=h.nB
  hM:=NdAt.onY p (ndE_ids (NdE.mono (fun j hj _=>out j hj) h.mE) h.hM) h.hM
  mE:=NdE.onY p (fun j hj _=>⟨out j hj,hj⟩) h.mE
  ld:=p.load (Nat.lt_of_lt_of_le h.fB h.bK) (out _ h.fB) h.ld
  fB:=h.fB
  hL:=h.hL.on p.next (fun ad e=>p.keep _ (hid ad e) (out _ (h.hLB ad e))) (fun ad e _=>(p.keep _ (hid ad e) (out _ (h.hLB ad e))).get)
  hLB:=h.hLB
  bK:=Nat.le_trans h.bK p.next }
theorem inv_pick{X:List Nat}{H0 H:LHeap}{a b c e g s:Slot}(h:Inv X H0 [a,b,c,e,g,s] H):Inv X H0 [a,b,c,s] H:=by
 have hf:∀(k:Nat) (t:Slot),nth [a,b,c,s] k=some t->nth [a,b,c,e,g,s] (if k=3 then 5 else if k=5 then 3 else k)=some t:=fun k t ht=>by
  match k,ht with
  |0,ht=>exact ht
  |1,ht=>exact ht
  |2,ht=>exact ht
  |3,ht=>exact ht
  |m+4,ht=>simp [nth] at ht
 refine ⟨h.pres,fun k t ht=>h.slot _ t (hf k t ht),fun j k t u hj hk hne=>h.apart _ _ t u (hf j t hj) (hf k u hk) ?_⟩;split<;>split<;>(try split)<;>(try split)<;>omega
section
variable {N M0:Nd} {i1 i3 i5 i9 i11:Nat} {a:Option LAddr} {l:Nat} {q:Cap} {n:Int} {f:LAddr} {d:Nat->LV} {ca cb:Code} {H H20:LHeap} {b:Nat}
theorem round8{g':GX}(hc:Ctx8 N M0 a l q f b H20)(hcp:Cp N M0)(hl:l=(preT N).length)(hsz:(preT N).length<=400)(hb:b<=i11)(hI:Inv [] H (kn8 N i1 i3 i5 i9 i11 a l q n 0) H20)
  (hround:roundAt cfg 8 0=[.code ca,.beginRound,.code cb]) (hbegin:beginAt cfg 8 0=[.beginRound,.code cb]) (hbody:bodyAt cfg 8 0=[.code cb])
  (hcont:∀(idx:Int) (Hx:LHeap) (pend:Option Code),Inv [] H (kn8 N i1 i3 i5 i9 i11 a l q n idx) Hx->PresX [i11] H20 Hx->Hx.get H20.next=some (.deferred (some []))->H20.next<Hx.next->
    ((pend=none/\idx=((preT N).length:Int))\/(pend=some (.exit 2)/\n=0))->GoesG cfg g' [] H (kn8 N i1 i3 i5 i9 i11 a l q n idx) (tm8 n f d) (pendL pend++behindAt cfg 8 0) Hx):
  ∃S,CallL cfg 107 ([]++[.func (.yield (H20.next+1)) [] []]++[.ptr (some f)]) (Hl8 N i1 i3 i5 i9 i11 a l q n f d ca cb H20) S/\
   ∀v H3,S v H3->∃r kn',loopOf H3 (H20.next+1)=some r/\r.state≠.busy/\kn'.length=(kn8 N i1 i3 i5 i9 i11 a l q n 0).length/\(∀x∈tm8 n f d,denF kn' x=denF (kn8 N i1 i3 i5 i9 i11 a l q n 0) x)/\Inv [] H kn' (H3.put (H20.next+1) (.loop { r with state:=.exhausted }))/\
    GoesG cfg g' [] H kn' (tm8 n f d) (pendL r.pending++behindAt cfg 8 0) (H3.put (H20.next+1) (.loop { r with state:=.exhausted })):=by
 have pp2:PresX [] H20 (Hl8 N i1 i3 i5 i9 i11 a l q n f d ca cb H20):=(PresX.push [] H20 _).trans0 (PresX.push [] _ _);have hi:i11<H20.next:=(hI.slot 4 _ rfl).1;have hlen:(subT M0).length=(preT N).length:=by rw [subT_len,<-bareT_len M0,hcp.bareT,bareT_len]
 have hbK:=hc.bK;have outY:∀j,j<b->j∉Y8 i11 H20:=fun j hj hm=>by
  simp only [Y8,List.mem_cons,List.not_mem_nil,or_false] at hm;omega
 have hW:=walks8 (M0:=M0) (f:=f) (d:=d) (ca:=ca) (cb:=cb) hI hcp hc.hN (NdIds.mono (fun j hj=>Nat.lt_of_lt_of_le hj hb) hc.nB) hl hc.hL (fun ad e=>Nat.lt_of_lt_of_le (hc.hLB ad e) hb) hsz hround hbegin hbody;have hc2:=hc.on pp2 (fun y hy=>by cases hy);refine ⟨_,s107T hW M0 f _ hc2.ld hc2.hM (NdE.mono (fun j hj _=>outY j hj) hc2.mE) (by omega) ⟨.refl _ _,(LHeap.get_push _ _ _).trans (if_pos rfl),[],rfl,?_,fun _=>by simp⟩,fun v H3 ⟨p3,hJ⟩=> ?_⟩
 ·rw [(pp2.keep i11 hi (by simp)).get];exact (hI.slot 4 _ rfl).2.1
 ·have lift:∀{o},PresX (Y8 i11 H20) (Hl8 N i1 i3 i5 i9 i11 a l q n f d ca cb H20) (H3.put (H20.next+1) o):=fun {o}=>p3.trans (.put _ _ _) (fun i hi=>.inl (by simp at hi;simp [hi]));have gi:∀{o} {v:Int},H3.get i11=some (Slot.obj ⟨i11,[.int .i64 v],3⟩)->(H3.put (H20.next+1) o).get i11=some (Slot.obj ⟨i11,[.int .i64 v],3⟩):=fun {o} {v} g=>((LHeap.get_put _ _ _ _).trans (if_neg (by omega))).trans g;have gd:∀{o},(H3.put (H20.next+1) o).get H20.next=some (.deferred (some [])):=fun {o}=>by
   have hlt:H20.next<(Hl8 N i1 i3 i5 i9 i11 a l q n f d ca cb H20).next:=by show H20.next<H20.next+1+1;omega
   rw [LHeap.get_put,if_neg (by omega),(p3.keep _ hlt (by simp;omega)).get,LHeap.get_push,if_neg (by show ¬H20.next=H20.next+1;omega),LHeap.get_push,if_pos rfl]
  have px:∀{o},PresX [i11] H20 (H3.put (H20.next+1) o):=fun {o}=>by
   refine PresX.trans (X:=[i11]) (pp2.mono (fun i hi=>by cases hi)) lift fun i hi=> ?_;simp only [Y8,List.mem_cons,List.not_mem_nil,or_false] at hi |-;omega
  have hx:∀{o},H20.next<(H3.put (H20.next+1) o).next:=fun {o}=>Nat.lt_of_lt_of_le (show H20.next<H20.next+1+1 by omega) (lift (o:=o)).next;have den:∀idx:Int,∀x∈tm8 n f d,denF (kn8 N i1 i3 i5 i9 i11 a l q n idx) x=denF (kn8 N i1 i3 i5 i9 i11 a l q n 0) x:=fun idx=>
   List.map_inj_left.1 (show (tm8 n f d).map (denF (kn8 N i1 i3 i5 i9 i11 a l q n idx))=(tm8 n f d).map (denF (kn8 N i1 i3 i5 i9 i11 a l q n 0)) from rfl)
  rcases hJ with ⟨h1,h2,A,h3,h4,h5⟩ |⟨h1,h2,h4,h5⟩
  ·rw [List.append_nil] at h3;subst h3;refine ⟨_,kn8 N i1 i3 i5 i9 i11 a l q n ((subT M0).length:Int),loopOf_eqF h2,(fun e=>by cases e),rfl,den _,inv8 hI lift (gi h4),?_⟩;exact hcont _ _ none (inv8 hI lift (gi h4)) px gd hx (.inl ⟨rfl,by rw [hlen]⟩)
  ·refine ⟨_,kn8 N i1 i3 i5 i9 i11 a l q n 2,loopOf_eqF h2,(fun e=>by cases e),rfl,den _,inv8 hI lift (gi h4),?_⟩;exact hcont _ _ (some (.exit 2)) (inv8 hI lift (gi h4)) px gd hx (.inr ⟨rfl,h5⟩)
theorem second8{dd:Nat}{i22:Nat}{idx:Int}(hcp:Cp N M0)(hl:l=(preT N).length)(hsz:(preT N).length<=400)(hc:Ctx8 N M0 a l q f b H20)(hdd:H20.get dd=some (.deferred (some [])))(hlt:dd<H20.next)(h0:H.next<=dd)(e3:∀i3',i3'=i3->i3'≠dd):
  GoesG cfg (gA 8 dd (Ret (.bool true) H)) [] H [⟨i1,N.root.cs,72⟩,⟨i3,[.bool false],4⟩,⟨i5,[.slice a l q],70⟩,⟨i22,[.int .i64 1],3⟩] (L8t_0 d f) (loopAt cfg 8 0) H20:=by
 obtain ⟨ca,cb,hr,hround,hbegin,hbody⟩:=rg_parts rg8;intro hin hI;have hbK:=hc.bK;refine h8t_0 _ dd [] H d f i1 N.root i3 false i5 a l q i22 1 H20 ⟨fun _ i11 H12 h12 p12 H13 p13 d14=> ?_,fun h=>absurd h (by simp)⟩ hin hI;have p':PresX [] H20 H13:=p12.trans p13 (fun j hj=>.inr (by rw [List.mem_singleton.1 hj];exact h12));have hc13:=hc.on p' (fun y hy=>by cases hy);rw [hr];intro hin hI13;have hI13':Inv [] H (kn8 N i1 i3 i5 i22 i11 a l q 1 0) H13:=hI13;have hH:H.next<=H13.next:=hI13.pres.next;have hdlt:dd<H13.next:=Nat.lt_of_lt_of_le hlt p'.next;have hi3:i3<H13.next:=(hI13.slot 1 _ rfl).1;refine range_goesA (C:=cfg) (f:=8) (kn:=kn8 N i1 i3 i5 i22 i11 a l q 1 0) (tmps:=tm8 1 f d14) (gfn:=107) (first:=[]) (cap:=[.ptr (some f)]) rfl (by kernel_rfl) (by kernel_rfl)
  (fun _=>round8 hc13 hcp hl hsz (by omega) hI13' hround hbegin hbody fun idx Hx pend hIx px hd hx hor=> ?_) hin hI13
 rcases hor with ⟨rfl,rfl⟩ |⟨_,h⟩
 ·refine A8t_0 _ H13.next dd [] H d14 f 1 true f i1 N.root i3 false i5 a l q i22 1 i11 _ Hx ⟨fun _=>⟨fun h=>absurd h (by simp [hl]),fun _ i40 H41 h41 p41 H42 p42 H43 p43 d44=> ?_⟩,fun h=>absurd h (by simp)⟩;refine GoesG.swap (kn':=[⟨i1,N.root.cs,72⟩,⟨i3,[.bool false],4⟩,⟨i5,[.slice a l q],70⟩,⟨i40,[.int .i64 2],3⟩]) (tmps':=L8t_0 d44 f) rfl (List.all_eq_true.1 (show List.all (L8t_0 d44 f) (inR 4)=true from rfl)) inv_pick ?_;refine k8t_0 _ H13.next dd [] H d44 f i1 N.root i3 false i5 a l q i40 2 H43 ⟨fun h=>absurd h (by simp),fun _ H50 p50 hI50=> ?_⟩;have pH:PresX [] Hx H43:=(p41.trans p42 (fun j hj=>.inr (by rw [List.mem_singleton.1 hj];exact h41))).trans p43 (fun j hj=>.inr (by rw [List.mem_singleton.1 hj];exact h41));have n3:=e3 i3 rfl;have hx43:Hx.next<=H43.next:=pH.next;have g1:H50.get H13.next=some (.deferred (some [])):=by
   rw [(p50.keep _ (Nat.lt_of_lt_of_le hx hx43) (by simp;omega)).get,(pH.keep _ hx (by simp)).get];exact hd
  have g2:H50.get dd=some (.deferred (some [])):=by
   have hdx:dd<Hx.next:=Nat.lt_of_lt_of_le hdlt px.next;have h11:i11≠dd:=by omega
   rw [(p50.keep _ (Nat.lt_of_lt_of_le hdx hx43) (by simp;omega)).get,(pH.keep _ hdx (by simp)).get,(px.keep _ hdlt (by simp;omega)).get,(p'.keep _ hlt (by simp)).get];exact hdd
  refine ⟨g1,?_,rfl,(hI50.pres.trans (.put _ _ _) (fun i hi=>.inr (by rw [List.mem_singleton.1 hi];exact hH))).trans (.put _ _ _) (fun i hi=>.inr (by rw [List.mem_singleton.1 hi];exact h0))⟩;rw [LHeap.get_put,if_neg (by omega)];exact g2
 ·exact absurd h (by omega)
theorem first8(hcp:Cp N M0)(hl:l=(preT N).length)(hsz:(preT N).length<=400)(hc:Ctx8 N M0 a l q f b H20):
  GoesT cfg 8 (Ret (.bool true) H) [] H [⟨i1,N.root.cs,72⟩,⟨i3,[.bool false],4⟩,⟨i5,[.slice a l q],70⟩,⟨i9,[.int .i64 0],3⟩] (L8t_0 d f) (loopAt cfg 8 0) H20:=by
 obtain ⟨ca,cb,hr,hround,hbegin,hbody⟩:=rg_parts rg8;intro hin hI;have hbK:=hc.bK;refine g8t_0 _ H d f i1 N.root i3 false i5 a l q i9 0 H20 ⟨fun _ i11 H12 h12 p12 H13 p13 d14=> ?_,fun h=>absurd h (by simp)⟩ hin hI;have p':PresX [] H20 H13:=p12.trans p13 (fun j hj=>.inr (by rw [List.mem_singleton.1 hj];exact h12));have hc13:=hc.on p' (fun y hy=>by cases hy);rw [hr];intro hin hI13;have hI13':Inv [] H (kn8 N i1 i3 i5 i9 i11 a l q 0 0) H13:=hI13;have hH:H.next<=H13.next:=hI13.pres.next;have hi3:i3<H13.next:=(hI13.slot 1 _ rfl).1;refine range_goes (C:=cfg) (f:=8) (kn:=kn8 N i1 i3 i5 i9 i11 a l q 0 0) (tmps:=tm8 0 f d14) (gfn:=107) (first:=[]) (cap:=[.ptr (some f)]) rfl (by kernel_rfl) (by kernel_rfl)
  (fun _=>round8 hc13 hcp hl hsz (by omega) hI13' hround hbegin hbody fun idx Hx pend hIx px hd hx hor=> ?_) hin hI13
 have next:∀(i22:Nat) (H23:LHeap),Hx.next<=i22->PresX [] Hx H23->∀H24,PresX [i22] H23 H24->∀H25,PresX [i22] H24 H25->∀d26:Nat->LV,
   GoesG cfg (gA 8 H13.next (Ret (.bool true) H)) [] H [⟨i1,N.root.cs,72⟩,⟨i3,[.bool false],4⟩,⟨i5,[.slice a l q],70⟩,⟨i22,[.int .i64 1],3⟩] (L8t_0 d26 f) (loopAt cfg 8 0) H25:=fun i22 H23 h23 p23 H24 p24 H25 p25 d26=>by
  have pH:PresX [] Hx H25:=(p23.trans p24 (fun j hj=>.inr (by rw [List.mem_singleton.1 hj];exact h23))).trans p25 (fun j hj=>.inr (by rw [List.mem_singleton.1 hj];exact h23));have hcx:=(hc13.on px (fun y hy=>by rw [List.mem_singleton.1 hy];omega)).on pH (fun y hy=>by cases hy);refine second8 (M0:=M0) (b:=b) (idx:=idx) hcp hl hsz hcx ?_ (Nat.lt_of_lt_of_le hx pH.next) hH (fun i e=>by omega);rw [(pH.keep _ hx (by simp)).get];exact hd
 rcases hor with ⟨rfl,rfl⟩ |⟨rfl,h⟩
 ·refine a8t_0 _ H13.next [] H d14 f 0 true f i1 N.root i3 false i5 a l q i9 0 i11 _ Hx ⟨fun h=>absurd h (by simp),fun _ i40 H41 h41 p41 H42 p42 H43 p43 d44=> ?_⟩;exact GoesG.swap (kn':=[⟨i1,N.root.cs,72⟩,⟨i3,[.bool false],4⟩,⟨i5,[.slice a l q],70⟩,⟨i40,[.int .i64 1],3⟩]) (tmps':=L8t_0 d44 f) rfl (List.all_eq_true.1 (show List.all (L8t_0 d44 f) (inR 4)=true from rfl)) inv_pick (next i40 H41 h41 p41 H42 p42 H43 p43 d44)
 ·refine x8t_0 _ H13.next [] H d14 f 0 true f i1 N.root i3 false i5 a l q i9 0 i11 _ Hx ⟨fun h=>absurd h (by simp),fun _ i40 H41 h41 p41 H42 p42 H43 p43 d44=> ?_⟩;exact GoesG.swap (kn':=[⟨i1,N.root.cs,72⟩,⟨i3,[.bool false],4⟩,⟨i5,[.slice a l q],70⟩,⟨i40,[.int .i64 1],3⟩]) (tmps':=L8t_0 d44 f) rfl (List.all_eq_true.1 (show List.all (L8t_0 d44 f) (inR 4)=true from rfl)) inv_pick (next i40 H41 h41 p41 H42 p42 H43 p43 d44)
end
theorem s8(N:Nd)(H:LHeap)(hN:NdAt H N)(hE:NdE H (fun _=>True) N)(hT:NdStr N):CallL cfg 8 [N.root.lv] H (Ret (.bool true) H):=by
 refine e8t _ N.root H fun i1 H2 h1 p2 i3 H4 h3 p4 hI4=>⟨_,s42 N H4 400 (by omega) (by omega) (hN.on hI4.pres),Ret.use ⟨_,rfl⟩,fun b6 H7 ⟨e6,p7⟩=>⟨fun _ H8 p8 hI8=>⟨rfl,hI8.pres⟩,fun hb hI7=> ?_⟩⟩;have hleft:0<leftT N 400:=by
  cases e6;simpa using hb
 have hsz4:(preT N).length<=400:=by
  have h1:=leftT_size N 400 hleft;omega
 have hsz:(preT N).length<=1000000:=by omega
 have hS:=ndSm N H hN hsz;refine ⟨_,s44 N H7 (hN.on hI7.pres) hS hsz,fun v H' ⟨g1,a,q,e,_⟩=>⟨g1,a,_,q,e⟩,fun a10 l11 c12 H13 ⟨p13,a,q,e44,hL,hLlow⟩ i14 H15 h14 p15 H16 p16 hI16=> ?_⟩;refine ⟨_,s45 N H16 (hN.on hI16.pres) (hE.on hI16.pres) hS,fun v H' ⟨g1,pp,M,e,_⟩=>⟨g1,pp,e⟩,fun y18 H19 ⟨p19,pp,M,e45,hpl,hpn,ld,cM,aM,dM⟩=>⟨rfl,fun hI19=> ?_⟩⟩;refine ⟨_,s46 N H19 hT hS (hN.on hI19.pres),Ret.use ⟨_,rfl⟩,fun b22 H23 ⟨e22,p23⟩=>⟨rfl,fun hI23=>⟨_,q47 N H23 hT hS (hN.on hI23.pres),Ret.use ⟨_,rfl⟩,fun b26 H27 ⟨e26,p27⟩=>⟨fun h=> ?bad1,fun _=>⟨rfl,fun hI27=> ?_⟩⟩⟩⟩⟩
 case bad1=>cases e22;cases e26;simp at h
 refine ⟨_,q48 N H27 hT hS (hN.on hI27.pres) hsz4,Ret.use ⟨_,rfl⟩,fun s37 H38 ⟨e37,p38⟩=>⟨rfl,fun hI38=>⟨_,q49 N H38 hT hS (hN.on hI38.pres) hsz4,Ret.use ⟨_,rfl⟩,fun s41 H42 ⟨e41,p42⟩=>⟨fun h=> ?bad2,fun _=>⟨rfl,fun hI42=> ?_⟩⟩⟩⟩⟩
 case bad2=>cases e37;cases e41;simp at h
 refine ⟨_,s50 N H42 hS (hN.on hI42.pres) hsz,Ret.use ⟨_,rfl⟩,fun n50 H51 ⟨e50,p51⟩=>⟨rfl,fun hI51=>⟨_,d51 N H51 hS (hN.on hI51.pres) hsz,Ret.use ⟨_,rfl⟩,fun n54 H55 ⟨e54,p55⟩=>⟨fun h=> ?bad3,fun _=>⟨rfl,fun hI55=> ?_⟩⟩⟩⟩⟩
 case bad3=>cases e50;cases e54;simp at h
 refine ⟨_,s52 N H55 (hN.on hI55.pres) (hE.on hI55.pres) hsz,Ret.use ⟨_,rfl⟩,fun n61 H62 ⟨e61,p62⟩=>⟨rfl,fun h=> ?bad4,fun _ i65 H66 h65 p66 H67 p67 d68=> ?_⟩⟩
 case bad4=>cases e44;cases e61;simp at h
 cases e44;obtain rfl:pp=y18:=by
  simp only [LV.func.injEq,List.cons.injEq,LV.ptr.injEq,Option.some.injEq,true_and,and_true] at e45;exact e45.symm
 have q67:PresX [] H62 H67:=p66.trans p67 (fun j hj=>.inr (by rw [List.mem_singleton.1 hj];exact h65));have q19:PresX [] H19 H62:=(((((p23.trans0 p27).trans0 p38).trans0 p42).trans0 p51).trans0 p55).trans0 p62;have q16:PresX [] H13 H16:=p15.trans p16 (fun j hj=>.inr (by rw [List.mem_singleton.1 hj];exact h14));have q13:PresX [] H13 H62:=(q16.trans0 p19).trans0 q19;have q0:PresX [] H H62:=hI55.pres.trans0 p62;have lid:∀ad,a10=some ad->ad.id<H13.next:=fun ad e=>by subst e;exact hL.id
 have ctx:Ctx8 N M a10 (preT N).length c12 pp H62.next H62:={
  hN:=hN.on q0
  nB:=ndE_ids (NdE.mono (fun j _ hl=>Nat.lt_of_lt_of_le hl q0.next) hE) hN
  hM:=aM.on q19
  mE:=NdE.onY q19 (fun j _ hl=>⟨by simp,Nat.lt_of_lt_of_le hl q19.next⟩) dM
  ld:=q19.load0 hpn ld
  fB:=Nat.lt_of_lt_of_le hpn q19.next
  hL:=hL.on q13.next (fun ad e=>q13.keep _ (lid ad e) (by simp)) (fun ad e _=>(q13.keep _ (lid ad e) (by simp)).get)
  hLB:=fun ad e=>Nat.lt_of_lt_of_le (lid ad e) q13.next
  bK:=Nat.le_refl _ }
 exact first8 cM rfl hsz4 (ctx.on q67 (fun y hy=>by cases hy))
end Go.Proofs.YtjihhflffkoffaaGreatDoor.Z
