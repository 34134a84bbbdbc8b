/- Contracts of functions of the program; no condition. -/
import Derived.Test.YtjihhflffkoffaaGreatDoorG12
import Derived.Test.YtjihhflffkoffaaGreatDoorG0
import Derived.Test.YtjihhflffkoffaaGreatDoorG1
import Derived.Test.YtjihhflffkoffaaGreatDoorG10
import Derived.Test.YtjihhflffkoffaaGreatDoorG11
import Derived.Test.YtjihhflffkoffaaGreatDoorLe
set_option linter.unusedSimpArgs false
set_option linter.unusedVariables false
set_option linter.unusedSectionVars false
set_option linter.unnecessarySimpa false
namespace Go.Proofs.YtjihhflffkoffaaGreatDoor.Z
open Go Go.Lm
set_option maxRecDepth 1000000
set_option maxHeartbeats 0
def printF(N:Nd):List UInt8:=if deepF N 24 then txT N else []
theorem q48(N:Nd)(H:LHeap)(hT:NdStr N)(hS:NdSm N)(hN:NdAt H N)(hsz:(preT N).length<=400):CallL cfg 48 [N.root.lv] H (Ret (.str (printF N)) H):=by
 refine e48t _ N.root H fun i1 H2 hI=>⟨_,s46 N H2 hT hS (hN.on hI.pres),Ret.use ⟨_,rfl⟩,fun b4 H5 ⟨e4,_⟩=>⟨fun h hI=> ?_,fun h i6 H7 hI7=> ?_⟩⟩
 ·have:deepF N 24=false:=by cases e4;simpa using h
  exact ⟨by unfold printF;rw [this];rfl,hI.pres⟩
 ·have hg:deepF N 24=true:=by cases e4;simpa using h
  have hO:=deep_ok hg;have hl:=tx_len hO;have hp:printF N=txT N:=by unfold printF;rw [if_pos hg]
  rw [hp];have hi6:H.next<=i6:=(hI7.slot 1 _ rfl).2.2.resolve_left (by simp);have hi1:i1<H7.next:=(hI7.slot 0 _ rfl).1;have hb:BldE 164 H7 i6 none none 0 (.exact 0) []:=⟨(hI7.slot 1 _ rfl).1,(hI7.slot 1 _ rfl).2.1,.nil,.inl rfl,(fun ad h=>by cases h),fun ad h=>by cases h⟩;refine ⟨_,[],q111 N hO hS hsz 164 (.inr rfl) H7 i6 none none 0 (.exact 0) [] H.next hb (hN.on hI7.pres) hN.ids ⟨hi6,fun ad h=>by cases h⟩ (by simp;omega),BldEW.use rfl,(fun j hj=>by cases hj),fun p9 a10 l11 c12 H13 ⟨_,_,a',n',q',hb',hr'⟩ hg' hI13=> ?_⟩;obtain ⟨rfl,rfl,rfl,rfl⟩:=box_eq hg' hb'.get;rw [List.nil_append] at hb';have hfr:∀ad,a10=some ad->H7.next<=ad.id:=fun ad h=>by
   rcases hr' ad h with ⟨_,h1,_⟩ |h1
   ·cases h1
   ·exact h1
  have hne:∀j∈idl' a10,okId [] H [⟨i1,N.root.cs,72⟩,⟨i6,[.ptr (some ⟨i6,2,0⟩),.slice a10 l11 c12],164⟩] j:=fun j hj=>by
   cases ha:a10 with
   |none=>rw [ha] at hj;cases hj
   |some ad=>
    rw [ha] at hj;rw [List.mem_singleton.1 hj];have h7:=hfr ad ha;have h8:=hI7.pres.next;exact okId2 (.inr (by omega)) (by omega) (hb'.ne ad ha)
  refine ⟨_,idl' a10,g112 (.inr rfl) i6 H13 hb' (by omega),fun v H' ⟨p,e⟩=>⟨p.mono (fun j hj=>List.mem_cons_of_mem _ hj),by rw [e];exact ⟨_,rfl⟩,_,⟨_,_,_,_,rfl⟩,rfl,(p.keep i6 hb'.lt (fun hm=> ?_)).get.trans hb'.get⟩,hne,fun s15 p16 a17 l18 c19 H20 ⟨_,e⟩ _ hI=> ?_⟩
  ·cases ha:a10 with
   |none=>rw [ha] at hm;cases hm
   |some ad=>rw [ha] at hm;exact hb'.ne ad ha (List.mem_singleton.1 hm).symm
  ·cases e;exact .mk hI.pres
theorem q49(N:Nd)(H:LHeap)(hT:NdStr N)(hS:NdSm N)(hN:NdAt H N)(hsz:(preT N).length<=400):CallL cfg 49 [N.root.lv] H (Ret (.str (printF N)) H):=by
 refine e49t _ N.root H fun i1 H2 hI=>⟨_,q47 N H2 hT hS (hN.on hI.pres),Ret.use ⟨_,rfl⟩,fun b4 H5 ⟨e4,_⟩=>⟨fun h hI=> ?_,fun h hI=> ?_⟩⟩
 ·have:deepF N 24=false:=by cases e4;simpa using h
  exact ⟨by unfold printF;rw [this];rfl,hI.pres⟩
 ·have hg:deepF N 24=true:=by cases e4;simpa using h
  refine ⟨_,q113 N H5 (deep_ok hg) hS (hN.on hI.pres) (by omega),Ret.use ⟨_,rfl⟩,fun s6 H7 ⟨e,_⟩ hI=>⟨?_,hI.pres⟩⟩;rw [e];unfold printF;rw [if_pos hg]
def CopX(N:Nd)(H:LHeap):LV->LHeap->Prop:=
 fun v H'=>PresX [] H H'/\∃M:Nd,v=M.root.lv/\Cp N M/\NdAt H' M/\NdE H' (fun j=>H.next<=j) M/\(0<M.root.argsL->∃cs,RowAt H' 72 18 M.root.argsA M.root.argsL (.free 18) cs)
theorem copX_sh{N:Nd}{H:LHeap}:∀v H',CopX N H v H'->PresX [] H H'/\hasSh (.cust NdC NdC.lv) v:=
 fun v H' ⟨h1,M,e,_⟩=>⟨h1,⟨M.root,e⟩⟩
theorem loop106x:∀(l2:List Nd) (_:∀n∈l2,∀H,NdAt H n->NdE H (fun _=>True) n->CallL cfg 106 [n.root.lv] H (CopR n H)) (l1 ms:List Nd) (x x8:NdC) (H0:LHeap) (a:Option LAddr) (k:Nat) (q:Cap) (i5 i7:Nat) (d:Nat->LV) (H:LHeap),
  k=(l1++l2).length->k<=1000000000->(∀n∈l2,NdAt H0 n)->(∀n∈l2,NdE H0 (fun _=>True) n)->ms.length=l1.length->Cps l1 ms->RowAt H 72 18 a k q (cellsOf ms++cellsOf l2)->(0<k->q=.free 18)->
  (∀ad,a=some ad->H0.next<=ad.id/\ad.id≠i5/\ad.id≠i7)->(∀m∈ms,NdAt H m)->(∀m∈ms,NdE H (fun j=>H0.next<=j/\j≠i5/\j≠i7/\∀ad,a=some ad->j≠ad.id) m)->i5<H.next->i7<H.next->
  GoesT cfg 106 (CopX (.mk x (l1++l2)) H0) [] H0 [⟨i5,x.cs,72⟩,⟨i7,x8.cs,72⟩] (L106t_0 d (l1.length:Int) a k q (k:Int)) (loopAt cfg 106 0) H
 |[],_,l1,ms,x,x8,H0,a,k,q,i5,i7,d,H,hk,hbig,hN,hE,hml,hcp,hr,hq,ha,hmA,hmE,h5,h7=>by
  intro hin hI;rw [List.append_nil] at hk;refine g106t_0 _ H0 d l1.length a k q k i5 x i7 x8 H ⟨fun h=> ?_,fun _ H18 p18 H19 p19 hI19=> ?_⟩ hin hI
  ·simp at h;omega
  ·have hkm:k=ms.length:=by omega
   subst hkm;rw [cellsOf,List.append_nil] at hr;have hrn:∀ad,a=some ad->ad.id<H.next:=fun ad e=>by subst e;exact hr.id
   have pp:PresX [i5,i7] H H19:=(p18.mono (Y:=[i5,i7]) (fun i hi=>by simp at hi;simp [hi])).trans p19 (fun i hi=>.inl (by simp at hi;simp [hi]));have out:∀ad,a=some ad->ad.id∉[i5,i7]:=fun ad e=>by have:=ha ad e;simp [this.2.1,this.2.2]
   have r19:RowAt H19 72 18 a ms.length q (cellsOf ms):=hr.on pp.next (fun ad e=>pp.keep _ (hrn ad e) (out ad e)) (fun ad e _=>(pp.keep _ (hrn ad e) (out ad e)).get);have hA:∀m∈ms,NdAt H19 m:=fun m hm=>by
    have e1:=hmE m hm;refine NdAt.onY pp ?_ (hmA m hm);exact ndE_ids (P:=fun j=>j∉[i5,i7]) (NdE.mono (fun j hj _=>by simp [hj.2.1,hj.2.2.1]) e1) (hmA m hm)
   refine ⟨hI19.pres,.mk { x with argsA:=a,argsL:=ms.length,argsQ:=q } ms,rfl,?_,?_,?_,fun h0=>⟨cellsOf ms,?_⟩⟩
   ·rw [List.append_nil];unfold Cp;exact ⟨rfl,hcp⟩
   ·unfold NdAt;exact ⟨rfl,by show ms.length<=maxLen;unfold maxLen;omega,nds_row2 ms r19 hA⟩
   ·unfold NdE;refine ⟨fun ad e=>⟨(ha ad e).1,Nat.lt_of_lt_of_le (hrn ad e) pp.next,?_⟩,NdsE.all fun m hm=>NdE.onY pp (fun j hj _=>⟨by simp [hj.2.1,hj.2.2.1],hj.1⟩) (hmE m hm)⟩;subst e;exact r19.zero
   ·have h0':0<ms.length:=h0;rw [<-hq (by omega)];exact r19
 |n::l2,hs,l1,ms,x,x8,H0,a,k,q,i5,i7,d,H,hk,hbig,hN,hE,hml,hcp,hr,hq,ha,hmA,hmE,h5,h7=>by
  intro hin hI;rw [List.length_append,List.length_cons] at hk;have hq':=hq (by omega);subst hq';have hrn:∀ad,a=some ad->ad.id<H.next:=fun ad e=>by subst e;exact hr.id
  obtain ⟨g1,g2,g3⟩:=hr.load (i:=l1.length) (by omega);have hcl:(cellsOf ms).length=l1.length*18:=by rw [cellsOf_len,hml]
  have hld:((cellsOf ms++cellsOf (n::l2)).drop (l1.length*18)).take 18=n.root.cs:=by
   rw [<-hcl,List.drop_left,cellsOf,List.take_append_of_le_length (by rw [ndc_len];omega),List.take_of_length_le (by rw [ndc_len];omega)]
  rw [hld] at g3;obtain ⟨ad,rfl⟩:∃ad,a=some ad:=by
   cases a with
   |none=>cases g1
   |some ad=>exact ⟨ad,rfl⟩
  have hall:l1++n::l2=(l1++[n])++l2:=by simp
  refine g106t_0 _ H0 d l1.length (some ad) k (.free 18) k i5 x i7 x8 H ⟨fun h=>⟨⟨by omega,by omega,g1⟩,fun hI=>⟨n.root,?ld,fun hI=>⟨_,hs n List.mem_cons_self H ((hN n List.mem_cons_self).on hI.pres) ((hE n List.mem_cons_self).on hI.pres),copR_sh,fun x13 H14 ⟨p14,M,eM,cM,aM,dM⟩=>⟨⟨by omega,by omega,g1⟩,fun hI14=> ?st⟩⟩⟩⟩,fun h=> ?ge⟩ hin hI
  case ge=>simp at h;omega
  case ld=>
   simp only [Int.toNat_natCast];exact load_agg (by kernel_rfl) (by kernel_rfl) g3
  case st=>
   have r14:RowAt H14 72 18 (some ad) k (.free 18) (cellsOf ms++(n.root.cs++cellsOf l2)):=hr.on p14.next (fun ad e=>p14.keep _ (hrn ad e) (by simp)) (fun ad e _=>(p14.keep _ (hrn ad e) (by simp)).get);obtain ⟨H16,k1,k2,k3⟩:=node_store r14 hcl (ndc_len _) M.root;have hadn:=hrn ad rfl;have had:=ha ad rfl;refine ⟨H16,⟨by simp only [Int.toNat_natCast];rw [eM];exact k1,.inr had.1,fun m s hs=> ?_⟩,fun d17=> ?_⟩
   ·match m,hs with
    |0,hs=>cases hs;exact fun e=>had.2.1 e.symm
    |1,hs=>cases hs;exact fun e=>had.2.2 e.symm
    |m+2,hs=>simp [nth] at hs
   ·have hk':(l1.length:Int)+1=(((l1++[n]).length:Nat):Int):=by simp
    rw [lwrap_small (by omega) (by omega),hk',hall];have k3':PresX [ad.id] H14 H16:=k3;have step:∀{m:Nd} {P:Nat->Prop},NdAt H14 m->NdE H14 P m->(∀j,P j->j<H14.next->j≠ad.id/\H0.next<=j/\j≠i5/\j≠i7)->NdAt H16 m/\NdE H16 (fun j=>H0.next<=j/\j≠i5/\j≠i7/\∀ad',some ad=some ad'->j≠ad'.id) m:=by
     intro m P hA hE' hP;refine ⟨NdAt.onY k3' (ndE_ids (P:=fun j=>j∉[ad.id]) (NdE.mono (fun j hj hl=>by have:=hP j hj hl;simp [this.1]) hE') hA) hA,NdE.onY k3' (fun j hj hl=> ?_) hE'⟩;have:=hP j hj hl;exact ⟨by simp [this.1],this.2.1,this.2.2.1,this.2.2.2,fun ad' e=>by cases e;exact this.1⟩
    have new:=step aM dM (fun j hj hl=>⟨by omega,by have:=hI.pres.next;omega,by omega,by omega⟩);have olds:∀m∈ms,NdAt H16 m/\NdE H16 (fun j=>H0.next<=j/\j≠i5/\j≠i7/\∀ad',some ad=some ad'->j≠ad'.id) m:=fun m hm=>
     step ((hmA m hm).on p14) ((hmE m hm).on p14) (fun j hj hl=>⟨hj.2.2.2 ad rfl,hj.1,hj.2.1,hj.2.2.1⟩)
    refine loop106x l2 (fun m hm=>hs m (List.mem_cons_of_mem _ hm)) (l1++[n]) (ms++[M]) x x8 H0 (some ad) k (.free 18) i5 i7 d17 H16 (by simp;omega) hbig (fun m hm=>hN m (List.mem_cons_of_mem _ hm)) (fun m hm=>hE m (List.mem_cons_of_mem _ hm)) (by simp [hml]) (hcp.snoc cM) ?_ (fun _=>rfl) ha ?_ ?_ (by have:=p14.next;have:=k3'.next;omega) (by have:=p14.next;have:=k3'.next;omega)
    ·rw [cellsOf_app,List.append_assoc];exact k2
    ·intro m hm;rcases List.mem_append.1 hm with hm |hm
     ·exact (olds m hm).1
     ·rw [List.mem_singleton.1 hm];exact new.1
    ·intro m hm;rcases List.mem_append.1 hm with hm |hm
     ·exact (olds m hm).2
     ·rw [List.mem_singleton.1 hm];exact new.2
theorem s106x(N:Nd)(H:LHeap)(hN:NdAt H N)(hE:NdE H (fun _=>True) N)(hS:NdSm N):CallL cfg 106 [N.root.lv] H (CopX N H):=by
 match N,hN,hE,hS with
 | .mk x l,hN,hE,hS=>
  have hN':=hN;unfold NdAt at hN';have hE':=hE;unfold NdE at hE';unfold NdSm at hS;obtain ⟨n1,n2,n3⟩:=hN';refine e106t _ x H fun i1 H2 h2 p2 i3 H4 h4 p4 hI4=> ?_;have p24:PresX [] H H4:=hI4.pres;have c191:=s191 l x.argsA x.argsQ H4 (n3.on p24) (fun ad e=>(p24.keep _ (hE'.1 ad e).2.1 (by simp)).loads ad _ _ rfl (hE'.1 ad e).2.2) (fun ad e=>Nat.lt_of_lt_of_le (hE'.1 ad e).2.1 p24.next) (by omega);rw [n1] at c191;refine ⟨_,c191,fun v H' ⟨g1,a,q,e,_⟩=>⟨g1,a,_,q,e⟩,fun a6 l7 c8 H9 ⟨p9,a,q,e,hr,hlow,hq⟩ d10=> ?_⟩;cases e;intro hin hI9;have hi1:=(hI4.slot 0 _ rfl).1;have hi3:=(hI4.slot 1 _ rfl).1;have hi1':i1<H4.next:=hi1;have hi3':i3<H4.next:=hi3;refine loop106x l (fun n hn H' hA hE2=>s106 n H' hA hE2 (hS.2.mem n hn)) [] [] x ⟨0,[],0,0,[],[],[],0,0,false,false,[],[],0,0,false,false,none,0,.exact 0⟩ H a6 x.argsL c8 i1 i3 d10 H9 (by simpa using n1.symm) hS.1 (n3.mem) (hE'.2.mem) rfl (by unfold Cps;trivial) hr hq (fun ad e=> ?_) (fun m hm=>by cases hm) (fun m hm=>by cases hm) (by have:=p9.next;omega) (by have:=p9.next;omega) hin hI9;have:=hlow ad e;have:=p24.next;exact ⟨by omega,by omega,by omega⟩
mutual
def subT:Nd->List Nd
 | .mk x l=>.mk x l::subTs l
def subTs:List Nd->List Nd
 |[]=>[]
 |n::l=>subT n++subTs l
end
theorem subT_mk(x:NdC)(l:List Nd):subT (.mk x l)=.mk x l::subTs l:=by rw [subT]
theorem subTs_cons(n:Nd)(l:List Nd):subTs (n::l)=subT n++subTs l:=by rw [subTs]
mutual
theorem subT_pre:∀n:Nd,(subT n).map Nd.root=preT n
 | .mk x l=>by rw [subT,preT,List.map_cons,subTs_pre l];rfl
theorem subTs_pre:∀l:List Nd,(subTs l).map Nd.root=preTs l
 |[]=>by rw [subTs,preTs];rfl
 |n::l=>by rw [subTs,preTs,List.map_append,subT_pre n,subTs_pre l]
end
theorem subT_len(n:Nd):(subT n).length=(preT n).length:=by rw [<-subT_pre,List.length_map]
theorem subTs_lenP(l:List Nd):(subTs l).length=(preTs l).length:=by rw [<-subTs_pre,List.length_map]
theorem subTs_len(l:List Nd):l.length<=(subTs l).length:=by rw [subTs_lenP];exact preTs_len l
def rowId(M:Nd):List Nat:=if 0<M.root.argsL then [(adr M.root.argsA).id] else []
def WRT(Y:List Nat)(J:List Nd->LHeap->Prop)(St:LHeap->Prop)(rest:List Nd)(H:LHeap):LV->LHeap->Prop:=
 fun v H'=>PresX Y H H'/\∃b,v=.bool b/\(b=true->J rest H')/\(b=false->St H')
theorem WRT.sh{Y:List Nat}{J:List Nd->LHeap->Prop}{St:LHeap->Prop}{rest:List Nd}{H:LHeap}:∀v H',WRT Y J St rest H v H'->PresX Y H H'/\hasSh .bool v:=
 fun v H' ⟨h1,b,e,_⟩=>⟨h1,b,e⟩
structure WalksT (l:Nat) (Y:List Nat) (J:List Nd->LHeap->Prop) (St:LHeap->Prop):Prop where
 on:∀{rest H H'},J rest H->PresX [] H H'->J rest H'
 low:∀{rest H},J rest H->∀y∈Y,y<H.next
 yld:∀(M M':Nd) (rest:List Nd) (H:LHeap) (B:Nat),J (M::rest) H->Cp M M'->NdAt H M'->NdE H (fun j=>B<=j) M'->(0<M'.root.argsL->∃cs,RowAt H 72 18 M'.root.argsA M'.root.argsL (.free 18) cs)->(∀y∈Y,y<B)->B<=H.next->
  YieldL cfg l [M'.root.lv] H (WRT (Y++rowId M') J St rest H)
theorem rowId_ge{H:LHeap}{M:Nd}{B:Nat}(h:NdE H (fun j=>B<=j) M)(hN:NdAt H M):∀j∈rowId M,B<=j:=fun j hj=>by
 unfold rowId at hj;split at hj
 ·rename_i h0;rw [List.mem_singleton.1 hj]
  match M,h,hN,h0 with
  | .mk x l,h,hN,h0=>
   unfold NdE at h;unfold NdAt at hN;have h0':0<x.argsL:=h0;show B<=(adr x.argsA).id;cases ea:x.argsA with
   |some ad=>exact (h.1 ad ea).1
   |none=>
    match l,hN with
    |[],hN=>simp at hN;omega
    |n::l,hN=>
     have:=hN.2.2;unfold NdsAt at this;rw [ea] at this;cases this.1.1
 ·cases hj
theorem loop108T{l:Nat}{Y:List Nat}{J:List Nd->LHeap->Prop}{St:LHeap->Prop}(hW:WalksT l Y J St):∀(l2:List Nd) (_:∀n∈l2,∀rest H,NdAt H n->NdE H (·∉Y) n->(subT n).length<=1000000->J (subT n++rest) H->CallL cfg 108 [n.root.lv,.func (.yield l) [] []] H (WRT Y J St rest H))
  (rest:List Nd) (a:Option LAddr) (q:Cap) (k i:Nat) (d:Nat->LV) (H0 H:LHeap),i+l2.length=k->k<=1000000000->NdsAt H l2 a i->NdsE H (·∉Y) l2->(∀ad,a=some ad->ad.id∉Y/\ad.id<H.next)->(subTs l2).length<=1000000->J (subTs l2++rest) H->
  GoesT cfg 108 (WRT Y J St rest H0) Y H0 [] (L108t_0 d (i:Int) l a k q (k:Int)) (loopAt cfg 108 0) H
 |[],_,rest,a,q,k,i,d,H0,H,hk,hbig,hA,hE,ha,hsz,hJ=>by
  intro hin hI;refine g108t_0 _ Y H0 d i l a k q k H ⟨fun h=> ?_,fun _ hI=>⟨hI.pres,true,rfl,fun _=>hJ,fun e=>by cases e⟩⟩ hin hI;simp at h hk;omega
 |n::l2,hs,rest,a,q,k,i,d,H0,H,hk,hbig,hA,hE,ha,hsz,hJ=>by
  intro hin hI;rw [List.length_cons] at hk;unfold NdsAt at hA;unfold NdsE at hE;rw [subTs_cons,List.length_append] at hsz;rw [subTs_cons,List.append_assoc] at hJ;obtain ⟨⟨n1,n2,n3⟩,n4,n5⟩:=hA;obtain ⟨ad,rfl⟩:∃ad,a=some ad:=by
   cases a with
   |none=>cases n1
   |some ad=>exact ⟨ad,rfl⟩
  refine g108t_0 _ Y H0 d i l (some ad) k q k H ⟨fun h=>⟨⟨by omega,by omega,n1⟩,fun hI=>⟨n.root,?ld,fun i9 H10 h9 p10 H11 p11 hI11=> ?call⟩⟩,fun h=> ?ge⟩ hin hI
  case ge=>simp at h;omega
  case ld=>
   simp only [Int.toNat_natCast];exact n3
  case call=>
   have p:PresX [] H H11:=p10.trans p11 (fun j hj=>.inr (by rw [List.mem_singleton.1 hj];exact h9));have hJ11:=hW.on hJ p;refine ⟨_,Y,hs n List.mem_cons_self (subTs l2++rest) H11 (n4.on p) (hE.1.on p) (by omega) hJ11,WRT.sh,fun y hy=>⟨.inl hy,fun m s hs=> ?_⟩,fun b13 H14 ⟨p14,b,e,hT,hF⟩=>⟨fun hb hI=> ?_,fun hb d15=> ?_⟩⟩
   ·match m,hs with
    |0,hs=>
     cases hs;have:=hW.low hJ y hy;show i9≠y;omega
    |m+1,hs=>simp [nth] at hs
   ·cases e;exact ⟨hI.pres,false,rfl,(fun e=>by cases e),fun _=>hF (by simpa using hb)⟩
   ·cases e;have hk':(i:Int)+1=((i+1:Nat):Int):=by simp
    rw [lwrap_small (by omega) (by omega),hk'];have had:=ha ad rfl;have hE':=hE.2.on p;exact loop108T hW l2 (fun m hm=>hs m (List.mem_cons_of_mem _ hm)) rest (some ad) q k (i+1) d15 H0 H14 (by omega) hbig (NdsAt.onY p14 had.1 (ndsE_ids hE' (n5.on p)) (n5.on p)) (NdsE.onY p14 (fun j hj _=>⟨hj,hj⟩) hE') (fun ad' e=>by cases e;exact ⟨had.1,Nat.lt_of_lt_of_le had.2 (Nat.le_trans p.next p14.next)⟩) (by omega) (hT (by simpa using hb))
theorem s108T{l:Nat}{Y:List Nat}{J:List Nd->LHeap->Prop}{St:LHeap->Prop}(hW:WalksT l Y J St)(N:Nd)(rest:List Nd)(H:LHeap)(hN:NdAt H N)(hE:NdE H (·∉Y) N)(hsz:(subT N).length<=1000000)(hJ:J (subT N++rest) H):
  CallL cfg 108 [N.root.lv,.func (.yield l) [] []] H (WRT Y J St rest H):=by
 match N,hN,hE,hsz,hJ with
 | .mk x m,hN,hE,hsz,hJ=>
  refine e108t _ Y x l H fun i0 H1 h0 p1 hI1=>⟨_,s106x (.mk x m) H1 (hN.on p1) (NdE.mono (fun _ _ _=>trivial) (hE.on p1)) (ndSm _ H hN (by rw [<-subT_len];exact hsz)),copX_sh,fun x3 H4 ⟨p4,M,eM,cM,aM,dM,rM⟩ hI4=> ?_⟩;have p14:=p1.trans0 p4;have h01:i0<H1.next:=(hI1.slot 0 _ rfl).1;rw [subT_mk] at hsz hJ;have hJ4:=hW.on hJ p14;rw [List.cons_append] at hJ4;rw [eM];have hge:=rowId_ge dM aM;have hy1:∀y∈Y,y<H1.next:=fun y hy=>Nat.lt_of_lt_of_le (hW.low hJ y hy) p1.next;refine ⟨_,Y++rowId M,hW.yld (.mk x m) M (subTs m++rest) H4 H1.next hJ4 cM aM dM rM hy1 p4.next,WRT.sh,fun y hy=> ?_,fun b6 H7 ⟨p7,b,e,hT,hF⟩=>⟨fun hb hI=> ?_,fun hb d8=> ?_⟩⟩
  ·rcases List.mem_append.1 hy with hy |hy
   ·refine ⟨.inl hy,fun k s hs=> ?_⟩
    match k,hs with
    |0,hs=>
     cases hs;have:=hW.low hJ y hy;show i0≠y;omega
    |k+1,hs=>simp [nth] at hs
   ·have:=hge y hy;have:=p1.next;refine ⟨.inr (by omega),fun k s hs=> ?_⟩
    match k,hs with
    |0,hs=>
     cases hs;show i0≠y;omega
    |k+1,hs=>simp [nth] at hs
  ·cases e;exact ⟨hI.pres,false,rfl,(fun e=>by cases e),fun _=>hF (by simpa using hb)⟩
  ·cases e;have hN':=hN;unfold NdAt at hN';have hE':=hE;unfold NdE at hE';have hlen:=subTs_len m;rw [List.length_cons] at hsz;have out:∀j,j∉Y->j<H.next->j∉Y++rowId M:=fun j hj hlt hm=>by
    rcases List.mem_append.1 hm with hm |hm
    ·exact hj hm
    ·have:=hge j hm;have:=p1.next;omega
   have hE2:NdsE H (fun j=>j∉Y++rowId M) m:=NdsE.all fun n hn=>NdE.mono (fun j hj hlt=>out j hj hlt) (NdsE.mem hE'.2 n hn);have hEs:=NdsE.on p14 hE'.2;have hEs2:=NdsE.on p14 hE2;have hAs:=NdsAt.on p14 hN'.2.2;have hids:=ndsE_ids hEs2 hAs;intro hin hI7;have hAs7:NdsAt H7 m x.argsA 0:=by
    cases m with
    |nil=>unfold NdsAt;trivial
    |cons n m=>
     refine NdsAt.onY p7 ?_ hids hAs;have h1:=hN'.2.2;unfold NdsAt at h1;cases ea:x.argsA with
     |none=>rw [ea] at h1;cases h1.1.1
     |some ad=>exact out _ (hE'.1 ad ea).1 (hE'.1 ad ea).2.1
   exact loop108T hW m (fun n hn rest' H' hA hE2 hz hJ2=>s108T hW n rest' H' hA hE2 hz hJ2) rest x.argsA x.argsQ x.argsL 0 d8 H H7 (by have:=hN'.1;omega) (by have:=hN'.1;omega) hAs7 (NdsE.onY p7 (fun j hj _=>⟨hj,fun hy=>hj (List.mem_append_left _ hy)⟩) hEs2)
    (fun ad e=>⟨(hE'.1 ad e).1,Nat.lt_of_lt_of_le (hE'.1 ad e).2.1 (Nat.le_trans p14.next p7.next)⟩) (by omega) (hT (by simpa using hb)) hin hI7
termination_by SizeOf.sizeOf N
decreasing_by
 have:=List.sizeOf_lt_of_mem hn
 simp_wf
 omega
theorem s107T{l:Nat}{Y:List Nat}{J:List Nd->LHeap->Prop}{St:LHeap->Prop}(hW:WalksT l Y J St)(N:Nd)(p:LAddr)(H:LHeap)(hp:loadT cfg.P H 72 p=some N.root.lv)(hN:NdAt H N)(hE:NdE H (·∉Y) N)(hsz:(subT N).length<=1000000)(hJ:J (subT N) H):
  CallL cfg 107 [.func (.yield l) [] [],.ptr (some p)] H (fun v H'=>PresX Y H H'/\(J [] H'\/St H')):=by
 refine e107t _ Y l p H fun _=>⟨N.root,hp,fun _=>⟨_,Y,s108T hW N [] H hN hE hsz (by rw [List.append_nil];exact hJ),WRT.sh,fun y hy=>⟨.inl hy,fun k s hs=>by simp [nth] at hs⟩,fun b3 H4 ⟨p4,b,e,hT,hF⟩ hI=>⟨hI.pres,?_⟩⟩⟩;cases b with
 |true=>exact .inl (hT rfl)
 |false=>exact .inr (hF rfl)
theorem head_bare{x y:NdC}(h:y.bare=x.bare):headEq y x=true:=by
 have e:∀z:NdC,headEq z.bare x=headEq z x:=fun _=>rfl;rw [<-e y,h,e x];unfold headEq eqV eqR eqT;simp
mutual
theorem cp_same:∀{N M:Nd},Cp N M->sameT M N=true
 | .mk x l,.mk y m,h=>by
  unfold Cp at h;unfold sameT;rw [head_bare h.1,cps_same h.2];rfl
theorem cps_same:∀{l m:List Nd},Cps l m->sameTs m l=true
 |[],[],_=>by unfold sameTs;rfl
 |n::l,k::m,h=>by
  unfold Cps at h;unfold sameTs;rw [cp_same h.1,cps_same h.2];rfl
 |[],_::_,h=>by unfold Cps at h;exact h.elim
 |_::_,[],h=>by unfold Cps at h;exact h.elim
end
mutual
theorem Cp.trans:∀{N M K:Nd},Cp N M->Cp M K->Cp N K
 | .mk x l,.mk y m,.mk z k,h,h'=>by
  unfold Cp at h h' |-;exact ⟨h'.1.trans h.1,Cps.trans h.2 h'.2⟩
theorem Cps.trans:∀{l m k:List Nd},Cps l m->Cps m k->Cps l k
 |[],[],[],_,_=>by unfold Cps;trivial
 |n::l,a::m,b::k,h,h'=>by
  unfold Cps at h h' |-;exact ⟨Cp.trans h.1 h'.1,Cps.trans h.2 h'.2⟩
 |[],_::_,_,h,_=>by unfold Cps at h;exact h.elim
 |_::_,[],_,h,_=>by unfold Cps at h;exact h.elim
 |_,[],_::_,_,h=>by unfold Cps at h;exact h.elim
 |_,_::_,[],_,h=>by unfold Cps at h;exact h.elim
end
theorem Cps.app:∀{l m l' m':List Nd},Cps l m->Cps l' m'->Cps (l++l') (m++m')
 |[],[],_,_,_,h=>h
 |n::l,k::m,l',m',h,h'=>by
  unfold Cps at h;rw [List.cons_append,List.cons_append];unfold Cps;exact ⟨h.1,Cps.app h.2 h'⟩
 |[],_::_,_,_,h,_=>by unfold Cps at h;exact h.elim
 |_::_,[],_,_,h,_=>by unfold Cps at h;exact h.elim
mutual
theorem cp_subs:∀{N M:Nd},Cp N M->Cps (subT N) (subT M)
 | .mk x l,.mk y m,h=>by
  rw [subT,subT];unfold Cps;refine ⟨h,?_⟩;unfold Cp at h;exact cps_subs h.2
theorem cps_subs:∀{l m:List Nd},Cps l m->Cps (subTs l) (subTs m)
 |[],[],_=>by rw [subTs];unfold Cps;trivial
 |n::l,k::m,h=>by
  unfold Cps at h;rw [subTs,subTs];exact (cp_subs h.1).app (cps_subs h.2)
 |[],_::_,h=>by unfold Cps at h;exact h.elim
 |_::_,[],h=>by unfold Cps at h;exact h.elim
end
theorem Cps.get:∀{l m:List Nd},Cps l m->∀{i:Nat} {k:Nd},m[i]? =some k->∃n,l[i]? =some n/\Cp n k
 |n::l,a::m,h,0,k,hk=>by
  unfold Cps at h;simp only [List.getElem?_cons_zero,Option.some.injEq] at hk |-;subst hk;exact ⟨n,rfl,h.1⟩
 |n::l,a::m,h,i+1,k,hk=>by
  unfold Cps at h;simp only [List.getElem?_cons_succ] at hk |-;exact Cps.get h.2 hk
 |[],[],_,i,k,hk=>by simp at hk
 |[],_::_,h,_,_,_=>by unfold Cps at h;exact h.elim
 |_::_,[],h,_,_,_=>by unfold Cps at h;exact h.elim
mutual
theorem sub_at{H:LHeap}:∀{N:Nd},NdAt H N->∀n∈subT N,NdAt H n
 | .mk x l,h,n,hn=>by
  rw [subT] at hn;rcases List.mem_cons.1 hn with rfl |hn
  ·exact h
  ·unfold NdAt at h;exact subs_at h.2.2 n hn
theorem subs_at{H:LHeap}:∀{l:List Nd} {a:Option LAddr} {i:Nat},NdsAt H l a i->∀n∈subTs l,NdAt H n
 |[],_,_,_,n,hn=>by rw [subTs] at hn;cases hn
 |m::l,a,i,h,n,hn=>by
  unfold NdsAt at h;rw [subTs] at hn;rcases List.mem_append.1 hn with hn |hn
  ·exact sub_at h.2.1 n hn
  ·exact subs_at h.2.2 n hn
end
def ListR(N:Nd)(H:LHeap):LV->LHeap->Prop:=
 fun v H'=>PresX [] H H'/\∃a q,v=.slice a (preT N).length q/\RowAt H' 72 18 a (preT N).length q (cellsC (preT N))/\∀ad,a=some ad->H.next<=ad.id
theorem loop44:∀(l2:List Nd) (_:∀n∈l2,∀H,NdAt H n->(preT n).length<=1000000->CallL cfg 44 [n.root.lv] H (ListR n H)) (l1:List Nd) (x:NdC) (H0:LHeap) (a:Option LAddr) (k:Nat) (q:Cap) (d:Nat->LV) (H:LHeap),NdAt H0 (.mk x (l1++l2))->NdsAt H0 l2 x.argsA l1.length->(preT (.mk x (l1++l2))).length<=1000000->x.argsL<=1000000000->
  k=(preT (.mk x l1)).length->RowAt H 72 18 a k q (cellsC (preT (.mk x l1)))->(∀ad,a=some ad->H0.next<=ad.id)->
  GoesT cfg 44 (ListR (.mk x (l1++l2)) H0) [] H0 [] (L44t_0 d (l1.length:Int) a k q x.argsA x.argsL x.argsQ (x.argsL:Int)) (loopAt cfg 44 0) H
 |[],_,l1,x,H0,a,k,q,d,H,hN,hA,hsz,hbig,hk,hr,hlow=>by
  intro hin hI;have hN':=hN;unfold NdAt at hN';have hlen:l1.length=x.argsL:=by simpa using hN'.1
  refine g44t_0 _ H0 d l1.length a k q x.argsA x.argsL x.argsQ x.argsL H ⟨fun h=> ?_,fun _ hI=> ?_⟩ hin hI
  ·simp at h;omega
  ·rw [List.append_nil];exact ⟨hI.pres,a,q,by rw [hk],by rw [<-hk];exact hr,hlow⟩
 |n::l2,hs,l1,x,H0,a,k,q,d,H,hN,hA,hsz,hbig,hk,hr,hlow=>by
  intro hin hI;have hN':=hN;unfold NdAt at hN';have hlen:l1.length+(l2.length+1)=x.argsL:=by simpa using hN'.1
  unfold NdsAt at hA;obtain ⟨⟨n1,n2,n3⟩,n4,n5⟩:=hA;have hall:l1++n::l2=(l1++[n])++l2:=by simp
  have hsz':k+(preT n).length<=1000000:=by
   rw [hk];rw [preT,preTs_app,preTs] at hsz;simp only [List.length_cons,List.length_append,preT] at hsz |-;omega
  refine g44t_0 _ H0 d l1.length a k q x.argsA x.argsL x.argsQ x.argsL H ⟨fun h=>⟨⟨by omega,by omega,n1⟩,fun hI=>⟨n.root,?ld,fun i11 H12 h12 p12 H13 p13 hI13=>⟨_,hs n List.mem_cons_self H13 (n4.on hI13.pres) (by omega),?sh,fun a15 l16 c17 H18 ⟨p18,b,qb,e,rb,lowb⟩ hI18=> ?app⟩⟩⟩,fun h=> ?ge⟩ hin hI
  case ge=>simp at h;omega
  case ld=>
   simp only [Int.toNat_natCast];exact hI.pres.load0 (a:=⟨(adr x.argsA).id,(adr x.argsA).ver,(adr x.argsA).off+l1.length*18⟩) n2 n3
  case sh=>
   rintro v H' ⟨h1,a,q,e,_⟩;exact ⟨h1,a,_,q,e⟩
  case app=>
   cases e;have p13':PresX [] H H13:=p12.trans p13 (fun j hj=>.inr (by rw [List.mem_singleton.1 hj];exact h12));have pAll:=p13'.trans0 p18;have r18:RowAt H18 72 18 a k q (cellsC (preT (.mk x l1))):=hr.on pAll.next (fun ad e=>by subst e;exact pAll.keep _ hr.id (by simp)) (fun ad e _=>by subst e;exact (pAll.keep _ hr.id (by simp)).get);obtain ⟨Y,a',q',H22,h1,h2,h3,h4,h5⟩:=r18.append rowT (x:=.slice a15 (preT n).length c17) rfl rb.loadAll (by rw [cellsC_len]) rb.cells (by omega);refine ⟨Y,a',k+(preT n).length,q',H22,⟨h1,h2,fun j hj=> ?_⟩,fun d'=> ?_⟩
   ·obtain ⟨ad,e,rfl⟩:=h4 j hj;subst e;have:=hr.id;have:=hlow ad rfl;refine ⟨.inr (by omega),fun m s hs=> ?_⟩
    match m,hs with
    |0,hs=>cases hs;show i11≠_;omega
    |m+1,hs=>simp [nth] at hs
   ·have hk':(l1.length:Int)+1=(((l1++[n]).length:Nat):Int):=by simp
    rw [lwrap_small (by omega) (by omega),hk',hall];refine loop44 l2 (fun m hm=>hs m (List.mem_cons_of_mem _ hm)) (l1++[n]) x H0 a' (k+(preT n).length) q' d' H22 (hall▸hN) (by rw [List.length_append];exact n5) (hall▸hsz) hbig ?_ ?_ fun ad' e=> ?_
    ·rw [hk];simp only [preT,preTs_snoc,List.length_cons,List.length_append];omega
    ·have:preT (.mk x (l1++[n]))=preT (.mk x l1)++preT n:=by simp only [preT,preTs_snoc,List.cons_append]
     rw [this,cellsC_app];exact h3
    ·rcases h5 ad' e with ⟨ad,e2,e3⟩ |e2
     ·rw [<-e3];exact hlow ad e2
     ·have:=pAll.next;have:=hI.pres.next;omega
theorem s44(N:Nd)(H:LHeap)(hN:NdAt H N)(hS:NdSm N)(hsz:(preT N).length<=1000000):CallL cfg 44 [N.root.lv] H (ListR N H):=by
 match N,hN,hS,hsz with
 | .mk x l,hN,hS,hsz=>
  have hN':=hN;unfold NdAt at hN';unfold NdSm at hS;have hmem:∀l:List Nd,NdsSm l->∀n∈l,NdSm n:=by
   intro l;induction l with
   |nil=>intro _ n hn;cases hn
   |cons a l ih=>
    intro h n hn;unfold NdsSm at h;rcases List.mem_cons.1 hn with rfl |hn
    ·exact h.1
    ·exact ih h.2 n hn
  refine e44t _ x H fun i1 H2 h2 p2 H3 e3 d=>fun hin hI=> ?_;exact loop44 l (fun n hn H' hA hz=>s44 n H' hA (hmem l hS.2 n hn) hz) [] x H (some ⟨H2.next,18,0⟩) 1 (.exact 1) d H3 hN hN'.2.2 hsz hS.1 rfl
   (.full ⟨H2.next,18,0⟩ 1 _ (by rw [e3];exact Nat.lt_succ_self _) (by rw [e3];unfold loadN;simp only [LHeap.get_push,if_true];simp only [preT,preTs,cellsC,List.append_nil];rfl) (by simp only [preT,preTs,cellsC,List.append_nil];rfl) (by simp only [preT,preTs,cellsC,List.append_nil];rfl))
   (fun ad e=>by cases e;exact p2.next) hin hI
termination_by SizeOf.sizeOf N
decreasing_by
 have:=List.sizeOf_lt_of_mem hn
 simp_wf
 omega
theorem cellsC_drop:∀(l:List NdC) (i:Nat) (n:NdC),l[i]? =some n->((cellsC l).drop (i*18)).take 18=n.cs
 |[],i,n,h=>by simp at h
 |m::l,0,n,h=>by
  simp only [List.getElem?_cons_zero,Option.some.injEq] at h;subst h;rw [Nat.zero_mul,List.drop_zero,cellsC,List.take_append_of_le_length (by rw [ndc_len];omega),List.take_of_length_le (by rw [ndc_len];omega)]
 |m::l,i+1,n,h=>by
  rw [cellsC,show (i+1)*18=18+i*18 by omega,<-List.drop_drop];rw [show (m.cs++cellsC l).drop 18=cellsC l by rw [List.drop_append_of_le_length (by rw [ndc_len];omega),List.drop_of_length_le (by rw [ndc_len];omega)];rfl];exact cellsC_drop l i n (by simpa using h)
theorem list_get{N:Nd}{H:LHeap}{a:Option LAddr}{q:Cap}(hr:RowAt H 72 18 a (preT N).length q (cellsC (preT N))){i:Nat}{E:Nd}(hE:(subT N)[i]? =some E):
  a.isSome=true/\(adr a).id<H.next/\loadT cfg.P H 72 ⟨(adr a).id,(adr a).ver,(adr a).off+i*18⟩=some E.root.lv:=by
 have hp:(preT N)[i]? =some E.root:=by rw [<-subT_pre,List.getElem?_map,hE];rfl
 have hi:i<(preT N).length:=(List.getElem?_eq_some_iff.1 hp).1;obtain ⟨g1,g2,g3⟩:=hr.load hi;rw [cellsC_drop _ _ _ hp] at g3;exact ⟨g1,g2,load_agg (by kernel_rfl) (by kernel_rfl) g3⟩
def spoilN:NdC:=⟨-3,[],0,0,[],[],[],0,0,false,false,[],[],0,0,false,false,none,0,.exact 0⟩
theorem loop8i(J:Option Code->LHeap->Prop)(ll:Nat)(X:List Nat)(H0 Hc:LHeap)(i2:Nat)(x3:NdC)(i4:Nat)(b5:Bool)(i6:Nat)(a7:Option LAddr)(l8:Nat)(c9:Cap)(i10:Nat)(n11:Int)(i12:Nat)(n13:Int)(i14:Nat)(M:Nd)(hb:M.root.argsL<=1000000000)
  (hok:0<M.root.argsL->okId X H0 [⟨i2,x3.cs,72⟩,⟨i4,[.bool b5],4⟩,⟨i6,[.slice a7 l8 c9],70⟩,⟨i10,[.int .i64 n11],3⟩,⟨i12,[.int .i64 n13],3⟩,⟨i14,M.root.cs,72⟩] (adr M.root.argsA).id)
  (hfin:∀H H19,PresX (rowId M) Hc H->PresX [i12] H H19->Inv X H0 [⟨i2,x3.cs,72⟩,⟨i4,[.bool b5],4⟩,⟨i6,[.slice a7 l8 c9],70⟩,⟨i10,[.int .i64 n11],3⟩,⟨i12,[.int .i64 (lwrap .i64 (n13+1))],3⟩,⟨i14,M.root.cs,72⟩] H19->
    ((n11==(0:Int))=true->(lwrap .i64 (n13+1)==(2:Int))=true->J (some (.exit 2)) H19)/\((n11==(0:Int))=true->(lwrap .i64 (n13+1)==(2:Int))=false->J none H19)/\((n11==(0:Int))=false->J none H19)):
  ∀(k n0:Nat) (d:Nat->LV) (H:LHeap),n0+k=M.root.argsL->PresX (rowId M) Hc H->(0<M.root.argsL->∃cs,RowAt H 72 18 M.root.argsA M.root.argsL (.free 18) cs)->
  GoesG cfg (gB 8 ll J) X H0 [⟨i2,x3.cs,72⟩,⟨i4,[.bool b5],4⟩,⟨i6,[.slice a7 l8 c9],70⟩,⟨i10,[.int .i64 n11],3⟩,⟨i12,[.int .i64 n13],3⟩,⟨i14,M.root.cs,72⟩] (L8t_1 d (n0:Int) (M.root.argsL:Int)) (loopIn cfg 8 0 0) H
 |0,n0,d,H,hk,hp,hr=>by
  refine g8t_1 J ll X H0 d n0 M.root.argsL i2 x3 i4 b5 i6 a7 l8 c9 i10 n11 i12 n13 i14 M.root H ⟨fun h=>absurd h (by simp;omega),fun _ H19 p19=>⟨fun h0=>⟨fun h2 hI=> ?_,fun h2 hI=> ?_⟩,fun h0 hI=> ?_⟩⟩
  ·exact (hfin H H19 hp p19 hI).1 h0 h2
  ·exact (hfin H H19 hp p19 hI).2.1 h0 h2
  ·exact (hfin H H19 hp p19 hI).2.2 h0
 |k+1,n0,d,H,hk,hp,hr=>by
  have h0:0<M.root.argsL:=by omega
  obtain ⟨cs,hr⟩:=hr h0;have hl:=hr.len;obtain ⟨g1,g2,_⟩:=hr.load (i:=n0) (by omega);have hcs:cs=cs.take (n0*18)++((cs.drop (n0*18)).take 18++(cs.drop (n0*18)).drop 18):=by rw [List.take_append_drop,List.take_append_drop]
  rw [hcs] at hr;have hle:n0*18+18<=cs.length:=by rw [hl];omega
  obtain ⟨H17,k1,k2,k3⟩:=node_store hr (i:=n0) (by rw [List.length_take];omega) (by rw [List.length_take,List.length_drop];omega) spoilN;have hrow:rowId M=[(adr M.root.argsA).id]:=by unfold rowId;rw [if_pos h0]
  refine g8t_1 J ll X H0 d n0 M.root.argsL i2 x3 i4 b5 i6 a7 l8 c9 i10 n11 i12 n13 i14 M.root H ⟨fun _=>⟨⟨by omega,by omega,g1⟩,fun hI=>⟨H17,⟨?_,hok h0⟩,fun d18=> ?_⟩⟩,fun h=>absurd h (by simp;omega)⟩
  ·rw [Int.toNat_natCast];exact k1
  ·rw [show lwrap .i64 ((n0:Int)+1)=((n0+1:Nat):Int) by rw [lwrap_small (by omega) (by omega)];omega];exact loop8i J ll X H0 Hc i2 x3 i4 b5 i6 a7 l8 c9 i10 n11 i12 n13 i14 M hb hok hfin k (n0+1) d18 H17 (by omega) (hp.trans (by rw [hrow];exact k3) (fun j hj=>.inl hj)) (fun _=>⟨_,k2⟩)
theorem rg52:rgFv cfg 52 0=some (.tmp 5,#[6]):=by kernel_rfl
theorem loopOf_eqF{H:LHeap}{l:Nat}{r:LLoop}(h:H.get l=some (.loop r)):loopOf H l=some r:=by unfold loopOf;rw [h]
def kn52(N:Nd)(i1 i3:Nat)(k:Int):List Slot:=[⟨i1,N.root.cs,72⟩,⟨i3,[.int .i64 k],3⟩]
section
variable (N:Nd) (i1 i3:Nat) (y:LAddr) (d:Nat->LV) (a b:Code) (H20:LHeap)
abbrev tm52:List SV:=P52t_0 d N.root 0 N.root y
abbrev r52:LLoop:=loop0 52 ((tm52 N y d).map (denF (kn52 N i1 i3 0))) #[6] a b H20.next
abbrev Hl52:LHeap:=(H20.push (.deferred (some []))).push (.loop (r52 N i1 i3 y d a b H20))
abbrev Y52:List Nat:=[H20.next+1,i3]
def J52(rest:List NdC)(K:LHeap):Prop:=
 PresX (Y52 i3 H20) (Hl52 N i1 i3 y d a b H20) K/\K.get (H20.next+1)=some (.loop (r52 N i1 i3 y d a b H20))/\∃k:Nat,K.get i3=some (Slot.obj ⟨i3,[.int .i64 (k:Int)],3⟩)/\k+rest.length=(preT N).length
theorem inv52{N i1 i3 y d a b H20}{H:LHeap}(hI:Inv [] H (kn52 N i1 i3 0) H20){K:LHeap}{v:Int}(hp:PresX (Y52 i3 H20) (Hl52 N i1 i3 y d a b H20) K)(hg:K.get i3=some (Slot.obj ⟨i3,[.int .i64 v],3⟩)):Inv [] H (kn52 N i1 i3 v) K:=by
 have p1:PresX [i3] H20 K:=by
  refine PresX.trans (X:=[i3]) ((PresX.push [i3] H20 (.deferred (some []))).trans (PresX.push [] _ (.loop (r52 N i1 i3 y d a b H20))) (fun i hi=>by cases hi)) hp fun i hi=> ?_;simp only [List.mem_cons,List.not_mem_nil,or_false] at hi |-;rcases hi with rfl |rfl
  ·right;omega
  ·left;rfl
 exact hI.callO (k:=1) (s:=⟨i3,[.int .i64 0],3⟩) rfl p1 hg
theorem walks52{N i1 i3 y d a b H20}{H:LHeap}(hI:Inv [] H (kn52 N i1 i3 0) H20)(hsz:(preT N).length<=1000000)
  (hround:roundAt cfg 52 0=[.code a,.beginRound,.code b]) (hbegin:beginAt cfg 52 0=[.beginRound,.code b]) (hbody:bodyAt cfg 52 0=[.code b]):
  Walks (H20.next+1) (Y52 i3 H20) (J52 N i1 i3 y d a b H20) (fun _=>False) where
 on:=by
  rintro rest K K' ⟨h1,h2,k,h3,h4⟩ hp;have hl:H20.next+1<K.next:=h1.next;have hi:i3<H20.next:=(hI.slot 1 _ rfl).1;refine ⟨h1.trans0 hp,?_,k,?_,h4⟩
  ·rw [(hp.keep _ hl (by simp)).get];exact h2
  ·rw [(hp.keep _ (by omega) (by simp)).get];exact h3
 low:=by
  rintro rest K ⟨h1,_⟩ j hj;have hl:H20.next+1<K.next:=h1.next;have hi:i3<H20.next:=(hI.slot 1 _ rfl).1;simp only [Y52,List.mem_cons,List.not_mem_nil,or_false] at hj;omega
 yld:=by
  rintro x rest K ⟨h1,h2,k,h3,h4⟩;have hl:H20.next+1<K.next:=h1.next;have hi:i3<H20.next:=(hI.slot 1 _ rfl).1;have hne:H20.next+1≠i3:=by omega
  have hIK:=inv52 hI h1 h3;rw [List.length_cons] at h4
  let Jr:Option Code->LHeap->Prop:=fun j K'=>j=none/\K'.get (H20.next+1)=some (.loop { r52 N i1 i3 y d a b H20 with state:=.busy })/\PresX (Y52 i3 H20) K K'/\K'.get i3=some (Slot.obj ⟨i3,[.int .i64 ((k+1:Nat):Int)],3⟩)
  refine yield_of (r:=r52 N i1 i3 y d a b H20) (kn:=kn52 N i1 i3 k) (tmps:=setNth (tm52 N y d) 6 (.lv x.lv)) (J:=Jr) (X:=[]) (H0:=H) h2 rfl rfl
   (fun x' hx'=>List.all_eq_true.1 (show List.all (setNth (tm52 N y d) 6 (.lv x.lv)) (inR 2)=true from rfl) x' hx') hIK ?g ?j
  case g=>
   show GoesG cfg (gB 52 (H20.next+1) Jr) [] H (kn52 N i1 i3 k) (setNth (tm52 N y d) 6 (.lv x.lv)) [.code a,.beginRound,.code b] K;rw [<-hround];refine b52t_0 Jr (H20.next+1) [] H d N.root 0 N.root y x i1 N.root i3 k K fun d17=> ?_;rw [hbegin];refine begin_goes (r:=r52 N i1 i3 y d a b H20) h2 rfl ?_;rw [<-hbody];intro hin hI';have pb:PresX [H20.next+1] K (K.put (H20.next+1) (.loop { r52 N i1 i3 y d a b H20 with state:=.busy })):=.put _ _ _;have gb:(K.put (H20.next+1) (.loop { r52 N i1 i3 y d a b H20 with state:=.busy })).get (H20.next+1)=some (.loop { r52 N i1 i3 y d a b H20 with state:=.busy }):=by rw [LHeap.get_put,if_pos rfl]
   have hlb:H20.next+1<(K.put (H20.next+1) (.loop { r52 N i1 i3 y d a b H20 with state:=.busy })).next:=Nat.lt_of_lt_of_le hl pb.next;refine c52t_0 Jr (H20.next+1) _ _ d17 N.root 0 N.root y i1 N.root i3 k _ (fun H8 p8 hI8=>⟨rfl,?_,?_,?_⟩) hin hI'
   ·rw [(p8.keep _ hlb (by simpa using hne)).get];exact gb
   ·exact (pb.mono (Y:=Y52 i3 H20) (fun i hi=>by simp at hi;simp [hi])).trans p8 (fun i hi=>.inl (by simp at hi;simp [hi]))
   ·have:=(hI8.slot 1 _ rfl).2.1;rw [lwrap_small (by omega) (by omega)] at this;simpa using this
  case j=>
   rintro j K' ⟨rfl,g1,pK,g3⟩;refine ⟨_,loopOf_eqF g1,?_⟩;have pK':PresX (Y52 i3 H20) K (K'.put (H20.next+1) (.loop (r52 N i1 i3 y d a b H20))):=pK.trans (.put _ _ _) (fun i hi=>.inl (by simp at hi;simp [hi]));refine ⟨pK',true,rfl,fun _=>⟨h1.trans pK' (fun i hi=>.inl hi),?_,k+1,?_,by omega⟩,fun e=>by cases e⟩
   ·exact (LHeap.get_put _ _ _ _).trans (if_pos rfl)
   ·exact ((LHeap.get_put _ _ _ _).trans (if_neg (fun e=>hne e.symm))).trans g3
end
theorem s52(N:Nd)(H:LHeap)(hN:NdAt H N)(hE:NdE H (fun _=>True) N)(hsz:(preT N).length<=1000000):CallL cfg 52 [N.root.lv] H (Ret (.int .i64 ((preT N).length:Int)) H):=by
 obtain ⟨a,b,hr,hround,hbegin,hbody⟩:=rg_parts rg52;refine e52t _ N.root H fun i1 H2 h1 p2 i3 H4 h3 p4 H5 p5 hI5=>⟨_,s45 N H5 (hN.on hI5.pres) (hE.on hI5.pres) (ndSm N H hN hsz),fun v H' ⟨g1,pp,M,e,_⟩=>⟨g1,pp,e⟩,fun y7 H20 ⟨p20,pp,M,e45,hpl,hpn,ld,cM,aM,dM⟩ d9=> ?_⟩;obtain rfl:pp=y7:=by
  simp only [LV.func.injEq,List.cons.injEq,LV.ptr.injEq,Option.some.injEq,true_and,and_true] at e45;exact e45.symm
 have h3':i3<H5.next:=(hI5.slot 1 _ rfl).1;have hn:=p20.next;rw [hr];intro hin hI20;have hI20':Inv [] H (kn52 N i1 i3 0) H20:=hI20;refine range_goes (C:=cfg) (f:=52) (kn:=kn52 N i1 i3 0) (tmps:=tm52 N pp d9) (gfn:=107) (first:=[]) (cap:=[.ptr (some pp)]) rfl (by kernel_rfl) (by kernel_rfl) (fun _=>⟨_,s107 (walks52 (y:=pp) (d:=d9) hI20' hsz hround hbegin hbody) M pp _ ?ld ?nd ?ne ?sz ?j,fun v H3 ⟨p3,hJ⟩=> ?after⟩) hin hI20
 case ld=>refine PresX.load0 ((PresX.push [] H20 _).trans0 (PresX.push [] _ _)) hpn ld
 case nd=>exact aM.on ((PresX.push [] H20 _).trans0 (PresX.push [] _ _))
 case ne=>
  refine NdE.onY ((PresX.push [] H20 _).trans0 (PresX.push [] _ _)) (fun j hj hl=>⟨by simp,?_⟩) dM;simp only [Y52,List.mem_cons,List.not_mem_nil,or_false];omega
 case sz=>rw [cM.bareT,bareT_len];exact hsz
 case j=>
  have pp2:PresX [] H20 (Hl52 N i1 i3 pp d9 a b H20):=(PresX.push [] H20 _).trans0 (PresX.push [] _ _);refine ⟨.refl _ _,(LHeap.get_push _ _ _).trans (if_pos rfl),0,?_,?_⟩
  ·rw [(pp2.keep i3 (by omega) (by simp)).get];exact (hI20'.slot 1 _ rfl).2.1
  ·rw [cM.bareT,bareT_len];omega
 case after=>
  have hH:H.next<=H20.next:=hI20'.pres.next;rcases hJ with ⟨h1,h2,k,h3,h4⟩ |h
  ·have hk:k=(preT N).length:=by simpa using h4
   subst hk;have p':PresX (Y52 i3 H20) (Hl52 N i1 i3 pp d9 a b H20) (H3.put (H20.next+1) (.loop { r52 N i1 i3 pp d9 a b H20 with state:=.exhausted })):=h1.trans (.put _ _ _) (fun i hi=>.inl (by simp at hi;simp [hi]));refine ⟨_,kn52 N i1 i3 (preT N).length,loopOf_eqF h2,(fun e=>by cases e),rfl,?_,inv52 hI20' p' ?_,?_⟩
   ·exact List.map_inj_left.1 (show (tm52 N pp d9).map (denF (kn52 N i1 i3 (preT N).length))=(tm52 N pp d9).map (denF (kn52 N i1 i3 0)) from rfl)
   ·rw [LHeap.get_put,if_neg (by omega)];exact h3
   ·refine a52t_0 _ H20.next [] H d9 N.root 0 N.root pp i1 N.root i3 (preT N).length _ fun hI32=>⟨?_,rfl,hI32.pres.trans (.put _ _ _) (fun i hi=>.inr (by rw [List.mem_singleton.1 hi];exact hH))⟩;have hlt:H20.next<(Hl52 N i1 i3 pp d9 a b H20).next:=by show H20.next<H20.next+1+1;omega
    rw [LHeap.get_put,if_neg (by omega),(h1.keep _ hlt (by simp;omega)).get,LHeap.get_push,if_neg (by show ¬H20.next=H20.next+1;omega),LHeap.get_push,if_pos rfl]
  ·exact h.elim
theorem loop10(N:Nd)(H0:LHeap)(i7:Nat)(hN:NdAt H0 N)(hE:NdE H0 (fun _=>True) N)(hsz:(preT N).length<=1000000)(a:Option LAddr)(q:Cap)(k:Nat)(hk:k<=1000000000):∀(l:List Nd) (acc:Nat) (i:Nat),i+l.length=k->NdsAt H0 l a i->NdsE H0 (fun _=>True) l->(∀n∈l,NdStr n)->(∀n∈l,NdSm n)->(deepF N 24=true->∀n∈l,deepF n 24=true)->acc+(preTs l).length=(preT N).length->∀(d:Nat->LV) (H:LHeap),
  GoesT cfg 10 (Ret (.bool true) H0) [] H0 [⟨i7,N.root.cs,72⟩] (L10t_0 d (i:Int) (acc:Int) (deepF N 24) a k q (k:Int)) (loopAt cfg 10 0) H
 |[],acc,i,hi,hA,hEs,hT,hS,hD,hacc,d,H=>by
  intro hin hI;refine g10t_0 _ H0 d i acc (deepF N 24) a k q k i7 N.root H ⟨fun h=> ?_,fun h hI=>⟨_,s52 N H (hN.on hI.pres) (hE.on hI.pres) hsz,Ret.use ⟨_,rfl⟩,fun n27 H28 ⟨e,_⟩=>⟨fun _ hI=>.mk hI.pres,fun h=> ?_⟩⟩⟩ hin hI
  ·simp at h hi;omega
  ·cases e;have:acc=(preT N).length:=by simpa [preTs] using hacc
   rw [this] at h;simp at h
 |n::l,acc,i,hi,hA,hEs,hT,hS,hD,hacc,d,H=>by
  intro hin hI;rw [List.length_cons] at hi;rw [preTs,List.length_append] at hacc;unfold NdsAt at hA;unfold NdsE at hEs;obtain ⟨⟨n1,n2,n3⟩,n4,n5⟩:=hA;have hk':lwrap .i64 ((i:Int)+1)=((i+1:Nat):Int):=by rw [lwrap_small (by omega) (by omega)];simp
  have ha':lwrap .i64 ((acc:Int)+((preT n).length:Int))=((acc+(preT n).length:Nat):Int):=by rw [lwrap_small (by omega) (by omega)];simp
  have next:=fun (d':Nat->LV) (H':LHeap)=>loop10 N H0 i7 hN hE hsz a q k hk l (acc+(preT n).length) (i+1) (by omega) n5 hEs.2 (fun m hm=>hT m (List.mem_cons_of_mem _ hm)) (fun m hm=>hS m (List.mem_cons_of_mem _ hm)) (fun h m hm=>hD h m (List.mem_cons_of_mem _ hm)) (by omega) d' H'
  have size:=fun (H':LHeap) (p:PresX [] H0 H')=>s52 n H' (n4.on p) (hEs.1.on p) (by omega);refine g10t_0 _ H0 d i acc (deepF N 24) a k q k i7 N.root H ⟨fun h=>⟨⟨by omega,by omega,n1⟩,fun hI=>⟨n.root,?ld,fun i12 H13 _ _ H14 _=>⟨fun hg hI14=>⟨_,s46 n H14 (hT n List.mem_cons_self) (hS n List.mem_cons_self) (n4.on hI14.pres),Ret.use ⟨_,rfl⟩,fun b16 H17 ⟨e,_⟩=>⟨fun hb=> ?no,fun _ hI17=>⟨_,size H17 hI17.pres,Ret.use ⟨_,rfl⟩,fun n19 H20 ⟨e2,_⟩ d21=> ?g1⟩⟩⟩,fun hg hI14=>⟨_,size H14 hI14.pres,Ret.use ⟨_,rfl⟩,fun n23 H24 ⟨e2,_⟩ d25=> ?g2⟩⟩⟩⟩,fun h=> ?ge⟩ hin hI
  case ge=>simp at h;omega
  case ld=>
   simp only [Int.toNat_natCast];exact hI.pres.load0 (a:=⟨(adr a).id,(adr a).ver,(adr a).off+i*18⟩) n2 n3
  case no=>
   cases e;rw [hD hg n List.mem_cons_self] at hb;cases hb
  case g1=>cases e2;rw [hk',ha'];exact next d21 H20
  case g2=>cases e2;rw [hk',ha'];exact next d25 H24
theorem s10(N:Nd)(H:LHeap)(hN:NdAt H N)(hE:NdE H (fun _=>True) N)(hT:NdStr N):CallL cfg 10 [N.root.lv] H (Ret (.bool true) H):=by
 match N,hN,hE,hT with
 | .mk x l,hN,hE,hT=>
  refine e10t _ x H fun i1 H2 h1 p2 hI2=>⟨_,s42 (.mk x l) H2 400 (by omega) (by omega) (hN.on hI2.pres),Ret.use ⟨_,rfl⟩,fun b4 H5 ⟨e4,_⟩=>⟨fun _ hI=>.mk hI.pres,fun hb=> ?_⟩⟩;have hleft:0<leftT (.mk x l) 400:=by
   cases e4;simpa using hb
  have hsz:(preT (.mk x l)).length<=1000000:=by
   have h1:=leftT_size (.mk x l) 400 hleft;omega
  have hS:=ndSm (.mk x l) H hN hsz;have hd:=depth_le (.mk x l);refine ⟨rfl,fun hI5=>⟨_,s50 (.mk x l) H5 hS (hN.on hI5.pres) hsz,Ret.use ⟨_,rfl⟩,fun n8 H9 ⟨e8,_⟩=>⟨rfl,fun hI9=>⟨_,s52 (.mk x l) H9 (hN.on hI9.pres) (hE.on hI9.pres) hsz,Ret.use ⟨_,rfl⟩,fun n12 H13 ⟨e12,_⟩=>⟨fun h=> ?bad1,fun _=>⟨rfl,fun hI13=>⟨_,s50 (.mk x l) H13 hS (hN.on hI13.pres) hsz,Ret.use ⟨_,rfl⟩,fun n18 H19 ⟨e18,_⟩=>⟨fun h=> ?bad2,fun _ hI19=>⟨_,s46 (.mk x l) H19 hT hS (hN.on hI19.pres),Ret.use ⟨_,rfl⟩,fun b22 H23 ⟨e22,_⟩ d24=> ?go⟩⟩⟩⟩⟩⟩⟩⟩⟩
  case bad1=>cases e8;cases e12;simp at h;omega
  case bad2=>cases e18;simp at h;omega
  case go=>
   cases e22;have hN':=hN;unfold NdAt at hN';have hE':=hE;unfold NdE at hE';have hT':=hT;unfold NdStr at hT';unfold NdSm at hS;refine loop10 (.mk x l) H i1 hN hE hsz x.argsA x.argsQ x.argsL hS.1 l 1 0 (by have:=hN'.1;omega) hN'.2.2 hE'.2 hT'.2.mem hS.2.mem (fun h n hn=> ?_) (by rw [preT,List.length_cons];omega) d24 H23;unfold deepF at h;rw [if_neg (by omega)] at h;simp only [Bool.and_eq_true] at h;exact deepF_mono n 23 24 (by omega) (deepFs_mem h.2 n hn)
mutual
theorem subT_sub:∀{N:Nd},∀n∈subT N,(subT n).length<=(subT N).length
 | .mk x l,n,hn=>by
  rw [subT_mk] at hn;rcases List.mem_cons.1 hn with rfl |hn
  ·exact Nat.le_refl _
  ·rw [subT_mk x l,List.length_cons];have:=subTs_sub n hn;omega
theorem subTs_sub:∀{l:List Nd},∀n∈subTs l,(subT n).length<=(subTs l).length
 |[],n,hn=>by rw [subTs] at hn;cases hn
 |m::l,n,hn=>by
  rw [subTs_cons] at hn;rw [subTs_cons,List.length_append];rcases List.mem_append.1 hn with hn |hn
  ·have:=subT_sub n hn;omega
  ·have:=subTs_sub n hn;omega
end
theorem argsL_le{H:LHeap}{M:Nd}(hN:NdAt H M):M.root.argsL<=(subT M).length:=by
 match M,hN with
 | .mk x l,hN=>
  unfold NdAt at hN;have:=subTs_len l;rw [subT_mk,List.length_cons];show x.argsL<=_;have:=hN.1;omega
theorem rg8:rgFv cfg 8 0=some (.tmp 50,#[51]):=by kernel_rfl
section
variable (N M0:Nd) (i1 i3 i5 i9 i11:Nat) (a:Option LAddr) (l:Nat) (q:Cap) (n:Int) (f:LAddr) (d:Nat->LV) (ca cb:Code) (H H20:LHeap)
def kn8(idx:Int):List Slot:=[⟨i1,N.root.cs,72⟩,⟨i3,[.bool false],4⟩,⟨i5,[.slice a l q],70⟩,⟨i9,[.int .i64 n],3⟩,⟨i11,[.int .i64 idx],3⟩]
abbrev tm8:List SV:=P8t_0 d f n true f
abbrev r8:LLoop:=loop0 8 ((tm8 n f d).map (denF (kn8 N i1 i3 i5 i9 i11 a l q n 0))) #[51] ca cb H20.next
abbrev Hl8:LHeap:=(H20.push (.deferred (some []))).push (.loop (r8 N i1 i3 i5 i9 i11 a l q n f d ca cb H20))
abbrev Y8:List Nat:=[H20.next+1,i11]
def J8(rest:List Nd)(K:LHeap):Prop:=
 PresX (Y8 i11 H20) (Hl8 N i1 i3 i5 i9 i11 a l q n f d ca cb H20) K/\K.get (H20.next+1)=some (.loop (r8 N i1 i3 i5 i9 i11 a l q n f d ca cb H20))/\
  ∃A,A++rest=subT M0/\K.get i11=some (Slot.obj ⟨i11,[.int .i64 (A.length:Int)],3⟩)/\(n=0->A.length<2)
def St8(K:LHeap):Prop:=
 PresX (Y8 i11 H20) (Hl8 N i1 i3 i5 i9 i11 a l q n f d ca cb H20) K/\K.get (H20.next+1)=some (.loop { r8 N i1 i3 i5 i9 i11 a l q n f d ca cb H20 with state:=.done,pending:=some (.exit 2) })/\K.get i11=some (Slot.obj ⟨i11,[.int .i64 2],3⟩)/\n=0
theorem inv8{N i1 i3 i5 i9 i11 a l q n f d ca cb H H20}(hI:Inv [] H (kn8 N i1 i3 i5 i9 i11 a l q n 0) H20){K:LHeap}{idx:Int}(hp:PresX (Y8 i11 H20) (Hl8 N i1 i3 i5 i9 i11 a l q n f d ca cb H20) K)(hg:K.get i11=some (Slot.obj ⟨i11,[.int .i64 idx],3⟩)):
  Inv [] H (kn8 N i1 i3 i5 i9 i11 a l q n idx) K:=by
 have p1:PresX [i11] H20 K:=by
  refine PresX.trans (X:=[i11]) ((PresX.push [i11] H20 (.deferred (some []))).trans (PresX.push [] _ (.loop (r8 N i1 i3 i5 i9 i11 a l q n f d ca cb H20))) (fun i hi=>by cases hi)) hp fun i hi=> ?_;simp only [List.mem_cons,List.not_mem_nil,or_false] at hi |-;rcases hi with rfl |rfl
  ·right;omega
  ·left;rfl
 exact hI.callO (k:=4) (s:=⟨i11,[.int .i64 0],3⟩) rfl p1 hg
theorem walks8{N M0 i1 i3 i5 i9 i11 a l q n f d ca cb H H20}(hI:Inv [] H (kn8 N i1 i3 i5 i9 i11 a l q n 0) H20)(hcp:Cp N M0)(hN:NdAt H20 N)(hNB:NdIds (·<i11) N)(hl:l=(preT N).length)(hL:RowAt H20 72 18 a (preT N).length q (cellsC (preT N)))(hLB:∀ad,a=some ad->ad.id<i11)(hsz:(preT N).length<=400)
  (hround:roundAt cfg 8 0=[.code ca,.beginRound,.code cb]) (hbegin:beginAt cfg 8 0=[.beginRound,.code cb]) (hbody:bodyAt cfg 8 0=[.code cb]):
  WalksT (H20.next+1) (Y8 i11 H20) (J8 N M0 i1 i3 i5 i9 i11 a l q n f d ca cb H20) (St8 N i1 i3 i5 i9 i11 a l q n f d ca cb H20) where
 on:=by
  rintro rest K K' ⟨h1,h2,A,h3,h4,h5⟩ hp;have hll:H20.next+1<K.next:=h1.next;have hi:i11<H20.next:=(hI.slot 4 _ rfl).1;refine ⟨h1.trans0 hp,?_,A,h3,?_,h5⟩
  ·rw [(hp.keep _ hll (by simp)).get];exact h2
  ·rw [(hp.keep _ (by omega) (by simp)).get];exact h4
 low:=by
  rintro rest K ⟨h1,_⟩ j hj;have hll:H20.next+1<K.next:=h1.next;have hi:i11<H20.next:=(hI.slot 4 _ rfl).1;simp only [Y8,List.mem_cons,List.not_mem_nil,or_false] at hj;omega
 yld:=by
  rintro M M' rest K B ⟨h1,h2,A,h3,h4,h5⟩ cM aM dM rM hyB hBK;have hll:H20.next+1<K.next:=h1.next;have hi:i11<H20.next:=(hI.slot 4 _ rfl).1;have e1:i1<H20.next:=(hI.slot 0 _ rfl).1;have e3:i3<H20.next:=(hI.slot 1 _ rfl).1;have e5:i5<H20.next:=(hI.slot 2 _ rfl).1;have e9:i9<H20.next:=(hI.slot 3 _ rfl).1;have hB1:H20.next+1<B:=hyB _ (by simp);have hIK:=inv8 hI h1 h4;have hM:(subT M0)[A.length]? =some M:=by rw [<-h3];simp
  obtain ⟨E,hE,cE⟩:=(cp_subs hcp).get hM;have hEm:E∈subT N:=List.mem_of_getElem? hE;have hAl:A.length<(preT N).length:=by rw [<-subT_len];exact (List.getElem?_eq_some_iff.1 hE).1
  have outY:∀j,j<i11->j∉Y8 i11 H20:=fun j hj hm=>by
   simp only [Y8,List.mem_cons,List.not_mem_nil,or_false] at hm;omega
  have p20:PresX [] H20 (Hl8 N i1 i3 i5 i9 i11 a l q n f d ca cb H20):=(PresX.push [] H20 _).trans0 (PresX.push [] _ _);have hNK:NdAt K N:=NdAt.onY h1 (NdIds.mono outY hNB) (hN.on p20);have hEK:=sub_at hNK E hEm;have hLid:∀ad,a=some ad->ad.id<H20.next:=fun ad e=>by subst e;exact hL.id
  have hLl:RowAt (Hl8 N i1 i3 i5 i9 i11 a l q n f d ca cb H20) 72 18 a (preT N).length q (cellsC (preT N)):=hL.on p20.next (fun ad e=>p20.keep _ (hLid ad e) (by simp)) (fun ad e _=>(p20.keep _ (hLid ad e) (by simp)).get);have hLK:RowAt K 72 18 a (preT N).length q (cellsC (preT N)):=hLl.on h1.next (fun ad e=>h1.keep _ (Nat.lt_of_lt_of_le (hLid ad e) p20.next) (outY _ (hLB ad e))) (fun ad e _=>(h1.keep _ (Nat.lt_of_lt_of_le (hLid ad e) p20.next) (outY _ (hLB ad e))).get);obtain ⟨g1,g2,g3⟩:=list_get hLK hE;have hge:=rowId_ge dM aM
  let Jr:Option Code->LHeap->Prop:=fun j K'=>K'.get (H20.next+1)=some (.loop { r8 N i1 i3 i5 i9 i11 a l q n f d ca cb H20 with state:=.busy })/\PresX (Y8 i11 H20++rowId M') K K'/\K'.get i11=some (Slot.obj ⟨i11,[.int .i64 ((A.length+1:Nat):Int)],3⟩)/\
   ((j=none/\(n=0->A.length+1<2))\/(j=some (.exit 2)/\n=0/\A.length+1=2))
  refine yield_of (r:=r8 N i1 i3 i5 i9 i11 a l q n f d ca cb H20) (kn:=kn8 N i1 i3 i5 i9 i11 a l q n (A.length:Int)) (tmps:=setNth (tm8 n f d) 51 (.lv M'.root.lv)) (J:=Jr) (X:=[]) (H0:=H) h2 rfl rfl
   (fun x' hx'=>List.all_eq_true.1 (show List.all (setNth (tm8 n f d) 51 (.lv M'.root.lv)) (inR 5)=true from rfl) x' hx') hIK ?g ?j
  case g=>
   show GoesG cfg (gB 8 (H20.next+1) Jr) [] H (kn8 N i1 i3 i5 i9 i11 a l q n (A.length:Int)) (setNth (tm8 n f d) 51 (.lv M'.root.lv)) [.code ca,.beginRound,.code cb] K;rw [<-hround];refine b8t_0 Jr (H20.next+1) [] H d f n true f M'.root i1 N.root i3 false i5 a l q i9 n i11 (A.length:Int) K fun i52 H53 h52 p53 H54 p54 d55=> ?_;have p54':PresX [] K H54:=p53.trans p54 (fun j hj=>.inr (by rw [List.mem_singleton.1 hj];exact h52));have g54:H54.get (H20.next+1)=some (.loop (r8 N i1 i3 i5 i9 i11 a l q n f d ca cb H20)):=by rw [(p54'.keep _ hll (by simp)).get];exact h2
   rw [hbegin];refine begin_goesX (r:=r8 N i1 i3 i5 i9 i11 a l q n f d ca cb H20) (X':=[i1,i3,i5,i9,i11,i52]++rowId M') g54 rfl (fun j hj=>List.mem_append_left _ hj) ?_;rw [<-hbody];have pb0:PresX [H20.next+1] H54 (H54.put (H20.next+1) (.loop { r8 N i1 i3 i5 i9 i11 a l q n f d ca cb H20 with state:=.busy })):=.put _ _ _;have gb:(H54.put (H20.next+1) (.loop { r8 N i1 i3 i5 i9 i11 a l q n f d ca cb H20 with state:=.busy })).get (H20.next+1)=some (.loop { r8 N i1 i3 i5 i9 i11 a l q n f d ca cb H20 with state:=.busy }):=by rw [LHeap.get_put,if_pos rfl]
   generalize H54.put (H20.next+1) (.loop { r8 N i1 i3 i5 i9 i11 a l q n f d ca cb H20 with state:=.busy })=Hb at pb0 gb;have pb:PresX [H20.next+1] K Hb:=(p54'.mono (Y:=[H20.next+1]) (fun i hi=>by cases hi)).trans pb0 (fun j hj=>.inl hj);have outb:∀j,j<i11->j∉[H20.next+1]:=fun j hj hm=>by
    rw [List.mem_singleton.1 hm] at hj;omega
   have hNb:NdAt Hb N:=NdAt.onY pb (NdIds.mono outb hNB) hNK;have hLb:RowAt Hb 72 18 a (preT N).length q (cellsC (preT N)):=hLK.on pb.next (fun ad e=>pb.keep _ (Nat.lt_of_lt_of_le (Nat.lt_of_lt_of_le (hLid ad e) p20.next) h1.next) (outb _ (hLB ad e))) (fun ad e _=>(pb.keep _ (Nat.lt_of_lt_of_le (Nat.lt_of_lt_of_le (hLid ad e) p20.next) h1.next) (outb _ (hLB ad e))).get);obtain ⟨g1,g2,g3⟩:=list_get hLb hE;have outM:∀j,B<=j->j∉[H20.next+1]:=fun j hj hm=>by
    rw [List.mem_singleton.1 hm] at hj;omega
   have aMb:NdAt Hb M':=NdAt.onY pb (ndE_ids (P:=fun j=>j∉[H20.next+1]) (NdE.mono (fun j hj _=>outM j hj) dM) aM) aM;have hrowlt:∀j∈rowId M',j<K.next:=fun j hj=>by
    unfold rowId at hj;split at hj
    ·rename_i h0;rw [List.mem_singleton.1 hj];obtain ⟨cs,hr⟩:=rM h0;exact (hr.load (i:=0) h0).2.1
    ·cases hj
   have hnx:K.next<=Hb.next:=pb.next;have hlb:H20.next+1<Hb.next:=by omega
   have hm1:M'.root.argsL<=1000000000:=by
    have e1:=argsL_le aM;have e2:(subT M').length=(subT M).length:=by rw [subT_len,subT_len,<-bareT_len M',cM.bareT,bareT_len]
    have e3:=subT_sub M (List.mem_of_getElem? hM);have e4:(subT M0).length=(subT N).length:=by rw [subT_len,subT_len,<-bareT_len M0,hcp.bareT,bareT_len]
    have e5:=subT_len N;omega
   intro hin hI';have hsame:sameT M' E=true:=cp_same (cE.trans cM);refine c8t_0 Jr (H20.next+1) _ Hb d55 f n true f M'.root i1 N.root i3 false i5 a l q i9 n i11 (A.length:Int) i52 M'.root Hb ⟨fun h=>absurd h (by simp;omega),fun _=>⟨⟨by omega,by omega,g1⟩,fun _=>⟨E.root,?ld,fun _=>⟨?ld,rfl,fun _=>⟨_,s53 M' E Hb aMb (sub_at hNb E hEm),Ret.use ⟨_,rfl⟩,fun b27 H28 ⟨e28,p28⟩ hI28=>⟨fun hb=> ?bad,fun _ d31=> ?go⟩⟩⟩⟩⟩⟩ hin hI'
   case ld=>
    simp only [Int.toNat_natCast];exact g3
   case bad=>
    cases e28;rw [hsame] at hb;cases hb
   case go=>
    have rM28:0<M'.root.argsL->∃cs,RowAt H28 72 18 M'.root.argsA M'.root.argsL (.free 18) cs:=fun h0=>by
     obtain ⟨cs,hr⟩:=rM h0;have hid:∀ad,M'.root.argsA=some ad->B<=ad.id/\ad.id<K.next:=fun ad e=>by
      have hin:ad.id∈rowId M':=by unfold rowId;rw [if_pos h0,e];exact List.mem_singleton.2 rfl
      exact ⟨hge _ hin,hrowlt _ hin⟩
     refine ⟨cs,hr.on (Nat.le_trans hnx p28.next) (fun ad e=> ?_) (fun ad e _=> ?_)⟩
     ·have:=hid ad e;exact (pb.keep _ this.2 (outM _ this.1)).trans (p28.keep _ (Nat.lt_of_lt_of_le this.2 hnx) (by simp))
     ·have:=hid ad e;rw [(p28.keep _ (Nat.lt_of_lt_of_le this.2 hnx) (by simp)).get,(pb.keep _ this.2 (outM _ this.1)).get]
    refine loop8i Jr (H20.next+1) _ Hb H28 i1 N.root i3 false i5 a l q i9 n i11 (A.length:Int) i52 M' hm1 (fun h0=> ?ok) (fun H5 H6 p5 p6 hI6=> ?fin) M'.root.argsL 0 d31 H28 (by omega) (.refl _ _) rM28
    case ok=>
     have hin:(adr M'.root.argsA).id∈rowId M':=by unfold rowId;rw [if_pos h0];exact List.mem_singleton.2 rfl
     have e1:=hge _ hin;have e2:=hrowlt _ hin;refine ⟨.inl (List.mem_append_right _ hin),fun k s hs=> ?_⟩
     match k,hs with
     |0,hs=>cases hs;show i1≠_;omega
     |1,hs=>cases hs;show i3≠_;omega
     |2,hs=>cases hs;show i5≠_;omega
     |3,hs=>cases hs;show i9≠_;omega
     |4,hs=>cases hs;show i11≠_;omega
     |5,hs=>cases hs;show i52≠_;omega
     |m+6,hs=>simp [nth] at hs
    case fin=>
     have hlw:lwrap .i64 ((A.length:Int)+1)=((A.length+1:Nat):Int):=by rw [lwrap_small (by omega) (by omega)];simp
     rw [hlw] at hI6 |-;have hl28:H20.next+1<H28.next:=Nat.lt_of_lt_of_le hlb p28.next;have hl5:H20.next+1<H5.next:=Nat.lt_of_lt_of_le hl28 p5.next;have n1:H20.next+1∉rowId M':=fun hm=>by have:=hge _ hm;omega
     have n2:H20.next+1∉[i11]:=fun hm=>by have:=List.mem_singleton.1 hm;omega
     have gl:H6.get (H20.next+1)=some (.loop { r8 N i1 i3 i5 i9 i11 a l q n f d ca cb H20 with state:=.busy }):=by
      rw [(p6.keep _ hl5 n2).get,(p5.keep _ hl28 n1).get,(p28.keep _ hlb (by simp)).get];exact gb
     have pK:PresX (Y8 i11 H20++rowId M') K H6:=
      (((pb.mono (Y:=Y8 i11 H20++rowId M') (fun i hi=>by simp at hi;simp [hi])).trans p28 (fun i hi=>by cases hi)).trans p5 (fun i hi=>.inl (List.mem_append_right _ hi))).trans p6 (fun i hi=>.inl (by simp at hi;simp [hi]))
     have gi:H6.get i11=some (Slot.obj ⟨i11,[.int .i64 ((A.length+1:Nat):Int)],3⟩):=(hI6.slot 4 _ rfl).2.1;refine ⟨fun hn h2=>⟨gl,pK,gi,.inr ⟨rfl,by simpa using hn,?_⟩⟩,fun hn h2=>⟨gl,pK,gi,.inl ⟨rfl,fun _=> ?_⟩⟩,fun hn=>⟨gl,pK,gi,.inl ⟨rfl,fun h=> ?_⟩⟩⟩
     ·simp at h2;omega
     ·have hn0:n=0:=by simpa using hn
      have:=h5 hn0;have h2':¬(((A.length+1:Nat):Int)=2):=by simpa using h2
      omega
     ·rw [h] at hn;cases hn
  case j=>
   rintro j K' ⟨gl,pK,gi,hor⟩;refine ⟨_,loopOf_eqF gl,?_⟩;have hne:H20.next+1≠i11:=by omega
   have lift:∀{o},PresX (Y8 i11 H20) (Hl8 N i1 i3 i5 i9 i11 a l q n f d ca cb H20) (K'.put (H20.next+1) o):=fun {o}=>
    h1.trans (pK.trans (.put _ _ _) (Y:=[H20.next+1]) (fun i hi=>.inl (by simp at hi;simp [hi]))) (fun i hi=>by
     rcases List.mem_append.1 hi with hi |hi
     ·exact .inl hi
     ·refine .inr ?_;have:=hge _ hi;show H20.next+1+1<=i;omega)
   have lift2:∀{o},PresX (Y8 i11 H20++rowId M') K (K'.put (H20.next+1) o):=fun {o}=>pK.trans (.put _ _ _) (fun i hi=>.inl (by simp at hi;simp [hi]));have gi2:∀{o},(K'.put (H20.next+1) o).get i11=some (Slot.obj ⟨i11,[.int .i64 ((A.length+1:Nat):Int)],3⟩):=fun {o}=>((LHeap.get_put _ _ _ _).trans (if_neg (fun e=>hne e.symm))).trans gi;rcases hor with ⟨rfl,hn⟩ |⟨rfl,hn0,hA2⟩
   ·refine ⟨lift2,true,rfl,fun _=>⟨lift,(LHeap.get_put _ _ _ _).trans (if_pos rfl),A++[M],by rw [<-h3];simp,?_,fun h=> ?_⟩,fun e=>by cases e⟩
    ·rw [gi2];simp
    ·have:=hn h;simp;omega
   ·refine ⟨lift2,false,rfl,(fun e=>by cases e),fun _=>⟨lift,(LHeap.get_put _ _ _ _).trans (if_pos rfl),?_,hn0⟩⟩;rw [gi2,hA2];rfl
end
def L51_0(d:Nat->LV)(n0:Int)(n1:Int)(a2:Option LAddr)(l3:Nat)(c4:Cap)(n5:Int):List SV:=dl d 0 3++[.lv (I6 n1)]++dl d 4 4++[.lv (.slice a2 l3 c4),.lv (I6 n5),.lv (I6 n0)]++dl d 11 12
theorem g51_0(R:RR)(H0:LHeap)(d:Nat->LV)(n0:Int)(n1:Int)(a2:Option LAddr)(l3:Nat)(c4:Cap)(n5:Int)(H:LHeap)
(h:Dc (n0<n5) ((0<=n0/\(n0<((l3:Nat):Int)/\(Option.isSome a2)=true))/\(Inv [] H0 [] H->∃x8,loadT cfg.P H 72 (Lk (LAddr.id (adr a2)) (LAddr.ver (adr a2)) ((LAddr.off (adr a2))+((Int.toNat n0)*18)))=some (NdC.lv x8)/\(NX H fun i9 H10=>PX [i9] H10 fun H11=>Inv [] H0 [Sk i9 (NdC.cs x8) 72] H11->Kc 51 [NdC.lv x8] H11 fun n13 H14=>Dc (n13>n1) (∀d15,GoesT cfg 51 R [] H0 [] (L51_0 d15 (lwrap .i64 (n0+1)) n13 a2 l3 c4 n5) (loopAt cfg 51 0) H14) (∀d16,GoesT cfg 51 R [] H0 [] (L51_0 d16 (lwrap .i64 (n0+1)) n1 a2 l3 c4 n5) (loopAt cfg 51 0) H14)))) (R0 H0 [] H R (I6 (lwrap .i64 (n1+1))))):
 GoesT cfg 51 R [] H0 [] (L51_0 d n0 n1 a2 l3 c4 n5) (loopAt cfg 51 0) H:=seg_wt (k:=(.go 5 (.cases 11 (.go 6 (.op (.tuple []) (.facts (.op (.cust NdC NdC.lv) (.boxP (.putP (.go 4 (.facts (.call (.int .i64) (.go 8 (.cases 18 (.go 11 (.stop [10,3,8,9] 0)) (.go 8 (.stop [10,3,8,9] 0))))))))))))) (.go 8 (.facts .ret))))) (by kernel_rfl) h
theorem e51(R:RR)(x0:NdC)(H:LHeap)
(h:NX H fun i1 H2=>∀d3,GoesT cfg 51 R [] H [] (L51_0 d3 0 0 x0.argsA x0.argsL x0.argsQ ((x0.argsL:Nat):Int)) (loopAt cfg 51 0) H2):
 CallL cfg 51 [NdC.lv x0] H R:=call_wt0 (k:=(.go 2 (.boxP (.go 16 (.stop [10,3,8,9] 0))))) (by kernel_rfl) h
theorem dloop51:∀(l:List Nd) (_:∀n∈l,∀H,NdAt H n->CallL cfg 51 [n.root.lv] H (Ret (.int .i64 (depthT n)) H)) (a:Option LAddr) (q:Cap) (k:Nat) (H0:LHeap) (r:Int),k<=1000000000->∀(dp:Int),0<=dp->dp<=1000000->(preTs l).length<=1000000->depthTs l dp=r->∀(i:Nat),i+l.length=k->NdsAt H0 l a i->∀(d:Nat->LV) (H:LHeap),
  GoesT cfg 51 (Ret (.int .i64 (r+1)) H0) [] H0 [] (L51_0 d (i:Int) dp a k q (k:Int)) (loopAt cfg 51 0) H
 |[],_,a,q,k,H0,r,hk,dp,h0,h1,hsz,hr,i,hi,hA,d,H=>by
  intro hin hI;unfold depthTs at hr;refine g51_0 _ H0 d i dp a k q k H ⟨fun h=> ?_,fun h hI=>⟨by rw [lwrap_small (by omega) (by omega),hr],hI.pres⟩⟩ hin hI;simp at h hi;omega
 |n::l,hs,a,q,k,H0,r,hk,dp,h0,h1,hsz,hr,i,hi,hA,d,H=>by
  intro hin hI;rw [List.length_cons] at hi;rw [preTs,List.length_append] at hsz;unfold NdsAt at hA;unfold depthTs at hr;obtain ⟨⟨n1,n2,n3⟩,n4,n5⟩:=hA;have hd:=depth_le n;have hk':lwrap .i64 ((i:Int)+1)=((i+1:Nat):Int):=by rw [lwrap_small (by omega) (by omega)];simp
  refine g51_0 _ H0 d i dp a k q k H ⟨fun h=>⟨⟨by omega,by omega,n1⟩,fun hI=>⟨n.root,?ld,fun i9 H10 _ _ H11 _ hI11=>⟨_,hs n List.mem_cons_self H11 (n4.on hI11.pres),Ret.use ⟨_,rfl⟩,fun n13 H14 hS=> ?next⟩⟩⟩,fun h=> ?ge⟩ hin hI
  case ge=>simp at h;omega
  case ld=>
   simp only [Int.toNat_natCast];exact hI.pres.load0 (a:=⟨(adr a).id,(adr a).ver,(adr a).off+i*18⟩) n2 n3
  case next=>
   obtain ⟨e,_⟩:=hS;cases e;rw [hk'];refine ⟨fun h d15=> ?_,fun h d15=> ?_⟩
   ·rw [if_pos (by simpa using h)] at hr;exact dloop51 l (fun m hm=>hs m (List.mem_cons_of_mem _ hm)) a q k H0 r hk _ (by omega) (by omega) (by omega) hr (i+1) (by omega) n5 d15 H14
   ·rw [if_neg (by simpa using h)] at hr;exact dloop51 l (fun m hm=>hs m (List.mem_cons_of_mem _ hm)) a q k H0 r hk _ (by omega) (by omega) (by omega) hr (i+1) (by omega) n5 d15 H14
theorem d51(N:Nd)(H:LHeap)(hS:NdSm N)(hN:NdAt H N)(hsz:(preT N).length<=1000000):CallL cfg 51 [N.root.lv] H (Ret (.int .i64 (depthT N)) H):=by
 match N,hS,hN,hsz with
 | .mk x l,hS,hN,hsz=>
  have hN':=hN;unfold NdAt at hN';unfold NdSm at hS;rw [preT,List.length_cons] at hsz;have hmem:∀n∈l,(preT n).length<=1000000:=by
   intro n hn;have h1:=bareTs_mem hn;rw [bareT_len] at h1;unfold bareTs at h1;rw [List.length_map] at h1;omega
  refine e51 _ x H fun i1 H2 l1 p2 d3=> ?_;unfold depthT;have hlen:=hN'.1;exact dloop51 l (fun n hn H' hA=>d51 n H' (hS.2.mem n hn) hA (hmem n hn)) x.argsA x.argsQ x.argsL H _ hS.1 0 (by omega) (by omega) (by omega) rfl 0 (by omega) hN'.2.2 d3 H2
termination_by SizeOf.sizeOf N
decreasing_by
 have:=List.sizeOf_lt_of_mem hn
 simp_wf
 omega
end Go.Proofs.YtjihhflffkoffaaGreatDoor.Z
