/- Contracts of functions of the program; no condition. -/
import Derived.Test.YtjihhflffkoffaaGreatDoorG11
import Derived.Test.YtjihhflffkoffaaGreatDoorG0
import Derived.Test.YtjihhflffkoffaaGreatDoorLe
set_option linter.unusedSimpArgs false
set_option linter.unusedVariables false
set_option linter.unusedSectionVars false
set_option linter.unnecessarySimpa false
namespace Go.Proofs.YtjihhflffkoffaaGreatDoor.Z
open Go Go.Lm
set_option maxRecDepth 1000000
set_option maxHeartbeats 0
def leastI(much:Int)(side:Bool):Int:=if side then much+1 else much
theorem q203(N:Nd)(H:LHeap)(much:Int)(side:Bool)(h113:∀H',NdAt H' N->CallL cfg 113 [N.root.lv] H' (Ret (.str (txT N)) H'))(hN:NdAt H N)(hl:(txT N).length<=1000000000)(hm1:1<=much)(hm2:side=true->much<=5)(hm3:much<=7):
  CallL cfg 203 [N.root.lv,.int .i64 much,.bool side] H (Ret (.str (parT (strN N.root<leastI much side) (txT N))) H):=by
 have yes:strN N.root<leastI much side->∀{I:Prop} {Hx:LHeap},(I->PresX [] H Hx)->((1+(txT N).length)<=4611686018427387904)/\((([40]++txT N).length+1)<=4611686018427387904)/\(I->Ret (.str (parT (strN N.root<leastI much side) (txT N))) H (.str (([40]++txT N)++[41])) Hx):=by
  intro h I Hx hp;refine ⟨by omega,by simp;omega,fun hI=>⟨?_,hp hI⟩⟩;unfold parT;rw [if_pos h];simp
 have no:¬strN N.root<leastI much side->∀{I:Prop} {Hx:LHeap},(I->PresX [] H Hx)->I->Ret (.str (parT (strN N.root<leastI much side) (txT N))) H (.str (txT N)) Hx:=by
  intro h I Hx hp hI;refine ⟨?_,hp hI⟩;unfold parT;rw [if_neg h]
 have hb:=binds_le N.root.s;have hn:=binds_nn N.root.s;have s6:(N.root.kind==(6:Int))=true->strN N.root=bindsF N.root.s:=fun h=>by unfold strN;rw [if_pos (by simpa using h)]
 have s5:(N.root.kind==(6:Int))=false->(N.root.kind==(5:Int))=true->(N.root.s==[45])=true->strN N.root=6:=fun h h5 hs=>by unfold strN;rw [if_neg (by simpa using h),if_pos ⟨by simpa using h5,by simpa using hs⟩]
 have s7:(N.root.kind==(6:Int))=false->((N.root.kind==(5:Int))=false\/(N.root.s==[45])=false)->strN N.root=7:=fun h h5=>by
  unfold strN;rw [if_neg (by simpa using h),if_neg (by simp at h5;intro hc;rcases h5 with h5 |h5;exact h5 hc.1;exact h5 hc.2)]
 have x65:(N.root.kind==(6:Int))=true->(N.root.kind==(5:Int))=true->False:=fun h h5=>by simp at h h5;omega
 have lt:side=true->leastI much side=much+1:=fun h=>by unfold leastI;rw [h];rfl
 have lf:side=false->leastI much side=much:=fun h=>by unfold leastI;rw [h];rfl
 have lle:leastI much side<=7:=by
  cases hs:side
  ·rw [<-hs,lf hs];exact hm3
  ·rw [<-hs,lt hs];have:=hm2 hs;omega
 have lge:much<=leastI much side:=by
  cases hs:side
  ·rw [<-hs,lf hs];omega
  ·rw [<-hs,lt hs];omega
 refine e203t _ N.root much side H fun i3 H4 hI=>⟨_,h113 H4 (hN.on hI.pres),Ret.use ⟨_,rfl⟩,fun s6' H7 ⟨e,_⟩=> ?_⟩;cases e;refine ⟨fun k6 hI=>⟨_,q204 N.root.s H7,Ret.use ⟨_,rfl⟩,fun n9 H10 ⟨e9,_⟩=>⟨fun h=> ?_,fun h=>⟨fun hs hI=>⟨_,q204 N.root.s H10,Ret.use ⟨_,rfl⟩,fun n14 H15 ⟨e14,_⟩=>⟨fun h14=> ?_,fun h14=>⟨fun k5=>(x65 k6 k5).elim,fun k5=> ?_⟩⟩⟩,fun hs=>⟨fun k5=>(x65 k6 k5).elim,fun k5=> ?_⟩⟩⟩⟩,fun k6=>⟨fun k5=>⟨fun hs=>⟨fun h7=> ?_,fun h7=> ?_⟩,fun hs=> ?_⟩,fun k5=> ?_⟩⟩
 ·cases e9;exact yes (by rw [s6 k6];simp at h;omega) Inv.pres
 ·cases e9;cases e14;exact yes (by rw [s6 k6,lt hs];simp at h14;omega) Inv.pres
 ·cases e9;cases e14;exact no (by rw [s6 k6,lt hs];simp at h h14;omega) Inv.pres
 ·cases e9;exact no (by rw [s6 k6,lf hs];simp at h;omega) Inv.pres
 ·exact yes (by rw [s5 k6 k5 hs];simp at h7;omega) Inv.pres
 ·refine no ?_ Inv.pres;rw [s5 k6 k5 hs];simp at h7;cases hs':side
  ·rw [<-hs',lf hs'];omega
  ·rw [<-hs',lt hs'];have:=hm2 hs';omega
 ·exact no (by rw [s7 k6 (.inr hs)];omega) Inv.pres
 ·exact no (by rw [s7 k6 (.inl k5)];omega) Inv.pres
theorem loop113(H0:LHeap)(x:NdC)(l:List Nd)(hk:l.length=x.argsL)(hsm:x.argsL<=1000000000)(hA0:NdsAt H0 l x.argsA 0):∀(C A:List Nd) (s:List UInt8) (d:Nat->LV) (H:LHeap),A++C=l->
  (∀n∈C,∀H',NdAt H' n->CallL cfg 113 [n.root.lv] H' (Ret (.str (txT n)) H'))->NdsAt H0 C x.argsA A.length->s.length+(restT C).length<=4000000000->∀R:List UInt8,R=s++((if A=[] then argsT C else restT C)++[41])->
  GoesT cfg 113 (Ret (.str R) H0) [] H0 [] (L113t_0 d (A.length:Int) s x.argsA x.argsL x.argsQ (x.argsL:Int)) (loopAt cfg 113 0) H
 |[],A,s,d,H,hA,hs,hC,hl,R,hR=>by
  intro hin hI;have:A.length=x.argsL:=by rw [<-hk,<-hA];simp
  refine g113t_0 _ H0 d _ s _ _ _ _ H ⟨fun h=>absurd h (by simp;omega),fun _=>⟨by omega,fun hI=>⟨?_,hI.pres⟩⟩⟩ hin hI;rw [hR];have e:(if A=[] then argsT [] else restT [])=[]:=by split<;>simp [argsT,restT]
  rw [e];rfl
 |n::C,A,s,d,H,hA,hs,hC,hl,R,hR=>by
  intro hin hI;have hlen:A.length+(C.length+1)=x.argsL:=by rw [<-hk,<-hA];simp
  unfold NdsAt at hC;obtain ⟨⟨n1,n2,n3⟩,n4,n5⟩:=hC;have hrest:(restT (n::C)).length=1+(txT n).length+(restT C).length:=by rw [restT];simp;omega
  have hw:lwrap .i64 ((A.length:Int)+1)=(((A++[n]).length:Nat):Int):=by rw [lwrap_small (by omega) (by omega)];simp
  have next:=fun (s':List UInt8) (d:Nat->LV) (H:LHeap) (hl':s'.length+(restT C).length<=4000000000) (hR':R=s'++(restT C++[41]))=>loop113 H0 x l hk hsm hA0 C (A++[n]) s' d H (by rw [<-hA];simp) (fun m hm=>hs m (List.mem_cons_of_mem _ hm)) (by simpa using n5) hl' R (by rw [if_neg (by simp)];exact hR')
  refine g113t_0 _ H0 d _ s _ _ _ _ H ⟨fun _=>⟨⟨by omega,by omega,n1⟩,fun hI=>⟨n.root,?ld,fun i9 H10 H11=>⟨fun h=>⟨by omega,fun hI11=>⟨_,hs n List.mem_cons_self H11 (n4.on hI11.pres),Ret.use ⟨_,rfl⟩,fun s14 H15 ⟨e,_⟩=>⟨?l1,fun d17=> ?c1⟩⟩⟩,fun h hI11=>⟨_,hs n List.mem_cons_self H11 (n4.on hI11.pres),Ret.use ⟨_,rfl⟩,fun s19 H20 ⟨e,_⟩=>⟨?l2,fun d22=> ?c2⟩⟩⟩⟩⟩,fun h=>absurd h (by simp;omega)⟩ hin hI
  case ld=>
   simp only [Int.toNat_natCast];exact hI.pres.load0 (a:=⟨(adr x.argsA).id,(adr x.argsA).ver,(adr x.argsA).off+A.length*18⟩) n2 n3
  case l1=>cases e;simp;omega
  case l2=>cases e;omega
  case c1=>
   cases e;rw [hw];have hne:A≠[]:=by rintro rfl;simp at h
   rw [if_neg hne,restT] at hR;exact next _ d17 H15 (by simp;omega) (by rw [hR];simp)
  case c2=>
   cases e;rw [hw];have hnil:A=[]:=by simpa using h
   rw [if_pos hnil,argsT] at hR;exact next _ d22 H20 (by simp;omega) (by rw [hR];simp)
theorem OkT.par{x:NdC}{l:List Nd}(h:OkT (.mk x l)):shapeF x=true/\OkTs l:=by unfold OkT at h;exact h
theorem NdSm.mem':∀{l:List Nd},NdsSm l->∀n∈l,NdSm n
 |[],_,n,hn=>by cases hn
 |m::l,h,n,hn=>by
  unfold NdsSm at h;rcases List.mem_cons.1 hn with rfl |hn
  ·exact h.1
  ·exact NdSm.mem' h.2 n hn
theorem pre_mem:∀{l:List Nd} {n:Nd},n∈l->(preT n).length<=(preTs l).length
 |m::l,n,hn=>by
  unfold preTs;rw [List.length_append];rcases List.mem_cons.1 hn with rfl |hn
  ·omega
  ·have:=pre_mem hn;omega
theorem q113(N:Nd)(H:LHeap)(hO:OkT N)(hS:NdSm N)(hN:NdAt H N)(hsz:(preT N).length<=1000000):CallL cfg 113 [N.root.lv] H (Ret (.str (txT N)) H):=by
 match N,hO,hS,hN,hsz with
 | .mk x l,hO,hS,hN,hsz=>
  have hN':=hN;unfold NdAt at hN';have hO':=hO.par;have hS':=hS;unfold NdSm at hS';have hk:=sh_kind hO'.1;have hpre:(preT (.mk x l)).length=(preTs l).length+1:=by rw [preT];rfl
  have kid:∀n∈l,∀H',NdAt H' n->CallL cfg 113 [n.root.lv] H' (Ret (.str (txT n)) H'):=fun n hn H' hA=>q113 n H' (hO'.2.mem n hn) (NdSm.mem' hS'.2 n hn) hA (by have:=pre_mem hn;omega);have kl:∀n∈l,(txT n).length<=1000000000:=fun n hn=>by have:=tx_len (hO'.2.mem n hn);have:=pre_mem hn;omega
  have nk:∀{k:Int},(x.kind==k)=true->x.kind=k:=fun h=>by simpa using h
  have nf:∀{k:Int},(x.kind==k)=false->¬x.kind=k:=fun h=>by simpa using h
  refine e113t _ x H fun i1 H2=>⟨fun k1=>⟨fun v2 hI=> ?_,fun v2 hI=> ?_⟩,fun k1=>⟨fun k2 hI=> ?_,fun k2=>⟨fun k3 hI=> ?_,fun k3=>⟨fun k4=> ?_,fun k4=>⟨fun k5=> ?_,fun k5=>⟨fun k6 hI=> ?_,fun k6=> ?_⟩⟩⟩⟩⟩⟩
  ·have hv:=(sh_val hO'.1 (nk k1)).1 (by simpa using v2);refine ⟨_,q199 x.valueS H2 (by omega),Ret.use ⟨_,rfl⟩,fun s4 H5 ⟨e,_⟩ hI=>⟨?_,hI.pres⟩⟩;rw [e,txT,if_pos (nk k1),if_pos (by simpa using v2)]
  ·have hv:=(sh_val hO'.1 (nk k1)).2 (by simpa using v2);refine ⟨_,q200 (valO x) H2 hv,Ret.use ⟨_,rfl⟩,fun s7 H8 ⟨e,_⟩ hI=>⟨?_,hI.pres⟩⟩;rw [e,txT,if_pos (nk k1),if_neg (by simpa using v2)]
  ·refine ⟨_,q201 (refO x) H2,Ret.use ⟨_,rfl⟩,fun s10 H11 ⟨e,_⟩ hI=>⟨?_,hI.pres⟩⟩;rw [e,txT,if_neg (nf k1),if_pos (nk k2)]
  ·refine ⟨_,q202 (refO x) (toO x) H2,Ret.use ⟨_,rfl⟩,fun s13 H14 ⟨e,_⟩ hI=>⟨?_,hI.pres⟩⟩;rw [e,txT,if_neg (nf k1),if_neg (nf k2),if_pos (nk k3)]
  ·have hw:=sh_word hO'.1 (nk k4);refine ⟨fun hb=>⟨by omega,by simp;omega,by simp;omega,fun hI=>⟨?_,hI.pres⟩⟩,fun hb hI=>⟨?_,hI.pres⟩⟩
   all_goals
    rw [txT,if_neg (nf k1),if_neg (nf k2),if_neg (nf k3),if_pos (nk k4)];simp at hb;simp [wordTx,hb]
  ·have hu:=sh_un hO'.1 (nk k5);have hl1:l.length=1:=by omega
   obtain ⟨m,rfl⟩:∃m,l=[m]:=List.length_eq_one_iff.1 hl1;have hA:=hN'.2.2;unfold NdsAt at hA;obtain ⟨⟨m1,m2,m3⟩,m4,_⟩:=hA;have hml:=kl m List.mem_cons_self;have ht:∀k,(fstT [m] k)=parT (strN m.root<k) (txT m):=fun k=>by rw [fstT]
   have hp:=fun k:Int=>(parT_len (strN m.root<k) (txT m)).2;refine ⟨fun hs=>⟨⟨by omega,by omega,m1⟩,fun hI=>⟨m.root,hI.pres.load0 m2 m3,fun hI=>⟨_,q203 m H2 6 false (kid m List.mem_cons_self) (m4.on hI.pres) hml (by omega) (by simp) (by omega),Ret.use ⟨_,rfl⟩,fun s22 H23 ⟨e,_⟩=> ?_⟩⟩⟩,fun hs=>⟨⟨by omega,by omega,m1⟩,fun hI=>⟨m.root,hI.pres.load0 m2 m3,fun hI=>⟨_,q203 m H2 7 false (kid m List.mem_cons_self) (m4.on hI.pres) hml (by omega) (by simp) (by omega),Ret.use ⟨_,rfl⟩,fun s29 H30 ⟨e,_⟩=> ?_⟩⟩⟩⟩
   ·cases e;have:=hp (leastI 6 false);refine ⟨by omega,fun hI=>⟨?_,hI.pres⟩⟩;rw [txT,if_neg (nf k1),if_neg (nf k2),if_neg (nf k3),if_neg (nf k4),if_pos (nk k5),if_pos (by simpa using hs),ht];rfl
   ·cases e;have:=hp (leastI 7 false);refine ⟨by omega,fun hI=>⟨?_,hI.pres⟩⟩;rw [txT,if_neg (nf k1),if_neg (nf k2),if_neg (nf k3),if_neg (nf k4),if_pos (nk k5),if_neg (by simpa using hs),ht];rfl
  ·have hb:=sh_bin hO'.1 (nk k6);have hbl:=binds_len hb.1;have hb5:=binds_le x.s;have hl2:l.length=2:=by omega
   obtain ⟨m,n,rfl⟩:∃m n,l=[m,n]:=by
    match l,hl2 with
    |[m,n],_=>exact ⟨m,n,rfl⟩
   have hA:=hN'.2.2;unfold NdsAt at hA;obtain ⟨⟨m1,m2,m3⟩,m4,hA⟩:=hA;unfold NdsAt at hA;obtain ⟨⟨n1,n2,n3⟩,n4,_⟩:=hA;have hmm:m∈[m,n]:=List.mem_cons_self;have hnn:n∈[m,n]:=List.mem_cons_of_mem _ List.mem_cons_self;have hml:=kl m hmm;have hnl:=kl n hnn;have hp:=fun k:Int=>(parT_len (strN m.root<k) (txT m)).2;have hq:=fun k:Int=>(parT_len (strN n.root<k) (txT n)).2;refine ⟨_,q204 x.s H2,Ret.use ⟨_,rfl⟩,fun n33 H34 ⟨e33,_⟩=>⟨⟨by omega,by omega,m1⟩,fun hI=>⟨m.root,hI.pres.load0 m2 m3,⟨by omega,by omega,n1⟩,fun hI=>⟨n.root,hI.pres.load0 (a:=⟨(adr x.argsA).id,(adr x.argsA).ver,(adr x.argsA).off+18⟩) n2 n3,fun hI=>⟨hI.pres.load0 (a:=⟨(adr x.argsA).id,(adr x.argsA).ver,(adr x.argsA).off+18⟩) n2 n3,hI.pres.load0 m2 m3,rfl,fun hI=> ?_⟩⟩⟩⟩⟩;cases e33;refine ⟨_,q203 m H34 (bindsF x.s) false (kid m hmm) (m4.on hI.pres) hml (by omega) (by simp) (by omega),Ret.use ⟨_,rfl⟩,fun s43 H44 ⟨e,_⟩=> ?_⟩;cases e;have h1:=hp (leastI (bindsF x.s) false);refine ⟨by omega,fun hI=>⟨hI.pres.load0 (a:=⟨(adr x.argsA).id,(adr x.argsA).ver,(adr x.argsA).off+18⟩) n2 n3,rfl,fun hI=>⟨_,q203 n H44 (bindsF x.s) true (kid n hnn) (n4.on hI.pres) hnl (by omega) (fun _=>hb5) (by omega),Ret.use ⟨_,rfl⟩,fun s48 H49 ⟨e,_⟩=> ?_⟩⟩⟩;cases e;have h2:=hq (leastI (bindsF x.s) true);refine ⟨by rw [List.length_append];omega,fun hI=>⟨rfl,fun hI=>⟨?_,hI.pres⟩⟩⟩;rw [txT,if_neg (nf k1),if_neg (nf k2),if_neg (nf k3),if_neg (nf k4),if_neg (nf k5),if_pos (nk k6),fstT,sndT,fstT,List.append_assoc];rfl
  ·have k7:x.kind=7:=by have:=nf k1;have:=nf k2;have:=nf k3;have:=nf k4;have:=nf k5;have:=nf k6;omega
   have hc:=sh_call hO'.1 k7;have hr:=rest_len hO'.2;refine ⟨by omega,fun d53=> ?_⟩;refine loop113 H x l hN'.1 hS'.1 hN'.2.2 l [] _ d53 H2 rfl kid hN'.2.2 (by simp;omega) _ ?_;rw [txT,if_neg (nf k1),if_neg (nf k2),if_neg (nf k3),if_neg (nf k4),if_neg (nf k5),if_neg (nf k6),if_pos rfl];simp
termination_by SizeOf.sizeOf N
decreasing_by
 have:=List.sizeOf_lt_of_mem hn
 simp_wf
 omega
def L111t_0(d:Nat->LV)(n0:Int)(a1:Option LAddr)(l2:Nat)(c3:Cap)(n4:Int):List SV:=[.own 0 0]++dl d 1 125++[.lv (.slice a1 l2 c3),.lv (I6 n4),.lv (I6 n0)]++dl d 129 18
theorem g111t_0(e:TypeId)(R:RR)(X:List Nat)(H0:LHeap)(d:Nat->LV)(n0:Int)(a1:Option LAddr)(l2:Nat)(c3:Cap)(n4:Int)(i5:Nat)(p6:Option LAddr)(a7:Option LAddr)(l8:Nat)(c9:Cap)(H:LHeap)
(h:Dc (n0<n4) ((0<=n0/\(n0<((l2:Nat):Int)/\(Option.isSome a1)=true))/\(Inv X H0 [Sk i5 [.ptr p6,.slice a7 l8 c9] e] H->∃x12,loadT cfg.P H 72 (Lk (LAddr.id (adr a1)) (LAddr.ver (adr a1)) ((LAddr.off (adr a1))+((Int.toNat n0)*18)))=some (NdC.lv x12)/\(NX H fun i13 H14=>PX [i13] H14 fun H15=>Dc (n0>0) (Inv X H0 [Sk i5 [.ptr p6,.slice a7 l8 c9] e,Sk i13 (NdC.cs x12) 72] H15->∃S16 Y,CallL cfg 160 [.ptr (some (Lk i5 2 0)),.int .u8 44] H15 S16/\((∀v H',S16 v H'->PresX (i5::Y) H15 H'/\(hasSh .any v/\(∃cs,hasSh (.agg [.ptr,.slice]) (.agg cs)/\(List.length cs=2/\H'.get i5=some (Slot.obj ⟨i5,cs,e⟩)))))/\((∀i∈Y,okId X H0 [Sk i5 [.ptr p6,.slice a7 l8 c9] e,Sk i13 (NdC.cs x12) 72] i)/\(∀v17 p18 a19 l20 c21 H22,S16 v17 H22->H22.get i5=some (Slot.obj (Sk i5 [.ptr p18,.slice a19 l20 c21] e))->Inv X H0 [Sk i5 [.ptr p18,.slice a19 l20 c21] e,Sk i13 (NdC.cs x12) 72] H22->∃S23 Y,CallL cfg 111 [.ptr (some (Lk i5 2 0)),NdC.lv x12] H22 S23/\((∀v H',S23 v H'->PresX (i5::Y) H22 H'/\(hasSh (.tuple []) v/\(∃cs,hasSh (.agg [.ptr,.slice]) (.agg cs)/\(List.length cs=2/\H'.get i5=some (Slot.obj ⟨i5,cs,e⟩)))))/\((∀i∈Y,okId X H0 [Sk i5 [.ptr p18,.slice a19 l20 c21] e,Sk i13 (NdC.cs x12) 72] i)/\(∀p24 a25 l26 c27 H28,S23 (.tuple []) H28->H28.get i5=some (Slot.obj (Sk i5 [.ptr p24,.slice a25 l26 c27] e))->∀d29,GoesT cfg 111 R X H0 [Sk i5 [.ptr p24,.slice a25 l26 c27] e] (L111t_0 d29 (lwrap .i64 (n0+1)) a1 l2 c3 n4) (loopAt cfg 111 0) H28))))))) (Inv X H0 [Sk i5 [.ptr p6,.slice a7 l8 c9] e,Sk i13 (NdC.cs x12) 72] H15->∃S30 Y,CallL cfg 111 [.ptr (some (Lk i5 2 0)),NdC.lv x12] H15 S30/\((∀v H',S30 v H'->PresX (i5::Y) H15 H'/\(hasSh (.tuple []) v/\(∃cs,hasSh (.agg [.ptr,.slice]) (.agg cs)/\(List.length cs=2/\H'.get i5=some (Slot.obj ⟨i5,cs,e⟩)))))/\((∀i∈Y,okId X H0 [Sk i5 [.ptr p6,.slice a7 l8 c9] e,Sk i13 (NdC.cs x12) 72] i)/\(∀p31 a32 l33 c34 H35,S30 (.tuple []) H35->H35.get i5=some (Slot.obj (Sk i5 [.ptr p31,.slice a32 l33 c34] e))->∀d36,GoesT cfg 111 R X H0 [Sk i5 [.ptr p31,.slice a32 l33 c34] e] (L111t_0 d36 (lwrap .i64 (n0+1)) a1 l2 c3 n4) (loopAt cfg 111 0) H35))))))) (Inv X H0 [Sk i5 [.ptr p6,.slice a7 l8 c9] e] H->∃S37 Y,CallL cfg 160 [.ptr (some (Lk i5 2 0)),.int .u8 41] H S37/\((∀v H',S37 v H'->PresX (i5::Y) H H'/\(hasSh .any v/\(∃cs,hasSh (.agg [.ptr,.slice]) (.agg cs)/\(List.length cs=2/\H'.get i5=some (Slot.obj ⟨i5,cs,e⟩)))))/\((∀i∈Y,okId X H0 [Sk i5 [.ptr p6,.slice a7 l8 c9] e] i)/\(∀v38 p39 a40 l41 c42 H43,S37 v38 H43->H43.get i5=some (Slot.obj (Sk i5 [.ptr p39,.slice a40 l41 c42] e))->RX X H0 [Sk i5 [.ptr p39,.slice a40 l41 c42] e] H43 R (.tuple [])))))):
 GoesT cfg 111 R X H0 [Sk i5 [.ptr p6,.slice a7 l8 c9] e] (L111t_0 d n0 a1 l2 c3 n4) (loopAt cfg 111 0) H:=seg_wt (k:=(.go 5 (.cases 129 (.go 7 (.op (.tuple []) (.facts (.op (.cust NdC NdC.lv) (.boxP (.go 1 (.putP (.go 7 (.cases 134 (.go 5 (.facts (.callOY 0 (.agg [.ptr,.slice]) .any (.go 4 (.facts (.callOY 0 (.agg [.ptr,.slice]) (.tuple []) (.go 7 (.stop [128,0,126,127] 1)))))))) (.go 5 (.facts (.callOY 0 (.agg [.ptr,.slice]) (.tuple []) (.go 7 (.stop [128,0,126,127] 1)))))))))))))) (.go 6 (.facts (.callOY 0 (.agg [.ptr,.slice]) .any (.go 2 (.facts .ret)))))))) (by kernel_rfl) h
theorem e111t(e:TypeId)(R:RR)(X:List Nat)(ii:Nat)(p:(Option LAddr))(a:(Option LAddr))(k:Nat)(q:Cap)(nd:NdC)(H:LHeap)(hI:Inv X H [(Sk ii [(.ptr p),(.slice a k q)] e)] H)
(h:NX H fun i0 H1=>Cd (nd.kind==1) (Cd (nd.valueKind==2) (∀H2,H2=(LHeap.push H1 (LObj.cells [I6 2,I6 0,.str nd.valueS,.str [],.str [],I6 0,I6 0,.bool false,.bool false] 124 9 9 .none false true))->([.str nd.valueS]:List LV)=[.str nd.valueS]/\(Inv X H [Sk ii [.ptr p,.slice a k q] e,Sk i0 (NdC.cs nd) 72] H2->CL 78 [.slice (some (Lk (LHeap.next H1) 9 0)) 1 (.exact 1)] H2 .str fun S4=>∀s5 H6,S4 (.str s5) H6->Inv X H [Sk ii [.ptr p,.slice a k q] e,Sk i0 (NdC.cs nd) 72] H6->∃S8 Y,CallL cfg 161 [.ptr (some (Lk ii 2 0)),.str s5] H6 S8/\((∀v H',S8 v H'->PresX (ii::Y) H6 H'/\(hasSh (.tuple [.int .i64,.any]) v/\(∃cs,hasSh (.agg [.ptr,.slice]) (.agg cs)/\(List.length cs=2/\H'.get ii=some (Slot.obj ⟨ii,cs,e⟩)))))/\((∀i∈Y,okId X H [Sk ii [.ptr p,.slice a k q] e,Sk i0 (NdC.cs nd) 72] i)/\(∀n9 v10 p11 a12 l13 c14 H15,S8 (.tuple [I6 n9,v10]) H15->H15.get ii=some (Slot.obj (Sk ii [.ptr p11,.slice a12 l13 c14] e))->RX X H [Sk ii [.ptr p11,.slice a12 l13 c14] e,Sk i0 (NdC.cs nd) 72] H15 R (.tuple [])))))) (([.agg [I6 nd.valueKind,I6 nd.valueN,.str nd.valueS]]:List LV)=[.agg [I6 nd.valueKind,I6 nd.valueN,.str nd.valueS]]/\(Inv X H [Sk ii [.ptr p,.slice a k q] e,Sk i0 (NdC.cs nd) 72] H1->CL 194 [.agg [I6 nd.valueKind,I6 nd.valueN,.str nd.valueS]] H1 .str fun S18=>∀s19 H20,S18 (.str s19) H20->Inv X H [Sk ii [.ptr p,.slice a k q] e,Sk i0 (NdC.cs nd) 72] H20->∃S22 Y,CallL cfg 161 [.ptr (some (Lk ii 2 0)),.str s19] H20 S22/\((∀v H',S22 v H'->PresX (ii::Y) H20 H'/\(hasSh (.tuple [.int .i64,.any]) v/\(∃cs,hasSh (.agg [.ptr,.slice]) (.agg cs)/\(List.length cs=2/\H'.get ii=some (Slot.obj ⟨ii,cs,e⟩)))))/\((∀i∈Y,okId X H [Sk ii [.ptr p,.slice a k q] e,Sk i0 (NdC.cs nd) 72] i)/\(∀n23 v24 p25 a26 l27 c28 H29,S22 (.tuple [I6 n23,v24]) H29->H29.get ii=some (Slot.obj (Sk ii [.ptr p25,.slice a26 l27 c28] e))->RX X H [Sk ii [.ptr p25,.slice a26 l27 c28] e,Sk i0 (NdC.cs nd) 72] H29 R (.tuple []))))))) (Cd (nd.kind==2) (([.agg [.str nd.refBook,.str nd.refSheet,I6 nd.refRow,I6 nd.refCol,.bool nd.refFixRow,.bool nd.refFixCol]]:List LV)=[.agg [.str nd.refBook,.str nd.refSheet,I6 nd.refRow,I6 nd.refCol,.bool nd.refFixRow,.bool nd.refFixCol]]/\(Inv X H [Sk ii [.ptr p,.slice a k q] e,Sk i0 (NdC.cs nd) 72] H1->CL 195 [.agg [.str nd.refBook,.str nd.refSheet,I6 nd.refRow,I6 nd.refCol,.bool nd.refFixRow,.bool nd.refFixCol]] H1 .str fun S32=>∀s33 H34,S32 (.str s33) H34->Inv X H [Sk ii [.ptr p,.slice a k q] e,Sk i0 (NdC.cs nd) 72] H34->∃S36 Y,CallL cfg 161 [.ptr (some (Lk ii 2 0)),.str s33] H34 S36/\((∀v H',S36 v H'->PresX (ii::Y) H34 H'/\(hasSh (.tuple [.int .i64,.any]) v/\(∃cs,hasSh (.agg [.ptr,.slice]) (.agg cs)/\(List.length cs=2/\H'.get ii=some (Slot.obj ⟨ii,cs,e⟩)))))/\((∀i∈Y,okId X H [Sk ii [.ptr p,.slice a k q] e,Sk i0 (NdC.cs nd) 72] i)/\(∀n37 v38 p39 a40 l41 c42 H43,S36 (.tuple [I6 n37,v38]) H43->H43.get ii=some (Slot.obj (Sk ii [.ptr p39,.slice a40 l41 c42] e))->RX X H [Sk ii [.ptr p39,.slice a40 l41 c42] e,Sk i0 (NdC.cs nd) 72] H43 R (.tuple [])))))) (Cd (nd.kind==3) (([.agg [.str nd.refBook,.str nd.refSheet,I6 nd.refRow,I6 nd.refCol,.bool nd.refFixRow,.bool nd.refFixCol],.agg [.str nd.toBook,.str nd.toSheet,I6 nd.toRow,I6 nd.toCol,.bool nd.toFixRow,.bool nd.toFixCol]]:List LV)=[.agg [.str nd.refBook,.str nd.refSheet,I6 nd.refRow,I6 nd.refCol,.bool nd.refFixRow,.bool nd.refFixCol],.agg [.str nd.toBook,.str nd.toSheet,I6 nd.toRow,I6 nd.toCol,.bool nd.toFixRow,.bool nd.toFixCol]]/\(Inv X H [Sk ii [.ptr p,.slice a k q] e,Sk i0 (NdC.cs nd) 72] H1->CL 196 [.agg [.str nd.refBook,.str nd.refSheet,I6 nd.refRow,I6 nd.refCol,.bool nd.refFixRow,.bool nd.refFixCol],.agg [.str nd.toBook,.str nd.toSheet,I6 nd.toRow,I6 nd.toCol,.bool nd.toFixRow,.bool nd.toFixCol]] H1 .str fun S46=>∀s47 H48,S46 (.str s47) H48->Inv X H [Sk ii [.ptr p,.slice a k q] e,Sk i0 (NdC.cs nd) 72] H48->∃S50 Y,CallL cfg 161 [.ptr (some (Lk ii 2 0)),.str s47] H48 S50/\((∀v H',S50 v H'->PresX (ii::Y) H48 H'/\(hasSh (.tuple [.int .i64,.any]) v/\(∃cs,hasSh (.agg [.ptr,.slice]) (.agg cs)/\(List.length cs=2/\H'.get ii=some (Slot.obj ⟨ii,cs,e⟩)))))/\((∀i∈Y,okId X H [Sk ii [.ptr p,.slice a k q] e,Sk i0 (NdC.cs nd) 72] i)/\(∀n51 v52 p53 a54 l55 c56 H57,S50 (.tuple [I6 n51,v52]) H57->H57.get ii=some (Slot.obj (Sk ii [.ptr p53,.slice a54 l55 c56] e))->RX X H [Sk ii [.ptr p53,.slice a54 l55 c56] e,Sk i0 (NdC.cs nd) 72] H57 R (.tuple [])))))) (Cd (nd.kind==4) (∀H59,H59=(LHeap.push H1 (LObj.cells [I6 4,I6 0,.str nd.s,.str nd.refBook,.str nd.refSheet,I6 nd.refRow,I6 nd.refCol,.bool nd.refFixRow,.bool nd.refFixCol] 124 9 9 .none false true))->([.str nd.s,.agg [.str nd.refBook,.str nd.refSheet,I6 nd.refRow,I6 nd.refCol,.bool nd.refFixRow,.bool nd.refFixCol]]:List LV)=[.str nd.s,.agg [.str nd.refBook,.str nd.refSheet,I6 nd.refRow,I6 nd.refCol,.bool nd.refFixRow,.bool nd.refFixCol]]/\(Inv X H [Sk ii [.ptr p,.slice a k q] e,Sk i0 (NdC.cs nd) 72] H59->CL 78 [.slice (some (Lk (LHeap.next H1) 9 0)) 1 (.exact 1)] H59 .str fun S61=>∀s62 H63,S61 (.str s62) H63->Inv X H [Sk ii [.ptr p,.slice a k q] e,Sk i0 (NdC.cs nd) 72] H63->∃S65 Y,CallL cfg 161 [.ptr (some (Lk ii 2 0)),.str s62] H63 S65/\((∀v H',S65 v H'->PresX (ii::Y) H63 H'/\(hasSh (.tuple [.int .i64,.any]) v/\(∃cs,hasSh (.agg [.ptr,.slice]) (.agg cs)/\(List.length cs=2/\H'.get ii=some (Slot.obj ⟨ii,cs,e⟩)))))/\((∀i∈Y,okId X H [Sk ii [.ptr p,.slice a k q] e,Sk i0 (NdC.cs nd) 72] i)/\(∀n66 v67 p68 a69 l70 c71 H72,S65 (.tuple [I6 n66,v67]) H72->H72.get ii=some (Slot.obj (Sk ii [.ptr p68,.slice a69 l70 c71] e))->RX X H [Sk ii [.ptr p68,.slice a69 l70 c71] e,Sk i0 (NdC.cs nd) 72] H72 R (.tuple [])))))) (Cd (nd.kind==5) (Cd (nd.s==[45]) (Inv X H [Sk ii [.ptr p,.slice a k q] e,Sk i0 (NdC.cs nd) 72] H1->∃S74 Y,CallL cfg 160 [.ptr (some (Lk ii 2 0)),.int .u8 45] H1 S74/\((∀v H',S74 v H'->PresX (ii::Y) H1 H'/\(hasSh .any v/\(∃cs,hasSh (.agg [.ptr,.slice]) (.agg cs)/\(List.length cs=2/\H'.get ii=some (Slot.obj ⟨ii,cs,e⟩)))))/\((∀i∈Y,okId X H [Sk ii [.ptr p,.slice a k q] e,Sk i0 (NdC.cs nd) 72] i)/\(∀v75 p76 a77 l78 c79 H80,S74 v75 H80->H80.get ii=some (Slot.obj (Sk ii [.ptr p76,.slice a77 l78 c79] e))->((0:Int)<=0/\(0<((nd.argsL:Nat):Int)/\(Option.isSome nd.argsA)=true))/\(Inv X H [Sk ii [.ptr p76,.slice a77 l78 c79] e,Sk i0 (NdC.cs nd) 72] H80->∃x83,loadT cfg.P H80 72 (Lk (LAddr.id (adr nd.argsA)) (LAddr.ver (adr nd.argsA)) ((LAddr.off (adr nd.argsA))+0))=some (NdC.lv x83)/\(Inv X H [Sk ii [.ptr p76,.slice a77 l78 c79] e,Sk i0 (NdC.cs nd) 72] H80->∃S84 Y,CallL cfg 197 [.ptr (some (Lk ii 2 0)),NdC.lv x83,I6 6] H80 S84/\((∀v H',S84 v H'->PresX (ii::Y) H80 H'/\(hasSh (.tuple []) v/\(∃cs,hasSh (.agg [.ptr,.slice]) (.agg cs)/\(List.length cs=2/\H'.get ii=some (Slot.obj ⟨ii,cs,e⟩)))))/\((∀i∈Y,okId X H [Sk ii [.ptr p76,.slice a77 l78 c79] e,Sk i0 (NdC.cs nd) 72] i)/\(∀p85 a86 l87 c88 H89,S84 (.tuple []) H89->H89.get ii=some (Slot.obj (Sk ii [.ptr p85,.slice a86 l87 c88] e))->RX X H [Sk ii [.ptr p85,.slice a86 l87 c88] e,Sk i0 (NdC.cs nd) 72] H89 R (.tuple [])))))))))) (((0:Int)<=0/\(0<((nd.argsL:Nat):Int)/\(Option.isSome nd.argsA)=true))/\(Inv X H [Sk ii [.ptr p,.slice a k q] e,Sk i0 (NdC.cs nd) 72] H1->∃x92,loadT cfg.P H1 72 (Lk (LAddr.id (adr nd.argsA)) (LAddr.ver (adr nd.argsA)) ((LAddr.off (adr nd.argsA))+0))=some (NdC.lv x92)/\(Inv X H [Sk ii [.ptr p,.slice a k q] e,Sk i0 (NdC.cs nd) 72] H1->∃S93 Y,CallL cfg 197 [.ptr (some (Lk ii 2 0)),NdC.lv x92,I6 7] H1 S93/\((∀v H',S93 v H'->PresX (ii::Y) H1 H'/\(hasSh (.tuple []) v/\(∃cs,hasSh (.agg [.ptr,.slice]) (.agg cs)/\(List.length cs=2/\H'.get ii=some (Slot.obj ⟨ii,cs,e⟩)))))/\((∀i∈Y,okId X H [Sk ii [.ptr p,.slice a k q] e,Sk i0 (NdC.cs nd) 72] i)/\(∀p94 a95 l96 c97 H98,S93 (.tuple []) H98->H98.get ii=some (Slot.obj (Sk ii [.ptr p94,.slice a95 l96 c97] e))->Inv X H [Sk ii [.ptr p94,.slice a95 l96 c97] e,Sk i0 (NdC.cs nd) 72] H98->∃S99 Y,CallL cfg 160 [.ptr (some (Lk ii 2 0)),.int .u8 37] H98 S99/\((∀v H',S99 v H'->PresX (ii::Y) H98 H'/\(hasSh .any v/\(∃cs,hasSh (.agg [.ptr,.slice]) (.agg cs)/\(List.length cs=2/\H'.get ii=some (Slot.obj ⟨ii,cs,e⟩)))))/\((∀i∈Y,okId X H [Sk ii [.ptr p94,.slice a95 l96 c97] e,Sk i0 (NdC.cs nd) 72] i)/\(∀v100 p101 a102 l103 c104 H105,S99 v100 H105->H105.get ii=some (Slot.obj (Sk ii [.ptr p101,.slice a102 l103 c104] e))->RX X H [Sk ii [.ptr p101,.slice a102 l103 c104] e,Sk i0 (NdC.cs nd) 72] H105 R (.tuple []))))))))))) (Cd (nd.kind==6) (Inv X H [Sk ii [.ptr p,.slice a k q] e,Sk i0 (NdC.cs nd) 72] H1->CL 198 [.str nd.s] H1 (.int .i64) fun S106=>∀n107 H108,S106 (I6 n107) H108->((0:Int)<=0/\(0<((nd.argsL:Nat):Int)/\(Option.isSome nd.argsA)=true))/\(Inv X H [Sk ii [.ptr p,.slice a k q] e,Sk i0 (NdC.cs nd) 72] H108->∃x111,loadT cfg.P H108 72 (Lk (LAddr.id (adr nd.argsA)) (LAddr.ver (adr nd.argsA)) ((LAddr.off (adr nd.argsA))+0))=some (NdC.lv x111)/\(Inv X H [Sk ii [.ptr p,.slice a k q] e,Sk i0 (NdC.cs nd) 72] H108->∃S112 Y,CallL cfg 197 [.ptr (some (Lk ii 2 0)),NdC.lv x111,I6 n107] H108 S112/\((∀v H',S112 v H'->PresX (ii::Y) H108 H'/\(hasSh (.tuple []) v/\(∃cs,hasSh (.agg [.ptr,.slice]) (.agg cs)/\(List.length cs=2/\H'.get ii=some (Slot.obj ⟨ii,cs,e⟩)))))/\((∀i∈Y,okId X H [Sk ii [.ptr p,.slice a k q] e,Sk i0 (NdC.cs nd) 72] i)/\(∀p113 a114 l115 c116 H117,S112 (.tuple []) H117->H117.get ii=some (Slot.obj (Sk ii [.ptr p113,.slice a114 l115 c116] e))->([.str nd.s]:List LV)=[.str nd.s]/\(Inv X H [Sk ii [.ptr p113,.slice a114 l115 c116] e,Sk i0 (NdC.cs nd) 72] H117->∃S119 Y,CallL cfg 161 [.ptr (some (Lk ii 2 0)),.str nd.s] H117 S119/\((∀v H',S119 v H'->PresX (ii::Y) H117 H'/\(hasSh (.tuple [.int .i64,.any]) v/\(∃cs,hasSh (.agg [.ptr,.slice]) (.agg cs)/\(List.length cs=2/\H'.get ii=some (Slot.obj ⟨ii,cs,e⟩)))))/\((∀i∈Y,okId X H [Sk ii [.ptr p113,.slice a114 l115 c116] e,Sk i0 (NdC.cs nd) 72] i)/\(∀n120 v121 p122 a123 l124 c125 H126,S119 (.tuple [I6 n120,v121]) H126->H126.get ii=some (Slot.obj (Sk ii [.ptr p122,.slice a123 l124 c125] e))->((0:Int)<=1/\(1<((nd.argsL:Nat):Int)/\(Option.isSome nd.argsA)=true))/\(Inv X H [Sk ii [.ptr p122,.slice a123 l124 c125] e,Sk i0 (NdC.cs nd) 72] H126->∃x130,loadT cfg.P H126 72 (Lk (LAddr.id (adr nd.argsA)) (LAddr.ver (adr nd.argsA)) ((LAddr.off (adr nd.argsA))+18))=some (NdC.lv x130)/\(Inv X H [Sk ii [.ptr p122,.slice a123 l124 c125] e,Sk i0 (NdC.cs nd) 72] H126->∃S131 Y,CallL cfg 197 [.ptr (some (Lk ii 2 0)),NdC.lv x130,I6 (lwrap .i64 (n107+1))] H126 S131/\((∀v H',S131 v H'->PresX (ii::Y) H126 H'/\(hasSh (.tuple []) v/\(∃cs,hasSh (.agg [.ptr,.slice]) (.agg cs)/\(List.length cs=2/\H'.get ii=some (Slot.obj ⟨ii,cs,e⟩)))))/\((∀i∈Y,okId X H [Sk ii [.ptr p122,.slice a123 l124 c125] e,Sk i0 (NdC.cs nd) 72] i)/\(∀p132 a133 l134 c135 H136,S131 (.tuple []) H136->H136.get ii=some (Slot.obj (Sk ii [.ptr p132,.slice a133 l134 c135] e))->RX X H [Sk ii [.ptr p132,.slice a133 l134 c135] e,Sk i0 (NdC.cs nd) 72] H136 R (.tuple [])))))))))))))))) (Cd (nd.kind==7) ((nd.s.length+1)<=4611686018427387904/\(([.str nd.s]:List LV)=[.str nd.s]/\(Inv X H [Sk ii [.ptr p,.slice a k q] e,Sk i0 (NdC.cs nd) 72] H1->∃S139 Y,CallL cfg 161 [.ptr (some (Lk ii 2 0)),.str (nd.s++(Array.toList (ByteArray.data (ByteArray.mk (List.toArray [40])))))] H1 S139/\((∀v H',S139 v H'->PresX (ii::Y) H1 H'/\(hasSh (.tuple [.int .i64,.any]) v/\(∃cs,hasSh (.agg [.ptr,.slice]) (.agg cs)/\(List.length cs=2/\H'.get ii=some (Slot.obj ⟨ii,cs,e⟩)))))/\((∀i∈Y,okId X H [Sk ii [.ptr p,.slice a k q] e,Sk i0 (NdC.cs nd) 72] i)/\(∀n140 v141 p142 a143 l144 c145 H146,S139 (.tuple [I6 n140,v141]) H146->H146.get ii=some (Slot.obj (Sk ii [.ptr p142,.slice a143 l144 c145] e))->∀d148,GoesT cfg 111 R X H [Sk ii [.ptr p142,.slice a143 l144 c145] e] (L111t_0 d148 0 nd.argsA nd.argsL nd.argsQ ((nd.argsL:Nat):Int)) (loopAt cfg 111 0) H146)))))) (RX X H [Sk ii [.ptr p,.slice a k q] e,Sk i0 (NdC.cs nd) 72] H1 R (.tuple []))))))))):
 CallL cfg 111 [.ptr (some (Lk ii 2 0)),NdC.lv nd] H R:=call_wt (k:=(.go 2 (.boxP (.go 12 (.cases 9 (.go 9 (.cases 14 (.go 10 (.row (.check (.facts (.call .str (.check (.facts (.callOY 0 (.agg [.ptr,.slice]) (.tuple [.int .i64,.any]) (.check (.go 1 (.facts .ret))))))))))) (.go 8 (.check (.facts (.call .str (.check (.facts (.callOY 0 (.agg [.ptr,.slice]) (.tuple [.int .i64,.any]) (.check (.go 2 (.facts .ret)))))))))))) (.go 6 (.cases 32 (.go 7 (.check (.facts (.call .str (.check (.facts (.callOY 0 (.agg [.ptr,.slice]) (.tuple [.int .i64,.any]) (.check (.go 2 (.facts .ret)))))))))) (.go 6 (.cases 41 (.go 9 (.check (.facts (.call .str (.check (.facts (.callOY 0 (.agg [.ptr,.slice]) (.tuple [.int .i64,.any]) (.check (.go 2 (.facts .ret)))))))))) (.go 6 (.cases 52 (.go 10 (.row (.check (.facts (.call .str (.check (.facts (.callOY 0 (.agg [.ptr,.slice]) (.tuple [.int .i64,.any]) (.check (.go 2 (.facts .ret))))))))))) (.go 6 (.cases 65 (.go 8 (.cases 69 (.go 6 (.facts (.callOY 0 (.agg [.ptr,.slice]) .any (.go 6 (.op (.tuple []) (.facts (.op (.cust NdC NdC.lv) (.facts (.callOY 0 (.agg [.ptr,.slice]) (.tuple []) (.go 1 (.facts .ret))))))))))) (.go 7 (.op (.tuple []) (.facts (.op (.cust NdC NdC.lv) (.facts (.callOY 0 (.agg [.ptr,.slice]) (.tuple []) (.go 5 (.facts (.callOY 0 (.agg [.ptr,.slice]) .any (.go 2 (.facts .ret))))))))))))) (.go 6 (.cases 90 (.go 5 (.facts (.call (.int .i64) (.go 7 (.op (.tuple []) (.facts (.op (.cust NdC NdC.lv) (.go 1 (.facts (.callOY 0 (.agg [.ptr,.slice]) (.tuple []) (.go 8 (.check (.facts (.callOY 0 (.agg [.ptr,.slice]) (.tuple [.int .i64,.any]) (.check (.go 5 (.op (.tuple []) (.facts (.op (.cust NdC NdC.lv) (.go 2 (.facts (.callOY 0 (.agg [.ptr,.slice]) (.tuple []) (.go 2 (.facts .ret)))))))))))))))))))))))) (.go 6 (.cases 116 (.go 8 (.op .str (.check (.facts (.callOY 0 (.agg [.ptr,.slice]) (.tuple [.int .i64,.any]) (.check (.go 11 (.stop [128,0,126,127] 1)))))))) (.go 3 (.facts .ret))))))))))))))))))) (kn:=[Sk ii [.ptr p,.slice a k q] e]) (args:=[.own 0 0,.lv (NdC.lv nd)]) (by kernel_rfl) h hI (fun x hx=>List.all_eq_true.1 (show List.all [.own 0 0,.lv (NdC.lv nd)] (inR 1)=true from rfl) x hx)
theorem e197t(e:TypeId)(R:RR)(X:List Nat)(ii:Nat)(p:(Option LAddr))(a:(Option LAddr))(k:Nat)(q:Cap)(nd:NdC)(n:Int)(H:LHeap)(hI:Inv X H [(Sk ii [(.ptr p),(.slice a k q)] e)] H)
(h:NX H fun i0 H1=>Inv X H [Sk ii [.ptr p,.slice a k q] e,Sk i0 (NdC.cs nd) 72] H1->CL 263 [NdC.lv nd] H1 (.int .i64) fun S2=>∀n3 H4,S2 (I6 n3) H4->Dc (n3<n) (Inv X H [Sk ii [.ptr p,.slice a k q] e,Sk i0 (NdC.cs nd) 72] H4->∃S5 Y,CallL cfg 160 [.ptr (some (Lk ii 2 0)),.int .u8 40] H4 S5/\((∀v H',S5 v H'->PresX (ii::Y) H4 H'/\(hasSh .any v/\(∃cs,hasSh (.agg [.ptr,.slice]) (.agg cs)/\(List.length cs=2/\H'.get ii=some (Slot.obj ⟨ii,cs,e⟩)))))/\((∀i∈Y,okId X H [Sk ii [.ptr p,.slice a k q] e,Sk i0 (NdC.cs nd) 72] i)/\(∀v6 p7 a8 l9 c10 H11,S5 v6 H11->H11.get ii=some (Slot.obj (Sk ii [.ptr p7,.slice a8 l9 c10] e))->Inv X H [Sk ii [.ptr p7,.slice a8 l9 c10] e,Sk i0 (NdC.cs nd) 72] H11->∃S12 Y,CallL cfg 111 [.ptr (some (Lk ii 2 0)),NdC.lv nd] H11 S12/\((∀v H',S12 v H'->PresX (ii::Y) H11 H'/\(hasSh (.tuple []) v/\(∃cs,hasSh (.agg [.ptr,.slice]) (.agg cs)/\(List.length cs=2/\H'.get ii=some (Slot.obj ⟨ii,cs,e⟩)))))/\((∀i∈Y,okId X H [Sk ii [.ptr p7,.slice a8 l9 c10] e,Sk i0 (NdC.cs nd) 72] i)/\(∀p13 a14 l15 c16 H17,S12 (.tuple []) H17->H17.get ii=some (Slot.obj (Sk ii [.ptr p13,.slice a14 l15 c16] e))->Inv X H [Sk ii [.ptr p13,.slice a14 l15 c16] e,Sk i0 (NdC.cs nd) 72] H17->∃S18 Y,CallL cfg 160 [.ptr (some (Lk ii 2 0)),.int .u8 41] H17 S18/\((∀v H',S18 v H'->PresX (ii::Y) H17 H'/\(hasSh .any v/\(∃cs,hasSh (.agg [.ptr,.slice]) (.agg cs)/\(List.length cs=2/\H'.get ii=some (Slot.obj ⟨ii,cs,e⟩)))))/\((∀i∈Y,okId X H [Sk ii [.ptr p13,.slice a14 l15 c16] e,Sk i0 (NdC.cs nd) 72] i)/\(∀v19 p20 a21 l22 c23 H24,S18 v19 H24->H24.get ii=some (Slot.obj (Sk ii [.ptr p20,.slice a21 l22 c23] e))->RX X H [Sk ii [.ptr p20,.slice a21 l22 c23] e,Sk i0 (NdC.cs nd) 72] H24 R (.tuple []))))))))))) (Inv X H [Sk ii [.ptr p,.slice a k q] e,Sk i0 (NdC.cs nd) 72] H4->∃S25 Y,CallL cfg 111 [.ptr (some (Lk ii 2 0)),NdC.lv nd] H4 S25/\((∀v H',S25 v H'->PresX (ii::Y) H4 H'/\(hasSh (.tuple []) v/\(∃cs,hasSh (.agg [.ptr,.slice]) (.agg cs)/\(List.length cs=2/\H'.get ii=some (Slot.obj ⟨ii,cs,e⟩)))))/\((∀i∈Y,okId X H [Sk ii [.ptr p,.slice a k q] e,Sk i0 (NdC.cs nd) 72] i)/\(∀p26 a27 l28 c29 H30,S25 (.tuple []) H30->H30.get ii=some (Slot.obj (Sk ii [.ptr p26,.slice a27 l28 c29] e))->RX X H [Sk ii [.ptr p26,.slice a27 l28 c29] e,Sk i0 (NdC.cs nd) 72] H30 R (.tuple [])))))):
 CallL cfg 197 [.ptr (some (Lk ii 2 0)),NdC.lv nd,I6 n] H R:=call_wt (k:=(.go 2 (.boxP (.go 5 (.facts (.call (.int .i64) (.go 3 (.cases 9 (.go 6 (.facts (.callOY 0 (.agg [.ptr,.slice]) .any (.go 5 (.facts (.callOY 0 (.agg [.ptr,.slice]) (.tuple []) (.go 6 (.facts (.callOY 0 (.agg [.ptr,.slice]) .any (.go 1 (.facts .ret))))))))))) (.go 5 (.facts (.callOY 0 (.agg [.ptr,.slice]) (.tuple []) (.go 1 (.facts .ret))))))))))))) (kn:=[Sk ii [.ptr p,.slice a k q] e]) (args:=[.own 0 0,.lv (NdC.lv nd),.lv (I6 n)]) (by kernel_rfl) h hI (fun x hx=>List.all_eq_true.1 (show List.all [.own 0 0,.lv (NdC.lv nd),.lv (I6 n)] (inR 1)=true from rfl) x hx)
def Fr(a:Option LAddr)(H:LHeap)(a1:Option LAddr):Prop:=∀ad1,a1=some ad1->(∃ad,a=some ad/\ad.id=ad1.id)\/H.next<=ad1.id
def Ne0(i0:Nat)(a:Option LAddr):Prop:=∀ad,a=some ad->ad.id≠i0
theorem Fr.refl(a:Option LAddr)(H:LHeap):Fr a H a:=fun ad h=>.inl ⟨ad,h,rfl⟩
theorem Fr.step{a a1 a2:Option LAddr}{H H1:LHeap}(h:Fr a H a1)(hn:H.next<=H1.next)(k:∀ad',a2=some ad'->(∃ad,a1=some ad/\ad.id=ad'.id)\/H1.next<=ad'.id):Fr a H a2:=fun ad2 h2=>by
 rcases k ad2 h2 with ⟨ad1,e1,e2⟩ |h3
 ·rw [<-e2];exact h ad1 e1
 ·exact .inr (Nat.le_trans hn h3)
theorem Ne0.step{a1 a2:Option LAddr}{H1:LHeap}{i0:Nat}(h:Ne0 i0 a1)(h0:i0<H1.next)(k:∀ad',a2=some ad'->(∃ad,a1=some ad/\ad.id=ad'.id)\/H1.next<=ad'.id):Ne0 i0 a2:=fun ad2 h2=>by
 rcases k ad2 h2 with ⟨ad1,e1,e2⟩ |h3
 ·rw [<-e2];exact h ad1 e1
 ·omega
theorem Fr.inX{a a1:Option LAddr}{H:LHeap}{i:Nat}(h:Fr a H a1):∀j∈idl' a1,j∈i::idl' a\/H.next<=j:=fun j hj=>by
 cases a1 with
 |none=>cases hj
 |some ad1=>
  rw [List.mem_singleton.1 hj];rcases h ad1 rfl with ⟨ad,e1,e2⟩ |h
  ·subst e1;exact .inl (List.mem_cons_of_mem _ (by rw [<-e2];exact List.mem_singleton.2 rfl))
  ·exact .inr h
theorem idl_ne{a:Option LAddr}{i0:Nat}(h:Ne0 i0 a):∀j∈idl' a,j≠i0:=fun j hj=>by
 cases a with
 |none=>cases hj
 |some ad=>rw [List.mem_singleton.1 hj];exact h ad rfl
theorem okId2{X:List Nat}{H0:LHeap}{i i0:Nat}{cs cs0:List LV}{e e0:TypeId}{j:Nat}(h:j∈X\/H0.next<=j)(h1:j≠i)(h2:j≠i0):okId X H0 [⟨i,cs,e⟩,⟨i0,cs0,e0⟩] j:=by
 refine ⟨h,fun k s hs=> ?_⟩
 match k with
 |0=>cases hs;exact fun e=>h1 e.symm
 |1=>cases hs;exact fun e=>h2 e.symm
 |k+2=>simp [nth] at hs
theorem wrG{e:TypeId}{f:FuncId}{args:List LV}{H0 H6:LHeap}{i i0:Nat}{cs0:List LV}{p a a0:Option LAddr}{n:Nat}{q:Cap}{s t:List UInt8}{w:LV}{sh:Sh}(hc:CallL cfg f args H6 (BldEW e i a t w H6))(hw:hasSh sh w)
  (hb:BldE e H6 i p a n q s) (hf:Fr a0 H0 a) (hd:Ne0 i0 a) (h0:i0<H6.next) (hn:H0.next<=H6.next):
  ∃(S:LV->LHeap->Prop) (Y:List Nat),CallL cfg f args H6 S/\(∀v H',S v H'->PresX (i::Y) H6 H'/\hasSh sh v/\∃cs,hasSh (.agg [.ptr,.slice]) (.agg cs)/\List.length cs=2/\H'.get i=some (Slot.obj ⟨i,cs,e⟩))/\
   (∀j∈Y,okId (i::idl' a0) H0 [⟨i,[.ptr p,.slice a n q],e⟩,⟨i0,cs0,72⟩] j)/\
   ∀{w':LV} {p' a':Option LAddr} {n':Nat} {q':Cap} {H':LHeap},S w' H'->H'.get i=some (Slot.obj ⟨i,[.ptr p',.slice a' n' q'],e⟩)->p'=some ⟨i,2,0⟩/\BldE e H' i p' a' n' q' t/\Fr a0 H0 a'/\Ne0 i0 a'/\H6.next<=H'.next:=by
 refine ⟨_,idl' a,hc,BldEW.use hw,fun j hj=>okId2 (hf.inX j hj) (idl_ne (fun ad h=>hb.ne ad h) j hj) (idl_ne hd j hj),?_⟩;rintro w' p' a' n' q' H' ⟨_,hp,a2,n2,q2,hb2,hr2⟩ hg;obtain ⟨rfl,rfl,rfl,rfl⟩:=box_eq hg hb2.get;exact ⟨rfl,hb2,hf.step hn hr2,hd.step h0 hr2,hp.next⟩
theorem wrG1{e:TypeId}{f:FuncId}{args:List LV}{H0 H6:LHeap}{i:Nat}{p a a0:Option LAddr}{n:Nat}{q:Cap}{s t:List UInt8}{w:LV}{sh:Sh}(hc:CallL cfg f args H6 (BldEW e i a t w H6))(hw:hasSh sh w)
  (hb:BldE e H6 i p a n q s) (hf:Fr a0 H0 a) (hn:H0.next<=H6.next):
  ∃(S:LV->LHeap->Prop) (Y:List Nat),CallL cfg f args H6 S/\(∀v H',S v H'->PresX (i::Y) H6 H'/\hasSh sh v/\∃cs,hasSh (.agg [.ptr,.slice]) (.agg cs)/\List.length cs=2/\H'.get i=some (Slot.obj ⟨i,cs,e⟩))/\
   (∀j∈Y,okId (i::idl' a0) H0 [⟨i,[.ptr p,.slice a n q],e⟩] j)/\
   ∀{w':LV} {p' a':Option LAddr} {n':Nat} {q':Cap} {H':LHeap},S w' H'->H'.get i=some (Slot.obj ⟨i,[.ptr p',.slice a' n' q'],e⟩)->p'=some ⟨i,2,0⟩/\BldE e H' i p' a' n' q' t/\Fr a0 H0 a'/\H6.next<=H'.next:=by
 refine ⟨_,idl' a,hc,BldEW.use hw,fun j hj=>okId_box' (hf.inX j hj) (idl_ne (fun ad h=>hb.ne ad h) j hj),?_⟩;rintro w' p' a' n' q' H' ⟨_,hp,a2,n2,q2,hb2,hr2⟩ hg;obtain ⟨rfl,rfl,rfl,rfl⟩:=box_eq hg hb2.get;exact ⟨rfl,hb2,hf.step hn hr2,hp.next⟩
structure Old (B:Nat) (i:Nat) (a:Option LAddr):Prop where
 box:B<=i
 row:∀ad,a=some ad->B<=ad.id
theorem Old.out{B i:Nat}{a:Option LAddr}(h:Old B i a):∀j,j<B->j∉i::idl' a:=fun j hj hm=>by
 rcases List.mem_cons.1 hm with rfl |hm
 ·have:=h.box;omega
 ·cases a with
  |none=>cases hm
  |some ad=>rw [List.mem_singleton.1 hm] at hj;have:=h.row ad rfl;omega
theorem Old.next{B i:Nat}{a a1:Option LAddr}{H:LHeap}(h:Old B i a)(hi:i<H.next)(hf:Fr a H a1):Old B i a1:=⟨h.box,fun ad1 h1=>by
 rcases hf ad1 h1 with ⟨ad,e1,e2⟩ |h2
 ·rw [<-e2];exact h.row ad e1
 ·have:=h.box;omega⟩
theorem NdAt.old{H H':LHeap}{N:Nd}{B i:Nat}{a:Option LAddr}(h:NdAt H N)(hB:NdIds (·<B) N)(ho:Old B i a)(p:PresX (i::idl' a) H H'):NdAt H' N:=
 NdAt.onY p (NdIds.mono (fun j hj=>ho.out j hj) hB) h
def PrC(N:Nd):Prop:=∀(e:TypeId),(e=162\/e=164)->∀(H:LHeap) (i:Nat) (p a:Option LAddr) (n:Nat) (q:Cap) (s:List UInt8) (B:Nat),BldE e H i p a n q s->NdAt H N->NdIds (·<B) N->Old B i a->s.length+(txT N).length<=1000000000->
 CallL cfg 111 [.ptr (some ⟨i,2,0⟩),N.root.lv] H (BldEW e i a (s++txT N) (.tuple []) H)
theorem q263(x:NdC)(H:LHeap):CallL cfg 263 [x.lv] H (Ret (.int .i64 (strN x)) H):=by
 refine e263t _ x H fun i1 H2=>⟨fun k6 hI=>⟨_,s198 x.s H2,Ret.use ⟨_,rfl⟩,fun n4 H5 ⟨e,_⟩ hI=>⟨?_,hI.pres⟩⟩,fun k6=>⟨fun k5=>⟨fun hs hI=>⟨?_,hI.pres⟩,fun hs hI=>⟨?_,hI.pres⟩⟩,fun k5 hI=>⟨?_,hI.pres⟩⟩⟩
 all_goals
  first |rw [e] |skip
  unfold strN;simp at k6
 ·rw [if_pos k6]
 ·simp at k5 hs;rw [if_neg k6,if_pos ⟨k5,hs⟩]
 ·simp at k5 hs;rw [if_neg k6,if_neg (fun h=>hs h.2)]
 ·simp at k5;rw [if_neg k6,if_neg (fun h=>k5 h.1)]
theorem bld_on0{e:TypeId}{H H':LHeap}{i:Nat}{p a:Option LAddr}{n:Nat}{q:Cap}{s:List UInt8}(h:BldE e H i p a n q s)(k:PresX [] H H'):BldE e H' i p a n q s:=h.on k (by simp) (fun _ _=>by simp)
theorem ne0_new{e:TypeId}{H:LHeap}{i:Nat}{p a:Option LAddr}{n:Nat}{q:Cap}{s:List UInt8}(h:BldE e H i p a n q s){i0:Nat}(hi:H.next<=i0):Ne0 i0 a:=fun ad he=>by
 subst he;have:=h.row.id;omega
theorem bw_fin{e:TypeId}{i:Nat}{a p' a':Option LAddr}{n':Nat}{q':Cap}{H H':LHeap}{kn:List Slot}{t u:List UInt8}(hI:Inv (i::idl' a) H kn H')(hb:BldE e H' i p' a' n' q' t)(hp:p'=some ⟨i,2,0⟩)(hf:Fr a H a')(hu:t=u):BldEW e i a u (.tuple []) H (.tuple []) H':=by
 subst hp;subst hu;exact ⟨rfl,hI.pres,a',n',q',hb,hf⟩
theorem q197(N:Nd)(hP:PrC N)(k:Int)(e:TypeId)(he:e=162\/e=164)(H:LHeap)(i:Nat)(p a:Option LAddr)(n:Nat)(q:Cap)(s:List UInt8)(B:Nat)(hb:BldE e H i p a n q s)(hN:NdAt H N)(hB:NdIds (·<B) N)(ho:Old B i a)(hl:s.length+(parT (strN N.root<k) (txT N)).length<=1000000000):
  CallL cfg 197 [.ptr (some ⟨i,2,0⟩),N.root.lv,.int .i64 k] H (BldEW e i a (s++parT (strN N.root<k) (txT N)) (.tuple []) H):=by
 refine e197t e _ (i::idl' a) i p a n q N.root k H (inv_box' hb.lt hb.get (by simp)) fun i0 H1 hi0 p1 hI1=>⟨_,q263 N.root H1,Ret.use ⟨_,rfl⟩,fun n3 H4 ⟨e3,p4⟩=> ?_⟩;have e3:n3=strN N.root:=by cases e3;rfl
 subst e3;have hb4:=bld_on0 hb (p1.trans p4 (fun j hj=>by cases hj));have h0:i0<H4.next:=Nat.lt_of_lt_of_le (hI1.slot 1 _ rfl).1 p4.next;have hn4:H.next<=H4.next:=Nat.le_trans p1.next p4.next;have hL:=parT_len (strN N.root<k) (txT N);refine ⟨fun h hI=> ?_,fun h hI=> ?_⟩
 ·have hl:s.length+(txT N).length+2<=1000000000:=by
   unfold parT at hl;rw [if_pos (by simpa using h)] at hl;simp at hl;omega
  obtain ⟨S,Y,c1,c2,c3,c4⟩:=wrG (cs0:=NdC.cs N.root) (sh:=.any) (g160 he i 40 H4 hb4 (by omega)) ⟨_,rfl⟩ hb4 (Fr.refl a H) (ne0_new hb hi0) h0 hn4;refine ⟨S,Y,c1,c2,c3,fun v6 p7 a8 l9 c10 H11 hs hg hI11=> ?_⟩;obtain ⟨_,hb11,hf11,hd11,hn11⟩:=c4 hs hg;have ho11:=ho.next hb.lt hf11;obtain ⟨S,Y,d1,d2,d3,d4⟩:=wrG (cs0:=NdC.cs N.root) (sh:=.tuple []) (hP e he H11 i _ _ _ _ _ B hb11 (hN.old hB ho hI11.pres) hB ho11 (by simp;omega)) rfl hb11 hf11 hd11 (by omega) (by omega);refine ⟨S,Y,d1,d2,d3,fun p13 a14 l15 c16 H17 hs hg hI17=> ?_⟩;obtain ⟨_,hb17,hf17,hd17,hn17⟩:=d4 hs hg;obtain ⟨S,Y,f1,f2,f3,f4⟩:=wrG (cs0:=NdC.cs N.root) (sh:=.any) (g160 he i 41 H17 hb17 (by simp;omega)) ⟨_,rfl⟩ hb17 hf17 hd17 (by omega) (by omega);refine ⟨S,Y,f1,f2,f3,fun v19 p20 a21 l22 c23 H24 hs hg hI24=> ?_⟩;obtain ⟨hp24,hb24,hf24,_⟩:=f4 hs hg;refine bw_fin hI24 hb24 hp24 hf24 ?_;unfold parT;rw [if_pos (by simpa using h)];simp
 ·obtain ⟨S,Y,c1,c2,c3,c4⟩:=wrG (cs0:=NdC.cs N.root) (sh:=.tuple []) (hP e he H4 i _ _ _ _ _ B hb4 (hN.old hB ho hI.pres) hB ho (by omega)) rfl hb4 (Fr.refl a H) (ne0_new hb hi0) h0 hn4;refine ⟨S,Y,c1,c2,c3,fun p26 a27 l28 c29 H30 hs hg hI30=> ?_⟩;obtain ⟨hp30,hb30,hf30,_⟩:=c4 hs hg;refine bw_fin hI30 hb30 hp30 hf30 ?_;unfold parT;rw [if_neg (by simpa using h)]
theorem load72{H0 H:LHeap}{a:Option LAddr}{k:Nat}{n:Nd}{Y:List Nat}(h1:(adr a).id<H0.next)(h2:(adr a).id∉Y)(h3:loadT cfg.P H0 72 ⟨(adr a).id,(adr a).ver,(adr a).off+k⟩=some n.root.lv)(p:PresX Y H0 H):loadT cfg.P H 72 ⟨(adr a).id,(adr a).ver,(adr a).off+k⟩=some n.root.lv:=
 p.load (a:=⟨(adr a).id,(adr a).ver,(adr a).off+k⟩) h1 h2 h3
theorem NdsAt.ld:∀{H:LHeap} {l:List Nd} {a:Option LAddr} {i:Nat},NdsAt H l a i->∀n∈l,NdAt H n
 |H,m::l,a,i,h,n,hn=>by
  unfold NdsAt at h;rcases List.mem_cons.1 hn with rfl |hn
  ·exact h.2.1
  ·exact NdsAt.ld h.2.2 n hn
theorem NdsIds.ld{P:Nat->Prop}:∀{l:List Nd},NdsIds P l->∀n∈l,NdIds P n
 |m::l,h,n,hn=>by
  unfold NdsIds at h;rcases List.mem_cons.1 hn with rfl |hn
  ·exact h.1
  ·exact NdsIds.ld h.2 n hn
theorem rest_args(l:List Nd):(restT l).length<=(argsT l).length+1:=by
 cases l with
 |nil=>rw [restT];simp
 |cons m l=>rw [restT,argsT];simp
theorem loop111{e:TypeId}(he:e=162\/e=164)(H0:LHeap)(i:Nat)(a0:Option LAddr)(hi0:i<H0.next)(B:Nat)(ho:Old B i a0)(x:NdC)(l:List Nd)(hk:l.length=x.argsL)(hsm:x.argsL<=1000000000)(hAB:l=[]\/(adr x.argsA).id<B):∀(C A:List Nd) (d:Nat->LV) (p a:Option LAddr) (n:Nat) (q:Cap) (s:List UInt8) (H:LHeap),A++C=l->
  (∀m∈C,PrC m)->NdsAt H0 C x.argsA A.length->(∀m∈C,NdAt H0 m/\NdIds (·<B) m)->BldE e H i p a n q s->Fr a0 H0 a->s.length+(restT C).length<=1000000000->∀R:List UInt8,R=s++((if A=[] then argsT C else restT C)++[41])->
  GoesT cfg 111 (BldEW e i a0 R (.tuple []) H0) (i::idl' a0) H0 [⟨i,[.ptr p,.slice a n q],e⟩] (L111t_0 d (A.length:Int) x.argsA x.argsL x.argsQ (x.argsL:Int)) (loopAt cfg 111 0) H
 |[],A,d,p,a,n,q,s,H,hA,hP,hC,hM,hb,hf,hl,R,hR=>by
  intro hin hI;have:A.length=x.argsL:=by rw [<-hk,<-hA];simp
  refine g111t_0 e _ _ H0 d _ _ _ _ _ i p a n q H ⟨fun h=>absurd h (by simp;omega),fun _ hI=> ?_⟩ hin hI;obtain ⟨S,Y,c1,c2,c3,c4⟩:=wrG1 (sh:=.any) (g160 he i 41 H hb (by omega)) ⟨_,rfl⟩ hb hf hI.pres.next;refine ⟨S,Y,c1,c2,c3,fun v38 p39 a40 l41 c42 H43 hs hg hI43=> ?_⟩;obtain ⟨hp43,hb43,hf43,_⟩:=c4 hs hg;refine bw_fin hI43 hb43 hp43 hf43 ?_;have e:(if A=[] then argsT [] else restT [])=[]:=by split<;>simp [argsT,restT]
  rw [hR,e];rfl
 |m::C,A,d,p,a,n,q,s,H,hA,hP,hC,hM,hb,hf,hl,R,hR=>by
  intro hin hI;have hlen:A.length+(C.length+1)=x.argsL:=by rw [<-hk,<-hA];simp
  have hne:l≠[]:=by rw [<-hA];simp
  have hid:(adr x.argsA).id<B:=hAB.resolve_left hne;unfold NdsAt at hC;obtain ⟨⟨n1,n2,n3⟩,n4,n5⟩:=hC;have hrest:(restT (m::C)).length=1+(txT m).length+(restT C).length:=by rw [restT];simp;omega
  obtain ⟨m1,m2⟩:=hM m List.mem_cons_self;have hw:lwrap .i64 ((A.length:Int)+1)=(((A++[m]).length:Nat):Int):=by rw [lwrap_small (by omega) (by omega)];simp
  have next:=fun (d:Nat->LV) (p a:Option LAddr) (n:Nat) (q:Cap) (s':List UInt8) (H:LHeap) (hb':BldE e H i p a n q s') (hf':Fr a0 H0 a) (hl':s'.length+(restT C).length<=1000000000) (hR':R=s'++(restT C++[41]))=>
   loop111 he H0 i a0 hi0 B ho x l hk hsm hAB C (A++[m]) d p a n q s' H (by rw [<-hA];simp) (fun n hn=>hP n (List.mem_cons_of_mem _ hn)) (by simpa using n5) (fun n hn=>hM n (List.mem_cons_of_mem _ hn)) hb' hf' hl' R (by rw [if_neg (by simp)];exact hR')
  have hld:=fun {H:LHeap} (pp:PresX (i::idl' a0) H0 H)=>load72 (k:=A.length*18) n2 (ho.out _ hid) n3 pp;refine g111t_0 e _ _ H0 d _ _ _ _ _ i p a n q H ⟨fun _=>⟨⟨by omega,by omega,n1⟩,fun hI=>⟨m.root,?ld,fun i13 H14 hi13 p14 H15 p15=>⟨fun h hI15=> ?c1,fun h hI15=> ?c2⟩⟩⟩,fun h=>absurd h (by simp;omega)⟩ hin hI
  case ld=>
   simp only [Int.toNat_natCast];exact hld hI.pres
  case c1=>
   have hne':A≠[]:=by rintro rfl;simp at h
   rw [if_neg hne',restT] at hR;have hb15:BldE e H15 i p a n q s:=(bld_on0 hb p14).on p15 (by have:=hb.lt;simp;omega) (fun ad he=>by have:=ne0_new hb hi13 ad he;simpa using this);have h0:i13<H15.next:=(hI15.slot 1 _ rfl).1;obtain ⟨S,Y,c1,c2,c3,c4⟩:=wrG (cs0:=NdC.cs m.root) (sh:=.any) (g160 he i 44 H15 hb15 (by omega)) ⟨_,rfl⟩ hb15 hf (ne0_new hb hi13) h0 hI15.pres.next;refine ⟨S,Y,c1,c2,c3,fun v17 p18 a19 l20 c21 H22 hs hg hI22=> ?_⟩;obtain ⟨_,hb22,hf22,hd22,hn22⟩:=c4 hs hg;obtain ⟨S,Y,d1,d2,d3,d4⟩:=wrG (cs0:=NdC.cs m.root) (sh:=.tuple []) (hP m List.mem_cons_self e he H22 i _ _ _ _ _ B hb22 (m1.old m2 ho hI22.pres) m2 (ho.next hi0 hf22) (by simp;omega)) rfl hb22 hf22 hd22 (by omega) hI22.pres.next;refine ⟨S,Y,d1,d2,d3,fun p24 a25 l26 c27 H28 hs hg d29=> ?_⟩;obtain ⟨_,hb28,hf28,_⟩:=d4 hs hg;rw [hw];exact next d29 _ _ _ _ _ H28 hb28 hf28 (by simp;omega) (by rw [hR];simp)
  case c2=>
   have hnil:A=[]:=by simpa using h
   rw [if_pos hnil,argsT] at hR;have hb15:BldE e H15 i p a n q s:=(bld_on0 hb p14).on p15 (by have:=hb.lt;simp;omega) (fun ad he=>by have:=ne0_new hb hi13 ad he;simpa using this);have h0:i13<H15.next:=(hI15.slot 1 _ rfl).1;obtain ⟨S,Y,d1,d2,d3,d4⟩:=wrG (cs0:=NdC.cs m.root) (sh:=.tuple []) (hP m List.mem_cons_self e he H15 i _ _ _ _ _ B hb15 (m1.old m2 ho hI15.pres) m2 (ho.next hi0 hf) (by omega)) rfl hb15 hf (ne0_new hb hi13) h0 hI15.pres.next;refine ⟨S,Y,d1,d2,d3,fun p31 a32 l33 c34 H35 hs hg d36=> ?_⟩;obtain ⟨_,hb35,hf35,_⟩:=d4 hs hg;rw [hw];exact next d36 _ _ _ _ _ H35 hb35 hf35 (by simp;omega) (by rw [hR];simp)
theorem tok_row(t:TokC)(H1:LHeap):loadT cfg.P (H1.push (.cells t.cs 124 9 9 .none false true)) 124 ⟨H1.next,9,0⟩=some t.lv:=by
 unfold loadT;rw [show isAggT cfg.P 124=some true by kernel_rfl,show sizeOfT cfg.P 124=some 9 by kernel_rfl];unfold loadN;simp only [LHeap.get_push,if_true];rfl
theorem fin161{e:TypeId}(he:e=162\/e=164){H H6:LHeap}{i i0:Nat}{cs0:List LV}{p a:Option LAddr}{n:Nat}{q:Cap}{s:List UInt8}(t u:List UInt8)(hu:s++t=u)(hb:BldE e H6 i p a n q s)(hd:Ne0 i0 a)(h0:i0<H6.next)(hn:H.next<=H6.next)(hl:s.length+t.length<=1000000000):
  ∃(S:LV->LHeap->Prop) (Y:List Nat),CallL cfg 161 [.ptr (some ⟨i,2,0⟩),.str t] H6 S/\(∀v H',S v H'->PresX (i::Y) H6 H'/\hasSh (.tuple [.int .i64,.any]) v/\∃cs,hasSh (.agg [.ptr,.slice]) (.agg cs)/\List.length cs=2/\H'.get i=some (Slot.obj ⟨i,cs,e⟩))/\
   (∀j∈Y,okId (i::idl' a) H [⟨i,[.ptr p,.slice a n q],e⟩,⟨i0,cs0,72⟩] j)/\
   ∀(n9:Int) (v10:LV) (p11 a12:Option LAddr) (l13:Nat) (c14:Cap) (H15:LHeap),S (.tuple [.int .i64 n9,v10]) H15->H15.get i=some (Slot.obj ⟨i,[.ptr p11,.slice a12 l13 c14],e⟩)->Inv (i::idl' a) H [⟨i,[.ptr p11,.slice a12 l13 c14],e⟩,⟨i0,cs0,72⟩] H15->BldEW e i a u (.tuple []) H (.tuple []) H15:=by
 obtain ⟨S,Y,c1,c2,c3,c4⟩:=wrG (cs0:=cs0) (sh:=.tuple [.int .i64,.any]) (g161 he i t H6 hb hl) (by exact ⟨_,_,rfl⟩) hb (Fr.refl a H) hd h0 hn;refine ⟨S,Y,c1,c2,c3,fun n9 v10 p11 a12 l13 c14 H15 hs hg hI=> ?_⟩;obtain ⟨hp,hb',hf',_⟩:=c4 hs hg;exact bw_fin hI hb' hp hf' hu
theorem q111(N:Nd)(hO:OkT N)(hS:NdSm N)(hsz:(preT N).length<=400):PrC N:=by
 match N,hO,hS,hsz with
 | .mk x l,hO,hS,hsz=>
  intro e he H i p a n q s B hb hN hB ho hl;have hN':=hN;unfold NdAt at hN';have hB':=hB;unfold NdIds at hB';have hO':=hO.par;have hS':=hS;unfold NdSm at hS';have hk:=sh_kind hO'.1;have hpre:(preT (.mk x l)).length=(preTs l).length+1:=by rw [preT];rfl
  have kid:∀m∈l,PrC m:=fun m hm=>q111 m (hO'.2.mem m hm) (NdSm.mem' hS'.2 m hm) (by have:=pre_mem hm;omega);have nk:∀{k:Int},(x.kind==k)=true->x.kind=k:=fun h=>by simpa using h
  have nf:∀{k:Int},(x.kind==k)=false->¬x.kind=k:=fun h=>by simpa using h
  show CallL cfg 111 [.ptr (some ⟨i,2,0⟩),x.lv] H _;refine e111t e _ (i::idl' a) i p a n q x H (inv_box' hb.lt hb.get (by simp)) fun i0 H1 hi0 p1=> ?_;have hb1:=bld_on0 hb p1;have hd:=ne0_new hb hi0;have fr:=Fr.refl a H;refine ⟨fun k1=>⟨fun v2 H2 e2=>⟨rfl,fun hI=> ?_⟩,fun v2=>⟨rfl,fun hI=> ?_⟩⟩,fun k1=>⟨fun k2=>⟨rfl,fun hI=> ?_⟩,fun k2=>⟨fun k3=>⟨rfl,fun hI=> ?_⟩,fun k3=>⟨fun k4 H59 e59=>⟨rfl,fun hI=> ?_⟩,fun k4=>⟨fun k5=> ?_,fun k5=>⟨fun k6 hI=> ?_,fun k6=>⟨fun k7=> ?_,fun k7=> ?_⟩⟩⟩⟩⟩⟩⟩
  ·have ht:txT (.mk x l)=quoteT x.valueS:=by rw [txT,if_pos (nk k1),if_pos (by simpa using v2)]
   rw [ht] at hl |-;have hv:=(sh_val hO'.1 (nk k1)).1 (by simpa using v2);have p2:PresX [] H1 H2:=by rw [e2];exact .push _ _ _
   refine ⟨_,q78 ⟨2,0,x.valueS,[],[],0,0,false,false⟩ (quoteT x.valueS) H1.next H2 (by rw [e2];exact tok_row ⟨2,0,x.valueS,[],[],0,0,false,false⟩ H1) (by rw [e2];exact Nat.lt_succ_self _) (fun H=>q162s _ H rfl (by simpa using (by omega:x.valueS.length<=1000))) (by have:=quote_len x.valueS;omega),Ret.use ⟨_,rfl⟩,fun s5 H6 ⟨e5,p6⟩ hI6=> ?_⟩;cases e5;exact fin161 he _ _ rfl (bld_on0 hb1 (p2.trans p6 (fun j hj=>by cases hj))) hd (hI6.slot 1 _ rfl).1 hI6.pres.next (by omega)
  ·have ht:txT (.mk x l)=valTx (valO x):=by rw [txT,if_pos (nk k1),if_neg (by simpa using v2)]
   rw [ht] at hl |-;have hv:=(sh_val hO'.1 (nk k1)).2 (by simpa using v2);refine ⟨_,q194 (valO x) H1 hv,Ret.use ⟨_,rfl⟩,fun s5 H6 ⟨e5,p6⟩ hI6=> ?_⟩;cases e5;exact fin161 he _ _ rfl (bld_on0 hb1 p6) hd (hI6.slot 1 _ rfl).1 hI6.pres.next (by omega)
  ·have ht:txT (.mk x l)=refTx (refO x):=by rw [txT,if_neg (nf k1),if_pos (nk k2)]
   rw [ht] at hl |-;refine ⟨_,q195 (refO x) H1,Ret.use ⟨_,rfl⟩,fun s5 H6 ⟨e5,p6⟩ hI6=> ?_⟩;cases e5;exact fin161 he _ _ rfl (bld_on0 hb1 p6) hd (hI6.slot 1 _ rfl).1 hI6.pres.next (by omega)
  ·have ht:txT (.mk x l)=areaTx (refO x) (toO x):=by rw [txT,if_neg (nf k1),if_neg (nf k2),if_pos (nk k3)]
   rw [ht] at hl |-;refine ⟨_,q196 (refO x) (toO x) H1,Ret.use ⟨_,rfl⟩,fun s5 H6 ⟨e5,p6⟩ hI6=> ?_⟩;cases e5;exact fin161 he _ _ rfl (bld_on0 hb1 p6) hd (hI6.slot 1 _ rfl).1 hI6.pres.next (by omega)
  ·have ht:txT (.mk x l)=wordTx x.refBook x.s:=by rw [txT,if_neg (nf k1),if_neg (nf k2),if_neg (nf k3),if_pos (nk k4)]
   rw [ht] at hl |-;have hw:=sh_word hO'.1 (nk k4);have p2:PresX [] H1 H59:=by rw [e59];exact .push _ _ _
   refine ⟨_,q78 ⟨4,0,x.s,x.refBook,x.refSheet,x.refRow,x.refCol,x.refFixRow,x.refFixCol⟩ (wordTx x.refBook x.s) H1.next H59 (by rw [e59];exact tok_row ⟨4,0,x.s,x.refBook,x.refSheet,x.refRow,x.refCol,x.refFixRow,x.refFixCol⟩ H1) (by rw [e59];exact Nat.lt_succ_self _) (fun H=>q162w _ H rfl (by simpa using (by omega:x.s.length<=1000)) (by simpa using (by omega:x.refBook.length<=1000))) (by have:=word_len x.refBook x.s;omega),Ret.use ⟨_,rfl⟩,fun s5 H6 ⟨e5,p6⟩ hI6=> ?_⟩;cases e5;exact fin161 he _ _ rfl (bld_on0 hb1 (p2.trans p6 (fun j hj=>by cases hj))) hd (hI6.slot 1 _ rfl).1 hI6.pres.next (by omega)
  ·have hu:=sh_un hO'.1 (nk k5);have hl1:l.length=1:=by omega
   obtain ⟨m,rfl⟩:∃m,l=[m]:=List.length_eq_one_iff.1 hl1;have hid:(adr x.argsA).id<B:=hB'.1.resolve_left (by simp);have hA:=hN'.2.2;unfold NdsAt at hA;obtain ⟨⟨m1,m2,m3⟩,m4,_⟩:=hA;have mB:=hB'.2.ld m List.mem_cons_self;have hld:=fun {H6:LHeap} (pp:PresX (i::idl' a) H H6)=>load72 (k:=0) m2 (ho.out _ hid) m3 pp;have hp:=fun k:Int=>parT_len (strN m.root<k) (txT m);refine ⟨fun hs hI=> ?_,fun hs=>⟨⟨by omega,by omega,m1⟩,fun hI=>⟨m.root,hld hI.pres,fun hI=> ?_⟩⟩⟩
   ·have ht:txT (.mk x [m])=45::parT (strN m.root<6) (txT m):=by rw [txT,if_neg (nf k1),if_neg (nf k2),if_neg (nf k3),if_neg (nf k4),if_pos (nk k5),if_pos (by simpa using hs),fstT]
    rw [ht] at hl |-;have hq:=hp 6;simp only [List.length_cons] at hl;obtain ⟨S,Y,c1,c2,c3,c4⟩:=wrG (cs0:=x.cs) (sh:=.any) (g160 he i 45 H1 hb1 (by omega)) ⟨_,rfl⟩ hb1 fr hd (hI.slot 1 _ rfl).1 p1.next;refine ⟨S,Y,c1,c2,c3,fun v75 p76 a77 l78 c79 H80 hs hg=>⟨⟨by omega,by omega,m1⟩,fun hI80=>⟨m.root,hld hI80.pres,fun hI80=> ?_⟩⟩⟩;obtain ⟨_,hb80,hf80,hd80,hn80⟩:=c4 hs hg;obtain ⟨S,Y,d1,d2,d3,d4⟩:=wrG (cs0:=x.cs) (sh:=.tuple []) (q197 m (kid m List.mem_cons_self) 6 e he H80 i _ _ _ _ _ B hb80 (m4.old mB ho hI80.pres) mB (ho.next hb.lt hf80) (by simp;omega)) rfl hb80 hf80 hd80 (hI80.slot 1 _ rfl).1 hI80.pres.next;refine ⟨S,Y,d1,d2,d3,fun p85 a86 l87 c88 H89 hs hg hI89=> ?_⟩;obtain ⟨hp89,hb89,hf89,_⟩:=d4 hs hg;exact bw_fin hI89 hb89 hp89 hf89 (by simp)
   ·have ht:txT (.mk x [m])=parT (strN m.root<7) (txT m)++[37]:=by rw [txT,if_neg (nf k1),if_neg (nf k2),if_neg (nf k3),if_neg (nf k4),if_pos (nk k5),if_neg (by simpa using hs),fstT]
    rw [ht] at hl |-;have hq:=hp 7;simp only [List.length_append,List.length_singleton] at hl;obtain ⟨S,Y,d1,d2,d3,d4⟩:=wrG (cs0:=x.cs) (sh:=.tuple []) (q197 m (kid m List.mem_cons_self) 7 e he H1 i _ _ _ _ _ B hb1 (m4.old mB ho hI.pres) mB ho (by omega)) rfl hb1 fr hd (hI.slot 1 _ rfl).1 p1.next;refine ⟨S,Y,d1,d2,d3,fun p94 a95 l96 c97 H98 hs hg hI98=> ?_⟩;obtain ⟨_,hb98,hf98,hd98,hn98⟩:=d4 hs hg;obtain ⟨S,Y,c1,c2,c3,c4⟩:=wrG (cs0:=x.cs) (sh:=.any) (g160 he i 37 H98 hb98 (by simp;omega)) ⟨_,rfl⟩ hb98 hf98 hd98 (hI98.slot 1 _ rfl).1 hI98.pres.next;refine ⟨S,Y,c1,c2,c3,fun v100 p101 a102 l103 c104 H105 hs hg hI105=> ?_⟩;obtain ⟨hp105,hb105,hf105,_⟩:=c4 hs hg;exact bw_fin hI105 hb105 hp105 hf105 (by simp)
  ·have hbn:=sh_bin hO'.1 (nk k6);have hb5:=binds_le x.s;have hl2:l.length=2:=by omega
   obtain ⟨m,m',rfl⟩:∃m n,l=[m,n]:=by
    match l,hl2 with
    |[m,n],_=>exact ⟨m,n,rfl⟩
   have hid:(adr x.argsA).id<B:=hB'.1.resolve_left (by simp);have hA:=hN'.2.2;unfold NdsAt at hA;obtain ⟨⟨m1,m2,m3⟩,m4,hA⟩:=hA;unfold NdsAt at hA;obtain ⟨⟨n1,n2,n3⟩,n4,_⟩:=hA;have hmm:m∈[m,m']:=List.mem_cons_self;have hnn:m'∈[m,m']:=List.mem_cons_of_mem _ List.mem_cons_self;have mB:=hB'.2.ld m hmm;have nB:=hB'.2.ld m' hnn;have hld:=fun {H6:LHeap} (pp:PresX (i::idl' a) H H6)=>load72 (k:=0) m2 (ho.out _ hid) m3 pp;have hld2:=fun {H6:LHeap} (pp:PresX (i::idl' a) H H6)=>load72 (k:=18) n2 (ho.out _ hid) n3 pp;have ht:txT (.mk x [m,m'])=parT (strN m.root<bindsF x.s) (txT m)++(x.s++parT (strN m'.root<bindsF x.s+1) (txT m')):=by rw [txT,if_neg (nf k1),if_neg (nf k2),if_neg (nf k3),if_neg (nf k4),if_neg (nf k5),if_pos (nk k6),fstT,sndT,fstT]
   rw [ht] at hl |-;simp only [List.length_append] at hl;refine ⟨_,s198 x.s H1,Ret.use ⟨_,rfl⟩,fun n107 H108 ⟨e107,p108⟩=>⟨⟨by omega,by omega,m1⟩,fun hI108=>⟨m.root,hld hI108.pres,fun hI108=> ?_⟩⟩⟩;have e107:n107=bindsF x.s:=by cases e107;rfl
   subst e107;have hb108:=bld_on0 hb1 p108;obtain ⟨S,Y,d1,d2,d3,d4⟩:=wrG (cs0:=x.cs) (sh:=.tuple []) (q197 m (kid m hmm) (bindsF x.s) e he H108 i _ _ _ _ _ B hb108 (m4.old mB ho hI108.pres) mB ho (by omega)) rfl hb108 fr hd (hI108.slot 1 _ rfl).1 hI108.pres.next;refine ⟨S,Y,d1,d2,d3,fun p113 a114 l115 c116 H117 hs hg=>⟨rfl,fun hI117=> ?_⟩⟩;obtain ⟨_,hb117,hf117,hd117,hn117⟩:=d4 hs hg;obtain ⟨S,Y,c1,c2,c3,c4⟩:=wrG (cs0:=x.cs) (sh:=.tuple [.int .i64,.any]) (g161 he i x.s H117 hb117 (by simp;omega)) (by exact ⟨_,_,rfl⟩) hb117 hf117 hd117 (hI117.slot 1 _ rfl).1 hI117.pres.next;refine ⟨S,Y,c1,c2,c3,fun n120 v121 p122 a123 l124 c125 H126 hs hg=>⟨⟨by omega,by omega,n1⟩,fun hI126=>⟨m'.root,hld2 hI126.pres,fun hI126=> ?_⟩⟩⟩;obtain ⟨_,hb126,hf126,hd126,hn126⟩:=c4 hs hg;rw [show lwrap .i64 (bindsF x.s+1)=bindsF x.s+1 from lwrap_small (by omega) (by omega)];obtain ⟨S,Y,f1,f2,f3,f4⟩:=wrG (cs0:=x.cs) (sh:=.tuple []) (q197 m' (kid m' hnn) (bindsF x.s+1) e he H126 i _ _ _ _ _ B hb126 (n4.old nB ho hI126.pres) nB (ho.next hb.lt hf126) (by simp;omega)) rfl hb126 hf126 hd126 (hI126.slot 1 _ rfl).1 hI126.pres.next;refine ⟨S,Y,f1,f2,f3,fun p132 a133 l134 c135 H136 hs hg hI136=> ?_⟩;obtain ⟨hp136,hb136,hf136,_⟩:=f4 hs hg;exact bw_fin hI136 hb136 hp136 hf136 (by simp)
  ·have hc:=sh_call hO'.1 (nk k7);have hr:=rest_len hO'.2;have ht:txT (.mk x l)=x.s++40::(argsT l++[41]):=by rw [txT,if_neg (nf k1),if_neg (nf k2),if_neg (nf k3),if_neg (nf k4),if_neg (nf k5),if_neg (nf k6)]
   rw [ht] at hl |-;refine ⟨by omega,rfl,fun hI=> ?_⟩;obtain ⟨S,Y,c1,c2,c3,c4⟩:=wrG (cs0:=x.cs) (sh:=.tuple [.int .i64,.any]) (g161 he i (x.s++[40]) H1 hb1 (by simp at hl |-;omega)) (by exact ⟨_,_,rfl⟩) hb1 fr hd (hI.slot 1 _ rfl).1 p1.next;refine ⟨S,Y,c1,c2,c3,fun n140 v141 p142 a143 l144 c145 H146 hs hg d148=> ?_⟩;obtain ⟨_,hb146,hf146,_⟩:=c4 hs hg;refine loop111 he H i a hb.lt B ho x l hN'.1 hS'.1 hB'.1 l [] d148 _ _ _ _ _ H146 rfl kid hN'.2.2 (fun m hm=>⟨NdsAt.ld hN'.2.2 m hm,hB'.2.ld m hm⟩) hb146 hf146 ?_ _ ?_
   ·have:=rest_args l;simp at hl |-;omega
   ·rw [if_pos rfl];simp
  ·have:=nf k1;have:=nf k2;have:=nf k3;have:=nf k4;have:=nf k5;have:=nf k6;have:=nf k7
   omega
termination_by SizeOf.sizeOf N
decreasing_by
 have:=List.sizeOf_lt_of_mem hm
 simp_wf
 omega
end Go.Proofs.YtjihhflffkoffaaGreatDoor.Z
