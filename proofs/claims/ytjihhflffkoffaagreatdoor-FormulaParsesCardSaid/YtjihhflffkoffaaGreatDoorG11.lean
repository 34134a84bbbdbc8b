/- Contracts of functions of the program; no condition. -/
import Derived.Test.YtjihhflffkoffaaGreatDoorG0
import Derived.Test.YtjihhflffkoffaaGreatDoorLe
import Derived.Test.YtjihhflffkoffaaGreatDoorG2
import Derived.Test.YtjihhflffkoffaaGreatDoorG3
import Derived.Test.YtjihhflffkoffaaGreatDoorG10
set_option linter.unusedSimpArgs false
set_option linter.unusedVariables false
set_option linter.unusedSectionVars false
set_option linter.unnecessarySimpa false
namespace Go.Proofs.YtjihhflffkoffaaGreatDoor.Z
open Go Go.Lm
set_option maxRecDepth 1000000
set_option maxHeartbeats 0
abbrev qP3_1:List LV:=[I6 0,.str [],I6 0,I6 0,.str [],.str [],.str [],I6 0,I6 0,.bool false,.bool false,.str [],.str [],I6 0,I6 0,.bool false,.bool false,.slice none 0 (.exact 0)]
abbrev qP3_2(i0 i2:Nat):List LV:=[.ptr (some (Lk i0 18 0)),.ptr (some (Lk i2 1 0))]
theorem e54p(R:RR)(s:(List UInt8))(H:LHeap)
 (h:NX H fun i0 H1=>NX H1 fun i2 H3=>Inv [] H [Sk i0 qP3_1 72,Sk i2 [I6 0] 23] H3->CL 18 [.str s] H3 (.tuple [.slice,.int .i64]) fun S4=>∀a5 l6 c7 n8 H9,S4 (.tuple [.slice a5 l6 c7,I6 n8]) H9->PX [i2] H9 fun H10=>Cd (n8 !=0) (([I6 n8]:List LV)=[I6 n8]/\(PX [i0] H10 fun H12=>([I6 n8]:List LV)=[I6 n8]/\(PX [i2] H12 fun H14=>R0 H [Sk i0 qP3_1 72,Sk i2 [I6 n8] 23] H14 R (.tuple [.agg qP3_1,I6 n8])))) (Inv [] H [Sk i0 qP3_1 72,Sk i2 [I6 n8] 23] H10->∃E Pn,(∀cs p,ContG cfg (gF 54 R) cs p->ContG cfg (gD 54 [LDef.mk (LTarget.fn (Fn.func 114) (qP3_2 i0 i2)) []] false E Pn) cs p)/\(NX H10 fun i16 H17=>Inv [] H [Sk i0 qP3_1 72,Sk i2 [I6 n8] 23,Sk i16 [.slice a5 l6 c7] 171] H17->∃S18 S18n Y,CallP cfg 115 [.ptr (some (Lk i16 1 0)),I6 1] H17 S18 S18n/\((∀v H',S18 v H'->PresX (i16::Y) H17 H'/\(hasSh (.cust NdC NdC.lv) v/\(∃cs,hasSh (.agg [.slice]) (.agg cs)/\(List.length cs=1/\H'.get i16=some (Slot.obj ⟨i16,cs,171⟩)))))/\((∀i∈Y,okId [] H [Sk i0 qP3_1 72,Sk i2 [I6 n8] 23,Sk i16 [.slice a5 l6 c7] 171] i)/\((∀v H',S18n v H'->PresX (i16::Y) H17 H'/\(∃cs,List.length cs=1/\H'.get i16=some (Slot.obj ⟨i16,cs,171⟩)))/\((∀v H' cs,S18n v H'->Inv [] H [Sk i0 qP3_1 72,Sk i2 [I6 n8] 23,Sk i16 cs 171] H'->Pn [.str s,.tuple [],.ptr (some (Lk i0 18 0)),.ptr (some (Lk i2 1 0)),.slice a5 l6 c7,.ptr (some (Lk i16 1 0)),.tuple [.slice a5 l6 c7,I6 n8],.str s,.tuple [.slice a5 l6 c7,I6 n8],.slice a5 l6 c7,I6 n8,I6 n8,.bool false,.tuple [],.tuple [],.func (Fn.func 114) [] (qP3_2 i0 i2),.slice a5 l6 c7,.agg [.slice a5 l6 c7],.ptr (some (Lk i16 1 0)),.ptr (some (Lk i16 1 0)),.tuple [],.tuple [],.tuple [],.tuple [],.tuple [],.tuple [],.tuple [],.tuple [],.tuple [],.tuple [],.tuple [],.tuple [],.tuple [],.tuple [],.tuple []] v H')/\(∀x19 a20 l21 c22 H23,S18 (NdC.lv x19) H23->H23.get i16=some (Slot.obj (Sk i16 [.slice a20 l21 c22] 171))->PX [i0] H23 fun H24=>Dc (((l21:Nat):Int)>0) (Inv [] H [Sk i0 (NdC.cs x19) 72,Sk i2 [I6 n8] 23,Sk i16 [.slice a20 l21 c22] 171] H24->Pn [.str s,.tuple [],.ptr (some (Lk i0 18 0)),.ptr (some (Lk i2 1 0)),.slice a5 l6 c7,.ptr (some (Lk i16 1 0)),.tuple [.slice a5 l6 c7,I6 n8],.str s,.tuple [.slice a5 l6 c7,I6 n8],.slice a5 l6 c7,I6 n8,I6 n8,.bool false,.tuple [],.tuple [],.func (Fn.func 114) [] (qP3_2 i0 i2),.slice a5 l6 c7,.agg [.slice a5 l6 c7],.ptr (some (Lk i16 1 0)),.ptr (some (Lk i16 1 0)),NdC.lv x19,.ptr (some (Lk i16 1 0)),.ptr (some (Lk i16 1 0)),.ptr (some (Lk i16 1 0)),.slice a20 l21 c22,I6 ((l21:Nat):Int),.bool (decide (((l21:Nat):Int)>0)),.bool true,.tuple [],.tuple [],.tuple [],.bool true,.agg [],.iface 168 (.agg []),.tuple []] (.iface 168 (.agg [])) H24) (Inv [] H [Sk i0 (NdC.cs x19) 72,Sk i2 [I6 n8] 23,Sk i16 [.slice a20 l21 c22] 171] H24->Kc 50 [NdC.lv x19] H24 fun n26 H27=>Dc (n26>24) (Inv [] H [Sk i0 (NdC.cs x19) 72,Sk i2 [I6 n8] 23,Sk i16 [.slice a20 l21 c22] 171] H27->Pn [.str s,.tuple [],.ptr (some (Lk i0 18 0)),.ptr (some (Lk i2 1 0)),.slice a5 l6 c7,.ptr (some (Lk i16 1 0)),.tuple [.slice a5 l6 c7,I6 n8],.str s,.tuple [.slice a5 l6 c7,I6 n8],.slice a5 l6 c7,I6 n8,I6 n8,.bool false,.tuple [],.tuple [],.func (Fn.func 114) [] (qP3_2 i0 i2),.slice a5 l6 c7,.agg [.slice a5 l6 c7],.ptr (some (Lk i16 1 0)),.ptr (some (Lk i16 1 0)),NdC.lv x19,.ptr (some (Lk i16 1 0)),.ptr (some (Lk i16 1 0)),.ptr (some (Lk i16 1 0)),.slice a20 l21 c22,I6 ((l21:Nat):Int),.bool (decide (((l21:Nat):Int)>0)),.bool false,NdC.lv x19,I6 n26,.bool (decide (n26>24)),.bool true,.agg [],.iface 168 (.agg []),.tuple []] (.iface 168 (.agg [])) H27) (PX [i0] H27 fun H28=>PX [i2] H28 fun H29=>Inv [] H [Sk i0 (NdC.cs x19) 72,Sk i2 [I6 0] 23,Sk i16 [.slice a20 l21 c22] 171] H29->E [.str s,.tuple [],.ptr (some (Lk i0 18 0)),.ptr (some (Lk i2 1 0)),.slice a5 l6 c7,.ptr (some (Lk i16 1 0)),.tuple [.slice a5 l6 c7,I6 n8],.str s,.tuple [.slice a5 l6 c7,I6 n8],.slice a5 l6 c7,I6 n8,I6 n8,.bool false,.tuple [],.tuple [],.func (Fn.func 114) [] (qP3_2 i0 i2),.slice a5 l6 c7,.agg [.slice a5 l6 c7],.ptr (some (Lk i16 1 0)),.ptr (some (Lk i16 1 0)),NdC.lv x19,.ptr (some (Lk i16 1 0)),.ptr (some (Lk i16 1 0)),.ptr (some (Lk i16 1 0)),.slice a20 l21 c22,I6 ((l21:Nat):Int),.bool (decide (((l21:Nat):Int)>0)),.bool false,NdC.lv x19,I6 n26,.bool (decide (n26>24)),.bool false,.tuple [],.tuple [],NdC.lv x19] H29)))))))))):
 CallL cfg 54 [.str s] H R:=call_wt0 (k:=(.go 2 (.boxP (.boxP (.go 4 (.facts (.call (.tuple [.slice,.int .i64]) (.go 4 (.putP (.go 7 (.cases 12 (.go 5 (.check (.putP (.check (.putP (.check (.go 1 (.facts .ret)))))))) (.go 5 (.facts (.defer (.go 5 (.boxP (.go 5 (.facts (.callP 2 (.agg [.slice]) (.cust NdC NdC.lv) (.putP (.go 11 (.cases 27 (.go 9 (.facts .panic)) (.go 1 (.facts (.call (.int .i64) (.go 3 (.cases 31 (.go 4 (.facts .panic)) (.go 5 (.putP (.putP (.go 1 (.facts .retE)))))))))))))))))))))))))))))))) (by kernel_rfl) h
abbrev qP4_1:List LV:=[I6 0,.str [],I6 0,I6 0,.str [],.str [],.str [],I6 0,I6 0,.bool false,.bool false,.str [],.str [],I6 0,I6 0,.bool false,.bool false,.slice none 0 (.exact 0)]
theorem e114n(E:List LV->LHeap->Prop)(Pn:List LV->RR)(ds:List LDef)(dd:Bool)(X:List Nat)(H0:LHeap)(n0:NdC)(e:Int)(ii:Nat)(jj:Nat)(H:LHeap)
 (h:Inv X H0 [Sk ii (NdC.cs n0) 72,Sk jj [I6 e] 23] H->E [.ptr (some (Lk ii 18 0)),.ptr (some (Lk jj 1 0)),.nilIface,.tuple [],.tuple [],.nilIface,.tuple [],.bool true,.tuple [],.tuple [],.tuple [],.tuple []] H):
 GoesG cfg (gD 114 ds dd E Pn) X H0 [Sk ii (NdC.cs n0) 72,Sk jj [I6 e] 23] [.own 0 0,.own 1 0,.lv .undef,.lv .undef,.lv .undef,.lv .nilIface,.lv .undef,.lv .undef,.lv .undef,.lv .undef,.lv .undef,.lv .undef] (regAt cfg 114 3) H:=seg_wg (k:=(.go 8 (.facts .retE))) (by kernel_rfl) h
theorem e114p(E:List LV->LHeap->Prop)(Pn:List LV->RR)(ds:List LDef)(dd:Bool)(X:List Nat)(H0:LHeap)(n0:NdC)(e:Int)(ii:Nat)(jj:Nat)(H:LHeap)
 (h:NX H fun i0 H1=>PX [i0] H1 fun H2=>PX [ii] H2 fun H3=>PX [jj] H3 fun H4=>Inv X H0 [Sk ii qP4_1 72,Sk jj [I6 10] 23,Sk i0 [] 168] H4->E [.ptr (some (Lk ii 18 0)),.ptr (some (Lk jj 1 0)),.tuple [],.ptr (some (Lk i0 0 0)),.tuple [],.iface 168 (.agg []),.tuple [],.bool false,.tuple [.agg [],.bool true],.bool true,.agg [],.agg qP4_1] H4):
 GoesG cfg (gD 114 ds dd E Pn) X H0 [Sk ii (NdC.cs n0) 72,Sk jj [I6 e] 23] [.own 0 0,.own 1 0,.lv .undef,.lv .undef,.lv .undef,.lv (.iface 168 (.agg [])),.lv .undef,.lv .undef,.lv .undef,.lv .undef,.lv .undef,.lv .undef] (regAt cfg 114 3) H:=seg_wg (k:=(.go 13 (.boxP (.putP (.go 3 (.putP (.putP (.go 2 (.facts .retE))))))))) (by kernel_rfl) h
mutual
def NdStr:Nd->Prop
 | .mk x l=>x.s.length<=maxLen/\NdsStr l
def NdsStr:List Nd->Prop
 |[]=>True
 |n::l=>NdStr n/\NdsStr l
end
theorem NdsStr.all:∀{l:List Nd},(∀m∈l,NdStr m)->NdsStr l
 |[],_=>by unfold NdsStr;trivial
 |n::l,h=>by
  unfold NdsStr
  exact ⟨h n List.mem_cons_self,NdsStr.all fun m hm=>h m (List.mem_cons_of_mem _ hm)⟩
theorem NdsStr.mem:∀{l:List Nd},NdsStr l->∀m∈l,NdStr m
 |[],h,m,hm=>by cases hm
 |n::l,h,m,hm=>by
  unfold NdsStr at h
  rcases List.mem_cons.1 hm with rfl |hm
  ·exact h.1
  ·exact NdsStr.mem h.2 m hm
mutual
def NdE(H:LHeap)(P:Nat->Prop):Nd->Prop
 | .mk x l=>(∀a,x.argsA=some a->P a.id/\a.id<H.next/\loadN H a 0=some [])/\NdsE H P l
def NdsE(H:LHeap)(P:Nat->Prop):List Nd->Prop
 |[]=>True
 |n::l=>NdE H P n/\NdsE H P l
end
mutual
theorem NdE.onY{H H':LHeap}{P Q:Nat->Prop}{Y:List Nat}(p:PresX Y H H')(hP:∀i,P i->i<H.next->i∉Y/\Q i):∀{n:Nd},NdE H P n->NdE H' Q n
 | .mk x l,h=>by
  unfold NdE at h |-
  refine ⟨fun a e=> ?_,NdsE.onY p hP h.2⟩
  obtain ⟨h1,h2,h3⟩:=h.1 a e
  obtain ⟨h4,h5⟩:=hP _ h1 h2
  exact ⟨h5,Nat.lt_of_lt_of_le h2 p.next,(p.keep _ h2 h4).loads a _ _ rfl h3⟩
theorem NdsE.onY{H H':LHeap}{P Q:Nat->Prop}{Y:List Nat}(p:PresX Y H H')(hP:∀i,P i->i<H.next->i∉Y/\Q i):∀{l:List Nd},NdsE H P l->NdsE H' Q l
 |[],_=>by unfold NdsE;trivial
 |n::l,h=>by
  unfold NdsE at h |-
  exact ⟨NdE.onY p hP h.1,NdsE.onY p hP h.2⟩
end
theorem NdE.on{H H':LHeap}{P:Nat->Prop}(p:PresX [] H H'){n:Nd}(h:NdE H P n):NdE H' P n:=NdE.onY p (fun i hi _=>⟨by simp,hi⟩) h
theorem NdsE.on{H H':LHeap}{P:Nat->Prop}(p:PresX [] H H'){l:List Nd}(h:NdsE H P l):NdsE H' P l:=NdsE.onY p (fun i hi _=>⟨by simp,hi⟩) h
theorem NdE.mono{H:LHeap}{P Q:Nat->Prop}(hP:∀i,P i->i<H.next->Q i){n:Nd}(h:NdE H P n):NdE H Q n:=NdE.onY (.refl [] H) (fun i hi hl=>⟨by simp,hP i hi hl⟩) h
theorem NdsE.all{H:LHeap}{P:Nat->Prop}:∀{l:List Nd},(∀m∈l,NdE H P m)->NdsE H P l
 |[],_=>by unfold NdsE;trivial
 |n::l,h=>by
  unfold NdsE
  exact ⟨h n List.mem_cons_self,NdsE.all fun m hm=>h m (List.mem_cons_of_mem _ hm)⟩
theorem NdsE.mem{H:LHeap}{P:Nat->Prop}:∀{l:List Nd},NdsE H P l->∀m∈l,NdE H P m
 |[],_,m,hm=>by cases hm
 |n::l,h,m,hm=>by
  unfold NdsE at h
  rcases List.mem_cons.1 hm with rfl |hm
  ·exact h.1
  ·exact NdsE.mem h.2 m hm
mutual
def Cp:Nd->Nd->Prop
 | .mk x l,.mk y m=>y.bare=x.bare/\Cps l m
def Cps:List Nd->List Nd->Prop
 |[],[]=>True
 |n::l,k::m=>Cp n k/\Cps l m
 |[],_::_=>False
 |_::_,[]=>False
end
theorem NdsAt.mem{H:LHeap}:∀{l:List Nd} {a:Option LAddr} {i:Nat},NdsAt H l a i->∀n∈l,NdAt H n
 |[],_,_,_,n,hn=>by cases hn
 |m::l,a,i,h,n,hn=>by
  unfold NdsAt at h
  rcases List.mem_cons.1 hn with rfl |hn
  ·exact h.2.1
  ·exact NdsAt.mem h.2.2 n hn
theorem NdsSm.mem:∀{l:List Nd},NdsSm l->∀n∈l,NdSm n
 |[],_,n,hn=>by cases hn
 |m::l,h,n,hn=>by
  unfold NdsSm at h
  rcases List.mem_cons.1 hn with rfl |hn
  ·exact h.1
  ·exact NdsSm.mem h.2 n hn
def bareT(N:Nd):List NdC:=(preT N).map NdC.bare
def bareTs(l:List Nd):List NdC:=(preTs l).map NdC.bare
theorem bareTs_cons(n:Nd)(l:List Nd):bareTs (n::l)=bareT n++bareTs l:=by unfold bareTs bareT;rw [preTs,List.map_append]
theorem bareT_len(N:Nd):(bareT N).length=(preT N).length:=by unfold bareT;rw [List.length_map]
theorem Cp.root{N M:Nd}(h:Cp N M):M.root.bare=N.root.bare:=by
 match N,M,h with
 | .mk x l,.mk y m,h=>unfold Cp at h;exact h.1
def WR(Y:List Nat)(J:List NdC->LHeap->Prop)(St:LHeap->Prop)(rest:List NdC)(H:LHeap):LV->LHeap->Prop:=
 fun v H'=>PresX Y H H'/\∃b,v=.bool b/\(b=true->J rest H')/\(b=false->St H')
theorem WR.sh{Y:List Nat}{J:List NdC->LHeap->Prop}{St:LHeap->Prop}{rest:List NdC}{H:LHeap}:∀v H',WR Y J St rest H v H'->PresX Y H H'/\hasSh .bool v:=
 fun v H' ⟨h1,b,e,_⟩=>⟨h1,b,e⟩
theorem bareTs_mem:∀{l:List Nd} {n:Nd},n∈l->(bareT n).length<=(bareTs l).length
 |[],n,h=>by cases h
 |m::l,n,h=>by
  rw [bareTs_cons,List.length_append]
  rcases List.mem_cons.1 h with rfl |h
  ·omega
  ·have:=bareTs_mem h;omega
mutual
def depthT:Nd->Int
 | .mk _ l=>depthTs l 0+1
def depthTs:List Nd->Int->Int
 |[],d=>d
 |n::l,d=>depthTs l (if depthT n>d then depthT n else d)
end
mutual
theorem depth_le:∀(n:Nd),1<=depthT n/\depthT n<=(preT n).length
 | .mk x l=>by
  have:=depths_le l 0 (by omega)
  unfold depthT
  rw [preT,List.length_cons]
  omega
theorem depths_le:∀(l:List Nd) (d:Int),0<=d->d<=depthTs l d/\(depthTs l d<=d\/depthTs l d<=(preTs l).length)
 |[],d,h=>by unfold depthTs;omega
 |n::l,d,h=>by
  have h1:=depth_le n
  unfold depthTs
  rw [preTs,List.length_append]
  split
  ·have h2:=depths_le l (depthT n) (by omega)
   omega
  ·have h2:=depths_le l d h
   omega
end
theorem loop50:∀(l:List Nd) (_:∀n∈l,∀H,NdAt H n->CallL cfg 50 [n.root.lv] H (Ret (.int .i64 (depthT n)) H)) (a:Option LAddr) (q:Cap) (k:Nat) (H0:LHeap) (r:Int),k<=1000000000->∀(dp:Int),0<=dp->dp<=1000000->(preTs l).length<=1000000->depthTs l dp=r->∀(i:Nat),i+l.length=k->NdsAt H0 l a i->∀(d:Nat->LV) (H:LHeap),
  GoesT cfg 50 (Ret (.int .i64 (r+1)) H0) [] H0 [] (L50t_0 d (i:Int) dp a k q (k:Int)) (loopAt cfg 50 0) H
 |[],_,a,q,k,H0,r,hk,dp,h0,h1,hsz,hr,i,hi,hA,d,H=>by
  intro hin hI
  unfold depthTs at hr
  refine g50t_0 _ H0 d i dp a k q k H ⟨fun h=> ?_,fun h hI=>⟨by rw [lwrap_small (by omega) (by omega),hr],hI.pres⟩⟩ hin hI
  simp at h hi;omega
 |n::l,hs,a,q,k,H0,r,hk,dp,h0,h1,hsz,hr,i,hi,hA,d,H=>by
  intro hin hI
  rw [List.length_cons] at hi
  rw [preTs,List.length_append] at hsz
  unfold NdsAt at hA
  unfold depthTs at hr
  obtain ⟨⟨n1,n2,n3⟩,n4,n5⟩:=hA
  have hd:=depth_le n
  have hk':lwrap .i64 ((i:Int)+1)=((i+1:Nat):Int):=by rw [lwrap_small (by omega) (by omega)];simp
  refine g50t_0 _ H0 d i dp a k q k H ⟨fun h=>⟨⟨by omega,by omega,n1⟩,fun hI=>⟨n.root,?ld,fun i9 H10 _ _ H11 _ hI11=>⟨_,hs n List.mem_cons_self H11 (n4.on hI11.pres),Ret.use ⟨_,rfl⟩,fun n13 H14 ⟨e,_⟩ d15=> ?next⟩⟩⟩,fun h=> ?ge⟩ hin hI
  case ge=>simp at h;omega
  case ld=>
   simp only [Int.toNat_natCast]
   exact hI.pres.load0 (a:=⟨(adr a).id,(adr a).ver,(adr a).off+i*18⟩) n2 n3
  case next=>
   cases e
   rw [hk']
   refine loop50 l (fun m hm=>hs m (List.mem_cons_of_mem _ hm)) a q k H0 r hk _ ?_ ?_ (by omega) hr (i+1) (by omega) n5 d15 H14
   ·split<;>omega
   ·split<;>omega
theorem s50(N:Nd)(H:LHeap)(hS:NdSm N)(hN:NdAt H N)(hsz:(preT N).length<=1000000):CallL cfg 50 [N.root.lv] H (Ret (.int .i64 (depthT N)) H):=by
 match N,hS,hN,hsz with
 | .mk x l,hS,hN,hsz=>
  have hN':=hN
  unfold NdAt at hN'
  unfold NdSm at hS
  rw [preT,List.length_cons] at hsz
  have hmem:∀n∈l,(preT n).length<=1000000:=by
   intro n hn
   have h1:=bareTs_mem hn
   rw [bareT_len] at h1
   unfold bareTs at h1
   rw [List.length_map] at h1
   omega
  refine e50t _ x H fun i1 H2 _ _ d3=> ?_
  unfold depthT
  exact loop50 l (fun n hn H' hA=>s50 n H' (hS.2.mem n hn) hA (hmem n hn)) x.argsA x.argsQ x.argsL H _ hS.1 0 (by omega) (by omega) (by omega) rfl 0 (by have:=hN'.1;omega) hN'.2.2 d3 H2
termination_by SizeOf.sizeOf N
decreasing_by
 have:=List.sizeOf_lt_of_mem hn
 simp_wf
 omega
mutual
theorem depth_bare:∀n:Nd,depthT (bareN n)=depthT n
 | .mk x l=>by simp only [bareN,depthT,depths_bare l 0]
theorem depths_bare:∀(l:List Nd) (d:Int),depthTs (bareNs l) d=depthTs l d
 |[],_=>rfl
 |n::l,d=>by simp only [bareNs,depthTs,depth_bare n,depths_bare l]
end
mutual
theorem pre_bare:∀n:Nd,(preT (bareN n)).length=(preT n).length
 | .mk x l=>by simp only [bareN,preT,List.length_cons,pres_bare l]
theorem pres_bare:∀l:List Nd,(preTs (bareNs l)).length=(preTs l).length
 |[]=>rfl
 |n::l=>by simp only [bareNs,preTs,List.length_append,pre_bare n,pres_bare l]
end
theorem pctM_pre:∀(r:List TokC) (n:Nd),(preT (pctM n r).1).length+(pctM n r).2.length<=(preT n).length+r.length
 |[],n=>by simp [pctM]
 |t::r,n=>by
  unfold pctM
  split
  ·have:=pctM_pre r (unNp [37] n)
   simp only [unNp,preT,preTs,List.length_cons,List.append_nil] at this |-
   omega
  ·exact Nat.le_refl _
theorem PR.nodes{q:PQ}{o:Res}(h:PR q o):∀{x:List Nd} {r:List TokC},o=some (x,r)->match q with
  | .level _ ts=>(preTs x).length+r.length<=ts.length
  | .loop _ n ts=>(preTs x).length+r.length<=(preT n).length+ts.length
  | .ahead ts=>(preTs x).length+r.length<=ts.length
  | .atom ts=>(preTs x).length+r.length<=ts.length
  | .args ts acc=>(preTs x).length+r.length<=(preTs acc).length+ts.length:=by
 induction h with
 |level h h' ih ih'=>
  intro x r ho
  have a:=ih rfl
  have b:=ih' ho
  simp only [preTs,List.append_nil] at a b |-
  omega
 |stop h=>intro x r ho;cases ho;simp only [preTs,List.append_nil];exact Nat.le_refl _
 |loop h1 h2 h3 h h' ih ih'=>
  intro x r ho
  have a:=ih rfl
  have b:=ih' ho
  simp only [List.length_cons,preTs,List.append_nil,binNp,preT,List.length_append] at a b |-
  omega
 |minus h h' ih=>
  intro x r ho
  cases ho
  have a:=ih rfl
  have b:=opM_len h
  simp only [preTs,List.append_nil,unNp,preT,List.length_cons] at a |-
  omega
 |atom h h' ih=>
  intro x r ho
  cases ho
  have a:=ih rfl
  simp only [preTs,List.append_nil] at a |-
  exact Nat.le_trans (pctM_pre _ _) a
 |paren h h' h2 ih=>
  intro x r ho
  cases ho
  have a:=ih rfl
  have b:=opM_len h
  have c:=opM_len h2
  simp only at a |-
  omega
 |@alone t r o h h'=>
  intro x r' ho
  have hl:r'.length<(t::r).length:=(PR.alone h h').less ho
  subst ho
  have hx:(preTs x).length=1:=by
   clear hl
   unfold aloneM at h'
   repeat' split at h'
   all_goals try (cases h';done)
   all_goals try (cases h';rfl)
   unfold areaM at h'
   repeat' split at h'
   all_goals try (cases h';done)
   all_goals (cases h';rfl)
  simp only
  omega
 |call h h1 h2 h' ih=>
  intro x r' ho
  have a:=ih rfl
  have b:=opM_len h2
  unfold shutM at ho
  split at ho
  ·cases ho
  ·rename_i e
   have c:=opM_len e
   split at ho
   ·cases ho
   ·cases ho
    simp only [List.length_cons,preTs,callNp,preT,List.append_nil,List.length_nil] at a |-
    omega
 |args1 h h' ih=>
  intro x r ho
  cases ho
  have a:=ih rfl
  simp only [preTs_app,preTs,List.append_nil,List.length_append] at a |-
  omega
 |args h h' h2 ih ih2=>
  intro x r ho
  have a:=ih rfl
  have b:=opM_len h'
  have c:=ih2 ho
  simp only [preTs_app,preTs,List.append_nil,List.length_append] at a c |-
  omega
 |_=>intro x r ho;cases ho
inductive PO (s:List UInt8):Option Nd->Int->Prop
 |lex (h:(lexO s).2≠0):PO s none (lexO s).2
 |no (h:(lexO s).2=0) (h':PR (.level 1 (lexO s).1) none):PO s none 10
 |more (h:(lexO s).2=0) {n:Nd} {t:TokC} {r:List TokC} (h':PR (.level 1 (lexO s).1) (some ([n],t::r))):PO s none 10
 |deep (h:(lexO s).2=0) {n:Nd} (h':PR (.level 1 (lexO s).1) (some ([n],[]))) (hd:24<depthT n):PO s none 10
 |yes (h:(lexO s).2=0) {n:Nd} (h':PR (.level 1 (lexO s).1) (some ([n],[]))) (hd:depthT n<=24):PO s (some n) 0
theorem PO.det{s:List UInt8}{o o':Option Nd}{e e':Int}(h:PO s o e)(h':PO s o' e'):o=o'/\e=e':=by
 cases h with
 |lex a=>
  cases h' with
  |lex=>exact ⟨rfl,rfl⟩
  |no b |more b |deep b |yes b=>exact absurd b a
 |no a p=>
  cases h' with
  |lex b=>exact absurd a b
  |no=>exact ⟨rfl,rfl⟩
  |more b q |deep b q |yes b q=>cases p.det q
 |more a p=>
  cases h' with
  |lex b=>exact absurd a b
  |no b q=>cases p.det q
  |more b q=>exact ⟨rfl,rfl⟩
  |deep b q |yes b q=>cases p.det q
 |deep a p d=>
  cases h' with
  |lex b=>exact absurd a b
  |no b q=>cases p.det q
  |more b q=>cases p.det q
  |deep b q=>exact ⟨rfl,rfl⟩
  |yes b q d'=>
   have:=p.det q
   simp only [Option.some.injEq,Prod.mk.injEq,List.cons.injEq,and_true] at this
   rw [this] at d
   omega
 |yes a p d=>
  cases h' with
  |lex b=>exact absurd a b
  |no b q=>cases p.det q
  |more b q=>cases p.det q
  |deep b q d'=>
   have:=p.det q
   simp only [Option.some.injEq,Prod.mk.injEq,List.cons.injEq,and_true] at this
   rw [this] at d
   omega
  |yes b q=>
   have:=p.det q
   simp only [Option.some.injEq,Prod.mk.injEq,List.cons.injEq,and_true] at this
   rw [this]
   exact ⟨rfl,rfl⟩
def ParseS(s:List UInt8)(H:LHeap):LV->LHeap->Prop:=fun v H'=>PresX [] H H'/\∃o e,PO s o e/\match o with
 |none=>v=.tuple [nilNp.lv,.int .i64 e]
 |some n=>∃nd,bareN nd=n/\v=.tuple [nd.root.lv,.int .i64 e]/\NdAt H' nd/\NdIds (H.next<=·) nd
def parD(i0 i2:Nat):LDef:=⟨.fn (.func 114) [.ptr (some ⟨i0,18,0⟩),.ptr (some ⟨i2,1,0⟩)],[]⟩
def cloT(i0 i2:Nat)(v:LV):List LV:=[.ptr (some ⟨i0,18,0⟩),.ptr (some ⟨i2,1,0⟩),.undef,.undef,.undef,v,.undef,.undef,.undef,.undef,.undef,.undef]
theorem clo_in(i0 i2:Nat)(tm:List LV)(td:List LItem)(cs:List LFrame)(H:LHeap):lrun cfg 7 ⟨⟨54,tm,td,[parD i0 i2],.panicking [⟨noneV,false⟩],false,none⟩,cs,H⟩=⟨mkX ⟨[],none,true⟩ 114 (cloT i0 i2 noneV) (regAt cfg 114 3),⟨54,tm,td,[],.panicking [⟨noneV,true⟩],false,none⟩::cs,H⟩:=by kernel_rfl
theorem clo_in'(i0 i2:Nat)(tm:List LV)(td:List LItem)(cs:List LFrame)(H:LHeap):lrun cfg 7 ⟨⟨54,tm,td,[parD i0 i2],.returning,false,none⟩,cs,H⟩=⟨mkX ⟨[],none,true⟩ 114 (cloT i0 i2 .nilIface) (regAt cfg 114 3),⟨54,tm,td,[],.returning,false,none⟩::cs,H⟩:=by kernel_rfl
theorem clo_out(tm' tm:List LV)(td' td:List LItem)(cs:List LFrame)(H:LHeap):lstep cfg ⟨{ mkX ⟨[],none,true⟩ 114 tm' td' with mode:=.returning },⟨54,tm,td,[],.panicking [⟨noneV,true⟩],false,none⟩::cs,H⟩=some [⟨⟨54,tm,td,[],.returning,false,none⟩,cs,H⟩]:=by kernel_rfl
theorem clo_out'(tm' tm:List LV)(td' td:List LItem)(cs:List LFrame)(H:LHeap):lstep cfg ⟨{ mkX ⟨[],none,true⟩ 114 tm' td' with mode:=.returning },⟨54,tm,td,[],.returning,false,none⟩::cs,H⟩=some [⟨⟨54,tm,td,[],.returning,false,none⟩,cs,H⟩]:=by kernel_rfl
theorem clo_pan{i0 i2:Nat}{n0:NdC}{e:Int}{tm:List LV}{td:List LItem}{cs:List LFrame}{p:LState->Prop}{H:LHeap}(hI:Inv [i0,i2] H [⟨i0,n0.cs,72⟩,⟨i2,[.int .i64 e],23⟩] H)
  (hE:∀H',PresX [i0,i2] H H'->H'.get i0=some (Slot.obj ⟨i0,nilNp.cs,72⟩)->H'.get i2=some (Slot.obj ⟨i2,[.int .i64 10],23⟩)->Lm.Ends cfg p ⟨⟨54,tm,td,[],.returning,false,none⟩,cs,H'⟩):
  Lm.Ends cfg p ⟨⟨54,tm,td,[parD i0 i2],.panicking [⟨noneV,false⟩],false,none⟩,cs,H⟩:=by
 refine lrun_ends 7 _ ?_
 rw [clo_in]
 have:=e114p (fun _ H'=>PresX [i0,i2] H H'/\H'.get i0=some (Slot.obj ⟨i0,nilNp.cs,72⟩)/\H'.get i2=some (Slot.obj ⟨i2,[.int .i64 10],23⟩)) (fun _ _ _=>False) [] true [i0,i2] H n0 e i0 i2 H
  (fun i1 H1 l1 p1 H2 p2 H3 p3 H4 p4 hI4=>⟨hI4.pres,(hI4.slot 0 _ rfl).2.1,(hI4.slot 1 _ rfl).2.1⟩)
 refine this (fun x hx=>List.all_eq_true.1 (show List.all _ (inR 2)=true from rfl) x hx) hI _ p ⟨fun _ _ _ _ hf=>hf.elim,fun _ _ _ _ hf=>hf.elim,fun tm' td' H' hh=> ?_⟩
 refine .step (l:=[⟨⟨54,tm,td,[],.returning,false,none⟩,cs,H'⟩]) ?_ fun s hm=> ?_
 ·exact clo_out tm' tm td' td cs H'
 ·rw [List.mem_singleton.1 hm]
  exact hE H' hh.1 hh.2.1 hh.2.2
theorem clo_ret{i0 i2:Nat}{n0:NdC}{e:Int}{tm:List LV}{td:List LItem}{cs:List LFrame}{p:LState->Prop}{H:LHeap}(hI:Inv [i0,i2] H [⟨i0,n0.cs,72⟩,⟨i2,[.int .i64 e],23⟩] H)
  (hE:Lm.Ends cfg p ⟨⟨54,tm,td,[],.returning,false,none⟩,cs,H⟩):
  Lm.Ends cfg p ⟨⟨54,tm,td,[parD i0 i2],.returning,false,none⟩,cs,H⟩:=by
 refine lrun_ends 7 _ ?_
 rw [clo_in']
 have:=e114n (fun _ H'=>H'=H) (fun _ _ _=>False) [] true [i0,i2] H n0 e i0 i2 H (fun _=>rfl)
 refine this (fun x hx=>List.all_eq_true.1 (show List.all _ (inR 2)=true from rfl) x hx) hI _ p ⟨fun _ _ _ _ hf=>hf.elim,fun _ _ _ _ hf=>hf.elim,fun tm' td' H' hh=> ?_⟩
 subst hh
 refine .step (l:=[⟨⟨54,tm,td,[],.returning,false,none⟩,cs,H'⟩]) ?_ fun s hm=> ?_
 ·exact clo_out' tm' tm td' td cs H'
 ·rw [List.mem_singleton.1 hm]
  exact hE
theorem par_res:(cfg.P.funcs[54]?).map (fun fn=>fn.results.toList)=some [.cell 2 72,.cell 3 23]:=by kernel_rfl
theorem ag72:isAggT cfg.P 72=some true:=by kernel_rfl
theorem sz72:sizeOfT cfg.P 72=some 18:=by kernel_rfl
theorem ag23:isAggT cfg.P 23=some false:=by kernel_rfl
theorem par_ret{i0 i2:Nat}{x:NdC}{e:Int}{tm:List LV}{td:List LItem}{cs:List LFrame}{p:LState->Prop}{H:LHeap}{R:LV->LHeap->Prop}(hk:ContG cfg (gF 54 R) cs p)(h2:nth tm 2=some (.ptr (some ⟨i0,18,0⟩)))(h3:nth tm 3=some (.ptr (some ⟨i2,1,0⟩)))
  (g0:H.get i0=some (Slot.obj ⟨i0,x.cs,72⟩)) (g2:H.get i2=some (Slot.obj ⟨i2,[.int .i64 e],23⟩)) (hR:R (.tuple [x.lv,.int .i64 e]) H):Lm.Ends cfg p ⟨⟨54,tm,td,[],.returning,false,none⟩,cs,H⟩:=by
 have hr:=par_res
 simp only [Option.map_eq_some_iff] at hr
 obtain ⟨fn,hfn,hres⟩:=hr
 refine (show _/\_/\_ from hk).1 _ _ H ⟨rfl,rfl,rfl,rfl,rfl,fn,[x.lv,.int .i64 e],hfn,?_,rfl⟩ hR
 rw [hres]
 have l0:loadT cfg.P H 72 ⟨i0,18,0⟩=some x.lv:=slotLoad_spec (s:=⟨i0,x.cs,72⟩) (off:=0) g0 (by unfold slotLoad;rw [ag72];simp only [sz72];rfl)
 have l2:loadT cfg.P H 23 ⟨i2,1,0⟩=some (.int .i64 e):=slotLoad_spec (s:=⟨i2,[.int .i64 e],23⟩) (off:=0) g2 (by unfold slotLoad;rw [ag23];rfl)
 simp only [mapO,resL,evalL,h2,h3,l0,l2]
theorem inv_pick{X:List Nat}{H0 H:LHeap}{kn:List Slot}(h:Inv X H0 kn H){k:Nat}{s:Slot}(hs:nth kn k=some s):Inv [s.id] H [s] H:=
 ⟨.refl _ _,fun j t ht=>by
  match j,ht with
  |0,ht=>
   simp only [nth,Option.some.injEq] at ht
   subst ht
   obtain ⟨h1,h2,_⟩:=h.slot k _ hs
   exact ⟨h1,h2,.inl List.mem_cons_self⟩
  |j+1,ht=>simp [nth] at ht,fun j k s t hs ht hne=>by
  match j,k,hs,ht with
  |0,0,_,_=>exact absurd rfl hne
  |j+1,_,hs,_=>simp [nth] at hs
  |_,k+1,_,ht=>simp [nth] at ht⟩
theorem inv_two{X:List Nat}{H0 H:LHeap}{s t:Slot}{l:List Slot}(h:Inv X H0 (s::t::l) H):Inv [s.id,t.id] H [s,t] H:=
 ⟨.refl _ _,fun j u hu=>by
  match j,hu with
  |0,hu=>
   simp only [nth,Option.some.injEq] at hu
   subst hu
   obtain ⟨h1,h2,_⟩:=h.slot 0 _ rfl
   exact ⟨h1,h2,.inl List.mem_cons_self⟩
  |1,hu=>
   simp only [nth,Option.some.injEq] at hu
   subst hu
   obtain ⟨h1,h2,_⟩:=h.slot 1 _ rfl
   exact ⟨h1,h2,.inl (by simp)⟩
  |j+2,hu=>simp [nth] at hu,fun j k u v hu hv hne=>by
  match j,k,hu,hv with
  |0,0,_,_=>exact absurd rfl hne
  |1,1,_,_=>exact absurd rfl hne
  |0,1,hu,hv=>exact h.apart 0 1 u v hu hv (by omega)
  |1,0,hu,hv=>exact h.apart 1 0 u v hu hv (by omega)
  |j+2,_,hu,_=>simp [nth] at hu
  |_,k+2,_,hv=>simp [nth] at hv⟩
theorem tok_ne{H:LHeap}{a:LAddr}{x:TokC}{ty:TypeId}(h1:isAggT cfg.P ty=some true)(h2:sizeOfT cfg.P ty=some 9)(h:loadT cfg.P H ty a=some x.lv){k:Nat}{cs:List LV}{e:TypeId}(g:H.get k=some (Slot.obj ⟨k,cs,e⟩))(hl:cs.length<9):a.id≠k:=by
 rintro rfl
 unfold loadT at h
 rw [h1] at h
 simp only [h2,Option.map_eq_some_iff] at h
 obtain ⟨cs',h,_⟩:=h
 unfold loadN at h
 rw [g] at h
 simp only [Slot.obj] at h
 split at h
 ·obtain ⟨h3,_⟩:=takeN_some _ _ _ h
  rw [dropN_eq,List.length_drop] at h3
  omega
 ·cases h
theorem lexS_sh{ty:TypeId}{o:List TokC×Int}{H:LHeap}(v:LV)(H':LHeap)(h:LexS ty o H v H'):PresX [] H H'/\hasSh (.tuple [.slice,.int .i64]) v:=by
 obtain ⟨p,a,q,rfl,_⟩:=h
 exact ⟨p,_,_,_,_,rfl⟩
theorem s54(s:List UInt8)(H:LHeap):CallL cfg 54 [.str s] H (ParseS s H):=by
 refine e54p _ s H fun i0 H1 l0 p1 i2 H3 l2 p3 hI3=>⟨_,s18 s H3,lexS_sh,fun a5 l6 c7 n8 H9 hS H10 p10=> ?_⟩
 obtain ⟨p9,a,q,e,hrow⟩:=hS
 simp only [LV.tuple.injEq,List.cons.injEq,LV.slice.injEq,LV.int.injEq,true_and,and_true] at e
 obtain ⟨⟨rfl,rfl,rfl⟩,rfl⟩:=e
 have li0:=(hI3.slot 0 _ rfl).1
 have li2:=(hI3.slot 1 _ rfl).1
 simp only at li0 li2
 have n1:=p1.next
 have n3:=p3.next
 have n9:=p9.next
 have n10:=p10.next
 have g2:H9.get i2=some (Slot.obj ⟨i2,[.int .i64 0],23⟩):=(p9.keep i2 li2 (by simp)).get.trans (hI3.slot 1 _ rfl).2.1
 refine ⟨fun herr=>⟨rfl,fun H12 p12=>⟨rfl,fun H14 p14 hI14=>⟨hI14.pres,none,_,.lex (by simpa using herr),rfl⟩⟩⟩,fun hok hI10=> ?_⟩
 have hok':(lexO s).2=0:=by simpa using hok
 refine ⟨fun tm H'=>nth tm 2=some (.ptr (some ⟨i0,18,0⟩))/\nth tm 3=some (.ptr (some ⟨i2,1,0⟩))/\PresX [] H H'/\∃nd,Inv [i0,i2] H' [⟨i0,nd.root.cs,72⟩,⟨i2,[.int .i64 0],23⟩] H'/\PO s (some (bareN nd)) 0/\NdAt H' nd/\NdIds (H.next<=·) nd,
  fun tm v H'=>nth tm 2=some (.ptr (some ⟨i0,18,0⟩))/\nth tm 3=some (.ptr (some ⟨i2,1,0⟩))/\v=noneV/\PO s none 10/\PresX [] H H'/\∃(n0:NdC) (e:Int),Inv [i0,i2] H' [⟨i0,n0.cs,72⟩,⟨i2,[.int .i64 e],23⟩] H',?_,fun i16 H17 l16 p17 hI17=> ?_⟩
 ·intro cs p hk
  refine ⟨fun _ _ _ _ hf=>hf.elim,fun tm td v H' hh=> ?_,fun tm td H' hh=> ?_⟩
  ·obtain ⟨h2,h3,rfl,hPO,hp,n0,e,hI⟩:=hh
   refine clo_pan (tm:=tm) (td:=td) hI fun H'' p'' g0 g2=>par_ret hk h2 h3 g0 g2 ⟨hp.trans p'' (fun y hy=> ?_),none,10,hPO,rfl⟩
   simp at hy
   omega
  ·obtain ⟨h2,h3,hp,nd,hI,hPO,hN,hD⟩:=hh
   exact clo_ret (tm:=tm) (td:=td) hI (par_ret hk h2 h3 (hI.slot 0 _ rfl).2.1 (hI.slot 1 _ rfl).2.1 ⟨hp,_,0,hPO,nd,rfl,rfl,hN,hD⟩)
 ·have li16:=(hI17.slot 2 _ rfl).1
  simp only at li16
  have n17:=p17.next
  have hT9:TokAt H9 i16 124 a5 (lexO s).1.length c7 (lexO s).1:=row_tok hrow ag124 sz124 (lexO_ok s) (Nat.le_trans (lexO_len s) (by omega)) (fun ad e=>by subst e;have:=hrow.id;omega)
  have hT17:TokAt H17 i16 124 a5 (lexO s).1.length c7 (lexO s).1:=⟨hT9.len,hT9.small,hT9.cap,fun j x hx=>by
   obtain ⟨t1,t2,t3,t4,t5⟩:=hT9.tok j x hx
   have hne:=tok_ne ag124 sz124 t5 g2 (by simp)
   simp only at hne
   have l10:=p10.load (a:=⟨(adr a5).id,(adr a5).ver,(adr a5).off+j*9⟩) t2 (by simpa using hne) t5
   exact ⟨t1,by omega,t3,t4,p17.load (a:=⟨(adr a5).id,(adr a5).ver,(adr a5).off+j*9⟩) (by simp only;omega) (by simp) l10⟩⟩
  refine ⟨_,_,[],s115 (lexO s).1 i16 1 a5 (lexO s).1.length c7 H17 (by omega) (by omega) (inv_pick hI17 (k:=2) rfl) hT17,nodeS_sh,(by simp),panS_sh,fun v H' cs hS hI'=>⟨rfl,rfl,hS.1,.no hok' hS.2.1,hI'.pres,nilNp,_,inv_two hI'⟩,fun x19 a20 l21 c22 H23 hS g23 H24 p24=> ?_⟩
  obtain ⟨nd,r,hPR,e,hN,hD,hp⟩:=hS
  obtain rfl:=NdC.lv_inj e
  have hT23:=pslot_at hp g23
  have hlr:=hT23.len
  have n23:=hp.1.next
  have n24:=p24.next
  have hN24:NdAt H24 nd:=NdAt.onY p24 (NdIds.mono (fun j hj hm=>by have:=List.mem_singleton.1 hm;omega) hD) hN
  have hsz:(preT nd).length<=1000000:=by
   have h1:=hPR.nodes rfl
   simp only [preTs,List.append_nil,pre_bare] at h1
   have:=lexO_len s
   omega
  refine ⟨fun h hI24=>⟨rfl,rfl,rfl,?_,hI24.pres,_,_,inv_two hI24⟩,fun h hI24=>⟨_,s50 nd H24 (ndSm nd H24 hN24 hsz) hN24 hsz,Ret.use ⟨_,rfl⟩,fun n26 H27 hS=> ?_⟩⟩
  ·cases r with
   |nil=>simp [hlr] at h
   |cons t r'=>exact .more hok' hPR
  ·obtain ⟨e,p27⟩:=hS
   cases e
   have hr:r=[]:=by
    cases r with
    |nil=>rfl
    |cons t r'=>simp [hlr] at h
   subst hr
   have n27:=p27.next
   refine ⟨fun h hI27=>⟨rfl,rfl,rfl,.deep hok' hPR (by rw [depth_bare];simpa using h),hI27.pres,_,_,inv_two hI27⟩,fun h H28 p28 H29 p29 hI29=>⟨rfl,rfl,hI29.pres,nd,inv_two hI29,.yes hok' hPR (by rw [depth_bare];simpa using h),?_,NdIds.mono (fun j hj=>by omega) hD⟩⟩
   exact NdAt.onY p29 (NdIds.mono (fun j hj hm=>by have:=List.mem_singleton.1 hm;omega) hD) (NdAt.onY p28 (NdIds.mono (fun j hj hm=>by have:=List.mem_singleton.1 hm;omega) hD) (NdAt.on p27 hN24))
def L51_0(d:Nat->LV)(n0:Int)(n1:Int)(a2:Option LAddr)(l3:Nat)(c4:Cap)(n5:Int):List SV:=dl d 0 3++[.lv (I6 n1)]++dl d 4 4++[.lv (.slice a2 l3 c4),.lv (I6 n5),.lv (I6 n0)]++dl d 11 12
abbrev qP5_1:List LV:=[I6 0,.str [],I6 0,I6 0,.str [],.str [],.str [],I6 0,I6 0,.bool false,.bool false,.str [],.str [],I6 0,I6 0,.bool false,.bool false,.slice none 0 (.exact 0)]
theorem e210d(R:RR)(a:(Option LAddr))(k:Nat)(q:Cap)(w:Bool)(ii:Nat)(H:LHeap)(hI:Inv [ii] H [(Sk ii [(.slice a k q),(.bool w)] 184)] H)
 (h:Dc (((k:Nat):Int)>0) (((0:Int)<=0/\(0<((k:Nat):Int)/\(Option.isSome a)=true))/\(Inv [ii] H [Sk ii [.slice a k q,.bool w] 184] H->∃n2,loadT cfg.P H 3 (Lk (LAddr.id (adr a)) (LAddr.ver (adr a)) (((LAddr.off (adr a))+0)+0))=some (I6 n2)/\(Cd (n2==5) (((0:Int)<=0/\(0<((k:Nat):Int)/\(Option.isSome a)=true))/\(Inv [ii] H [Sk ii [.slice a k q,.bool w] 184] H->∃s5,loadT cfg.P H 9 (Lk (LAddr.id (adr a)) (LAddr.ver (adr a)) (((LAddr.off (adr a))+0)+2))=some (.str s5)/\(RX [ii] H [Sk ii [.slice a k q,.bool w] 184] H R (.str s5)))) (RX [ii] H [Sk ii [.slice a k q,.bool w] 184] H R (.str []))))) (RX [ii] H [Sk ii [.slice a k q,.bool w] 184] H R (.str []))):
 CallL cfg 210 [.ptr (some (Lk ii 2 0))] H R:=call_wt (k:=(.go 14 (.cases 9 (.go 4 (.op (.tuple []) (.go 1 (.facts (.op (.int .i64) (.go 3 (.cases 18 (.go 7 (.op (.tuple []) (.go 1 (.facts (.op .str (.go 2 (.facts .ret))))))) (.go 6 (.facts .ret))))))))) (.go 16 (.facts .ret))))) (kn:=[Sk ii [.slice a k q,.bool w] 184]) (args:=[.own 0 0]) (by kernel_rfl) h hI (fun x hx=>List.all_eq_true.1 (show List.all [.own 0 0] (inR 1)=true from rfl) x hx)
theorem e211d(R:RR)(a:(Option LAddr))(k:Nat)(q:Cap)(w:Bool)(s:(List UInt8))(ii:Nat)(H:LHeap)(hI:Inv [ii] H [(Sk ii [(.slice a k q),(.bool w)] 184)] H)
 (h:Inv [ii] H [Sk ii [.slice a k q,.bool w] 184] H->Kb 210 [.ptr (some (Lk ii 2 0))] H fun s1 H2=>Cd (!(s1==s)) (PX [ii] H2 fun H3=>PX [ii] H3 fun H4=>RX [ii] H [Sk ii [.slice none 0 (.exact 0),.bool true] 184] H4 R (.tuple [])) (∃a6 l7 c8,(sliceL cfg.P 26 (.slice a k q) (some (I6 1)) none none)=(some (.slice a6 l7 c8))/\(PX [ii] H2 fun H9=>RX [ii] H [Sk ii [.slice a6 l7 c8,.bool w] 184] H9 R (.tuple [])))):
 CallL cfg 211 [.ptr (some (Lk ii 2 0)),.str s] H R:=call_wt (k:=(.go 4 (.facts (.call .str (.go 3 (.cases 7 (.go 6 (.putP (.go 6 (.putP (.go 1 (.facts .ret)))))) (.go 8 (.op .slice (.go 2 (.putP (.go 1 (.facts .ret)))))))))))) (kn:=[Sk ii [.slice a k q,.bool w] 184]) (args:=[.own 0 0,.lv (.str s)]) (by kernel_rfl) h hI (fun x hx=>List.all_eq_true.1 (show List.all [.own 0 0,.lv (.str s)] (inR 1)=true from rfl) x hx)
theorem e302d(R:RR)(a:(Option LAddr))(k:Nat)(q:Cap)(w:Bool)(ii:Nat)(H:LHeap)(hI:Inv [ii] H [(Sk ii [(.slice a k q),(.bool w)] 184)] H)
 (h:NX H fun i0 H1=>PX [ii] H1 fun H2=>PX [ii] H2 fun H3=>PX [i0] H3 fun H4=>RX [ii] H [Sk ii [.slice none 0 (.exact 0),.bool true] 184,Sk i0 qP5_1 72] H4 R (.agg qP5_1)):
 CallL cfg 302 [.ptr (some (Lk ii 2 0))] H R:=call_wt (k:=(.go 2 (.boxP (.go 6 (.putP (.go 6 (.putP (.go 4 (.putP (.go 1 (.facts .ret))))))))))) (kn:=[Sk ii [.slice a k q,.bool w] 184]) (args:=[.own 0 0]) (by kernel_rfl) h hI (fun x hx=>List.all_eq_true.1 (show List.all [.own 0 0] (inR 1)=true from rfl) x hx)
theorem g51_0(R:RR)(H0:LHeap)(d:Nat->LV)(n0:Int)(n1:Int)(a2:Option LAddr)(l3:Nat)(c4:Cap)(n5:Int)(H:LHeap)
 (h:Dc (n0<n5) ((0<=n0/\(n0<((l3:Nat):Int)/\(Option.isSome a2)=true))/\(Inv [] H0 [] H->∃x8,loadT cfg.P H 72 (Lk (LAddr.id (adr a2)) (LAddr.ver (adr a2)) ((LAddr.off (adr a2))+((Int.toNat n0)*18)))=some (NdC.lv x8)/\(NX H fun i9 H10=>PX [i9] H10 fun H11=>Inv [] H0 [Sk i9 (NdC.cs x8) 72] H11->Kc 51 [NdC.lv x8] H11 fun n13 H14=>Dc (n13>n1) (∀d15,GoesT cfg 51 R [] H0 [] (L51_0 d15 (lwrap .i64 (n0+1)) n13 a2 l3 c4 n5) (loopAt cfg 51 0) H14) (∀d16,GoesT cfg 51 R [] H0 [] (L51_0 d16 (lwrap .i64 (n0+1)) n1 a2 l3 c4 n5) (loopAt cfg 51 0) H14)))) (R0 H0 [] H R (I6 (lwrap .i64 (n1+1))))):
 GoesT cfg 51 R [] H0 [] (L51_0 d n0 n1 a2 l3 c4 n5) (loopAt cfg 51 0) H:=seg_wt (k:=(.go 5 (.cases 11 (.go 6 (.op (.tuple []) (.facts (.op (.cust NdC NdC.lv) (.boxP (.putP (.go 4 (.facts (.call (.int .i64) (.go 8 (.cases 18 (.go 11 (.stop [10,3,8,9] 0)) (.go 8 (.stop [10,3,8,9] 0))))))))))))) (.go 8 (.facts .ret))))) (by kernel_rfl) h
theorem e51(R:RR)(x0:NdC)(H:LHeap)
 (h:NX H fun i1 H2=>∀d3,GoesT cfg 51 R [] H [] (L51_0 d3 0 0 x0.argsA x0.argsL x0.argsQ ((x0.argsL:Nat):Int)) (loopAt cfg 51 0) H2):
 CallL cfg 51 [NdC.lv x0] H R:=call_wt0 (k:=(.go 2 (.boxP (.go 16 (.stop [10,3,8,9] 0))))) (by kernel_rfl) h
end Go.Proofs.YtjihhflffkoffaaGreatDoor.Z
