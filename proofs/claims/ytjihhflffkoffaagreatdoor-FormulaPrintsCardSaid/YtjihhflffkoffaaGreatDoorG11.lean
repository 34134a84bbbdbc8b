/- Contracts of functions of the program; no condition. -/
import Derived.Test.YtjihhflffkoffaaGreatDoorG9
import Derived.Test.YtjihhflffkoffaaGreatDoorG0
import Derived.Test.YtjihhflffkoffaaGreatDoorLe
import Derived.Test.YtjihhflffkoffaaGreatDoorG10
set_option linter.unusedSimpArgs false
set_option linter.unusedVariables false
set_option linter.unusedSectionVars false
set_option linter.unnecessarySimpa false
namespace Go.Proofs.YtjihhflffkoffaaGreatDoor.Z
open Go Go.Lm
set_option maxRecDepth 1000000
set_option maxHeartbeats 0
def refO(n:NdC):RefC:=⟨n.refBook,n.refSheet,n.refRow,n.refCol,n.refFixRow,n.refFixCol⟩
def toO(n:NdC):RefC:=⟨n.toBook,n.toSheet,n.toRow,n.toCol,n.toFixRow,n.toFixCol⟩
def valO(n:NdC):ValC:=⟨n.valueKind,n.valueN,n.valueS⟩
def vZ(x:NdC):Bool:=((0:Int)==x.valueKind)&&(((0:Int)==x.valueN)&&([]==x.valueS))
def rZ(x:NdC):Bool:=([]==x.refBook)&&(([]==x.refSheet)&&(((0:Int)==x.refRow)&&(((0:Int)==x.refCol)&&((false==x.refFixRow)&&(false==x.refFixCol)))))
def rB(x:NdC):Bool:=(x.refBook==x.refBook)&&(([]==x.refSheet)&&(((0:Int)==x.refRow)&&(((0:Int)==x.refCol)&&((false==x.refFixRow)&&(false==x.refFixCol)))))
def tZ(x:NdC):Bool:=([]==x.toBook)&&(([]==x.toSheet)&&(((0:Int)==x.toRow)&&(((0:Int)==x.toCol)&&((false==x.toFixRow)&&(false==x.toFixCol)))))
def vS(x:NdC):Bool:=(x.valueKind==x.valueKind)&&((x.valueN==x.valueN)&&(x.valueS==x.valueS))
def rS(x:NdC):Bool:=(x.refBook==x.refBook)&&((x.refSheet==x.refSheet)&&((x.refRow==x.refRow)&&((x.refCol==x.refCol)&&((x.refFixRow==x.refFixRow)&&(x.refFixCol==x.refFixCol)))))
def tS(x:NdC):Bool:=(x.toBook==x.toBook)&&((x.toSheet==x.toSheet)&&((x.toRow==x.toRow)&&((x.toCol==x.toCol)&&((x.toFixRow==x.toFixRow)&&(x.toFixCol==x.toFixCol)))))
def tailF(A B C D e:Bool):Bool:=A&&(B&&(C&&(D&&e)))
def shapeF(x:NdC):Bool:=
 if x.kind==1 then (valF (valO x)&&((x.valueKind != 0)&&((x.valueKind != 1)||decide (x.valueN>=0))))&&tailF ([]==x.s) (vS x) (rZ x) (tZ x) ((0:Int)==((x.argsL:Nat):Int))
 else if x.kind==2 then refF (refO x)&&tailF ([]==x.s) (vZ x) (rS x) (tZ x) ((0:Int)==((x.argsL:Nat):Int))
 else if x.kind==3 then areaF (refO x) (toO x)&&tailF ([]==x.s) (vZ x) (rS x) (tS x) ((0:Int)==((x.argsL:Nat):Int))
 else if x.kind==4 then (nameF x.s&&((x.refBook==[])||nameF x.refBook))&&tailF (x.s==x.s) (vZ x) (rB x) (tZ x) ((0:Int)==((x.argsL:Nat):Int))
 else if x.kind==5 then ((x.s==[45])||(x.s==[37]))&&tailF (x.s==x.s) (vZ x) (rZ x) (tZ x) ((1:Int)==((x.argsL:Nat):Int))
 else if x.kind==6 then decide (bindsF x.s>0)&&tailF (x.s==x.s) (vZ x) (rZ x) (tZ x) ((2:Int)==((x.argsL:Nat):Int))
 else if x.kind==7 then ((x.s.map upB==x.s)&&((nameF x.s||((x.s==[84,82,85,69])||(x.s==[70,65,76,83,69])))&&decide (((x.argsL:Nat):Int)<=16)))&&tailF (x.s==x.s) (vZ x) (rZ x) (tZ x) (((x.argsL:Nat):Int)==((x.argsL:Nat):Int))
 else false
theorem chain4{A B C D e t:Bool}{I:Prop}{H0 H':LHeap}(ht:t=tailF A B C D e)(k:I->PresX [] H0 H'):
   (((A=true->(((B=true->(((C=true->(((D=true->(I->Ret (.bool t) H0 (.bool e) H'))
 /\ (D=false->(I->Ret (.bool t) H0 (.bool false) H')))))
 /\ (C=false->(I->Ret (.bool t) H0 (.bool false) H')))))
 /\ (B=false->(I->Ret (.bool t) H0 (.bool false) H')))))
 /\ (A=false->(I->Ret (.bool t) H0 (.bool false) H')))):=by
  subst ht;refine ⟨fun a=>⟨fun b=>⟨fun c=>⟨fun d hI=>⟨?_,k hI⟩,fun d hI=>⟨?_,k hI⟩⟩,fun c hI=>⟨?_,k hI⟩⟩,fun b hI=>⟨?_,k hI⟩⟩,fun a hI=>⟨?_,k hI⟩⟩
  all_goals simp only [tailF, *,Bool.true_and,Bool.false_and]
theorem s192(x:NdC)(H:LHeap)(hs:x.s.length<=9223372036854775807):CallL cfg 192 [x.lv] H (Ret (.bool (shapeF x)) H):=by
 have no:∀{H':LHeap},shapeF x=false->PresX [] H H'->Ret (.bool (shapeF x)) H (.bool false) H':=fun h p=>⟨by rw [h],p⟩;refine e192t _ x H fun i1 H2 _ _ i3 H4 _ _ i5 H6 _ _ i7 H8 _ _=>⟨fun k1 H9 _ hI=>⟨_,s255 (valO x) H9,Ret.use ⟨_,rfl⟩,fun b11 H12 ⟨e,_⟩=>⟨fun hb=>⟨fun v0=>⟨fun v1=>chain4 ?a1 Inv.pres,fun v1=>⟨fun vn=>chain4 ?a2 Inv.pres,fun vn hI=>no ?a3 hI.pres⟩⟩,fun v0 hI=>no ?a4 hI.pres⟩,fun hb hI=>no ?a5 hI.pres⟩⟩,
  fun k1=>⟨fun k2 H19 _ hI=>⟨_,s256 (refO x) H19,Ret.use ⟨_,rfl⟩,fun b21 H22 ⟨e,_⟩=>⟨fun hb=>chain4 ?b1 Inv.pres,fun hb hI=>no ?b2 hI.pres⟩⟩,
  fun k2=>⟨fun k3=>⟨rfl,fun H27 _=>⟨rfl,fun H29 _ hI=>⟨_,s196 (refO x) (toO x) H29,GoodS.sh,fun s32 H33 ⟨_,t,e,ht⟩=>⟨fun hb=>chain4 ?c1 Inv.pres,fun hb hI=>no ?c2 hI.pres⟩⟩⟩⟩,
  fun k3=>⟨fun k4=>⟨rfl,fun H38 _ hI=>⟨_,s90 x.s H38,Ret.use ⟨_,rfl⟩,fun b41 H42 ⟨e,_⟩=>⟨fun hb=>⟨fun hk=>chain4 ?d1 Inv.pres,fun hk hI=>⟨_,s90 x.refBook H42,Ret.use ⟨_,rfl⟩,fun b47 H48 ⟨e2,_⟩=>⟨fun hb2=>chain4 ?d2 Inv.pres,fun hb2 hI=>no ?d3 hI.pres⟩⟩⟩,fun hb hI=>no ?d4 hI.pres⟩⟩⟩,
  fun k4=>⟨fun k5=>⟨fun hm=>chain4 ?e1 Inv.pres,fun hm=>⟨fun hp=>chain4 ?e2 Inv.pres,fun hp hI=>no ?e3 hI.pres⟩⟩,
  fun k5=>⟨fun k6 hI=>⟨_,s198 x.s H8,Ret.use ⟨_,rfl⟩,fun n59 H60 ⟨e,_⟩=>⟨fun hb=>chain4 ?f1 Inv.pres,fun hb hI=>no ?f2 hI.pres⟩⟩,
  fun k6=>⟨fun k7=>⟨rfl,fun hI=>⟨_,s175 x.s H8 hs,Ret.use ⟨_,rfl⟩,fun s66 H67 ⟨e,_⟩=>⟨fun hu hI=>⟨_,s90 x.s H67,Ret.use ⟨_,rfl⟩,fun b69 H70 ⟨e2,_⟩=>⟨fun hb=>⟨fun ha=>chain4 ?g1 Inv.pres,fun ha hI=>no ?g2 hI.pres⟩,fun hb=>⟨fun ht=>⟨fun ha=>chain4 ?g3 Inv.pres,fun ha hI=>no ?g4 hI.pres⟩,fun ht=>⟨fun hf=>⟨fun ha=>chain4 ?g5 Inv.pres,fun ha hI=>no ?g6 hI.pres⟩,fun hf hI=>no ?g7 hI.pres⟩⟩⟩⟩,fun hu hI=>no ?g8 hI.pres⟩⟩⟩,fun k7 hI=>no ?h1 hI.pres⟩⟩⟩⟩⟩⟩⟩
 case a1=>cases e;simp only [shapeF,k1,if_true,hb,v0,v1,Bool.true_and,Bool.true_or];rfl
 case a2=>cases e;simp only [shapeF,k1,if_true,hb,v0,v1,vn,Bool.true_and,Bool.or_true];rfl
 case a3=>cases e;simp only [shapeF,k1,if_true,hb,v0,v1,vn,Bool.true_and,Bool.or_self,Bool.and_false,Bool.false_and]
 case a4=>cases e;simp only [shapeF,k1,if_true,v0,Bool.false_and,Bool.and_false]
 case a5=>cases e;simp only [shapeF,k1,if_true,hb,Bool.false_and]
 all_goals simp only [shapeF,k1,Bool.false_eq_true,if_false]
 case b1=>cases e;simp only [k2,if_true,hb,Bool.true_and];rfl
 case b2=>cases e;simp only [k2,if_true,hb,Bool.false_and]
 all_goals simp only [k2,Bool.false_eq_true,if_false]
 case c1=>cases e;rw [hb] at ht;simp only [k3,if_true,<-ht,Bool.true_and];rfl
 case c2=>cases e;rw [hb] at ht;simp only [k3,if_true,<-ht,Bool.false_and]
 all_goals simp only [k3,Bool.false_eq_true,if_false]
 case d1=>cases e;simp only [k4,if_true,hb,hk,Bool.true_and,Bool.true_or];rfl
 case d2=>cases e;cases e2;simp only [k4,if_true,hb,hk,hb2,Bool.true_and,Bool.or_true];rfl
 case d3=>cases e;cases e2;simp only [k4,if_true,hb,hk,hb2,Bool.true_and,Bool.or_self,Bool.and_false,Bool.false_and]
 case d4=>cases e;simp only [k4,if_true,hb,Bool.false_and]
 all_goals simp only [k4,Bool.false_eq_true,if_false]
 case e1=>simp only [k5,if_true,hm,Bool.true_and,Bool.true_or];rfl
 case e2=>simp only [k5,if_true,hm,hp,Bool.true_and,Bool.or_true];rfl
 case e3=>simp only [k5,if_true,hm,hp,Bool.or_self,Bool.false_and]
 all_goals simp only [k5,Bool.false_eq_true,if_false]
 case f1=>cases e;simp only [k6,if_true,hb,Bool.true_and];rfl
 case f2=>cases e;simp only [k6,if_true,hb,Bool.false_and]
 all_goals simp only [k6,Bool.false_eq_true,if_false]
 case h1=>simp only [k7,Bool.false_eq_true,if_false]
 all_goals cases e
 all_goals simp only [k7,if_true,hu,Bool.true_and,Bool.false_and]
 all_goals cases e2
 case g1=>simp only [hb,ha,Bool.true_and,Bool.true_or];rfl
 case g2=>simp only [hb,ha,Bool.and_false,Bool.false_and]
 case g3=>simp only [hb,ht,ha,Bool.true_and,Bool.true_or,Bool.or_true];rfl
 case g4=>simp only [hb,ht,ha,Bool.and_false,Bool.false_and]
 case g5=>simp only [hb,ht,hf,ha,Bool.true_and,Bool.or_true];rfl
 case g6=>simp only [hb,ht,hf,ha,Bool.and_false,Bool.false_and]
 case g7=>simp only [hb,ht,hf,Bool.or_self,Bool.false_and]
mutual
def deepF:Nd->Int->Bool
 | .mk x l,k=>if k<1 then false else shapeF x&&deepFs l (k-1)
def deepFs:List Nd->Int->Bool
 |[],_=>true
 |n::l,k=>deepF n k&&deepFs l k
end
mutual
theorem deepF_mono:∀(n:Nd) (k j:Int),k<=j->deepF n k=true->deepF n j=true
 | .mk x l,k,j,h,hk=>by
  unfold deepF at hk |-;split at hk
  ·cases hk
  ·rw [if_neg (by omega)];simp only [Bool.and_eq_true] at hk |-;exact ⟨hk.1,deepFs_mono l (k-1) (j-1) (by omega) hk.2⟩
theorem deepFs_mono:∀(l:List Nd) (k j:Int),k<=j->deepFs l k=true->deepFs l j=true
 |[],_,_,_,_=>by unfold deepFs;rfl
 |n::l,k,j,h,hk=>by
  unfold deepFs at hk |-;simp only [Bool.and_eq_true] at hk |-;exact ⟨deepF_mono n k j h hk.1,deepFs_mono l k j h hk.2⟩
end
theorem deepFs_mem:∀{l:List Nd} {k:Int},deepFs l k=true->∀n∈l,deepF n k=true
 |[],_,_,n,hn=>by cases hn
 |m::l,k,h,n,hn=>by
  unfold deepFs at h;simp only [Bool.and_eq_true] at h;rcases List.mem_cons.1 hn with rfl |hn
  ·exact h.1
  ·exact deepFs_mem h.2 n hn
theorem loop109:∀(l:List Nd) (_:∀n∈l,∀H k,NdAt H n->0<=k->k<=1000->CallL cfg 109 [n.root.lv,.int .i64 k] H (Ret (.bool (deepF n k)) H)) (a:Option LAddr) (q:Cap) (k:Nat) (H0:LHeap) (j:Int),k<=1000000000->0<j->j<=1000->∀(r:Bool),deepFs l (j-1)=r->∀(i:Nat),i+l.length=k->NdsAt H0 l a i->∀(d:Nat->LV) (H:LHeap),
  GoesT cfg 109 (Ret (.bool r) H0) [] H0 [] (L109t_0 d (i:Int) j a k q (k:Int)) (loopAt cfg 109 0) H
 |[],_,a,q,k,H0,j,hk,hj,hj2,r,hr,i,hi,hA,d,H=>by
  intro hin hI;unfold deepFs at hr;refine g109t_0 _ H0 d i j a k q k H ⟨fun h=> ?_,fun h hI=>⟨by rw [<-hr],hI.pres⟩⟩ hin hI;simp at h hi;omega
 |n::l,hs,a,q,k,H0,j,hk,hj,hj2,r,hr,i,hi,hA,d,H=>by
  intro hin hI;rw [List.length_cons] at hi;unfold NdsAt at hA;unfold deepFs at hr;obtain ⟨⟨n1,n2,n3⟩,n4,n5⟩:=hA;have hj':lwrap .i64 (j-1)=j-1:=lwrap_small (by omega) (by omega);refine g109t_0 _ H0 d i j a k q k H ⟨fun h=>⟨⟨by omega,by omega,n1⟩,fun hI=>⟨n.root,?ld,fun i9 H10 _ _ H11 _ hI11=> ?call⟩⟩,fun h=> ?ge⟩ hin hI
  case ge=>simp at h;omega
  case ld=>
   simp only [Int.toNat_natCast];exact hI.pres.load0 (a:=⟨(adr a).id,(adr a).ver,(adr a).off+i*18⟩) n2 n3
  case call=>
   rw [hj'];refine ⟨_,hs n List.mem_cons_self H11 (j-1) (n4.on hI11.pres) (by omega) (by omega),Ret.use ⟨_,rfl⟩,fun b13 H14 ⟨e,_⟩=>⟨fun hb hI=>⟨?_,hI.pres⟩,fun hb d15=> ?_⟩⟩
   ·cases e;have:deepF n (j-1)=false:=by simpa using hb
    rw [<-hr,this];rfl
   ·cases e;have:deepF n (j-1)=true:=by simpa using hb
    rw [this,Bool.true_and] at hr;have hk':lwrap .i64 ((i:Int)+1)=((i+1:Nat):Int):=by rw [lwrap_small (by omega) (by omega)];simp
    rw [hk'];exact loop109 l (fun m hm=>hs m (List.mem_cons_of_mem _ hm)) a q k H0 j hk hj hj2 r hr (i+1) (by omega) n5 d15 H14
theorem s109(N:Nd)(H:LHeap)(k:Int)(hT:NdStr N)(hS:NdSm N)(hN:NdAt H N)(k0:0<=k)(k1:k<=1000):CallL cfg 109 [N.root.lv,.int .i64 k] H (Ret (.bool (deepF N k)) H):=by
 match N,hT,hS,hN with
 | .mk x l,hT,hS,hN=>
  have hN':=hN;unfold NdAt at hN';unfold NdSm at hS;unfold NdStr at hT;have hstr:x.s.length<=9223372036854775807:=by have:=hT.1;unfold maxLen at this;omega
  refine e109t _ x k H fun i2 H3 _ p3=>⟨fun h hI=>⟨?_,hI.pres⟩,fun hne hI=>⟨_,s192 x H3 hstr,Ret.use ⟨_,rfl⟩,fun b5 H6 ⟨e,_⟩=>⟨fun hb hI=>⟨?_,hI.pres⟩,fun hb5 d7=> ?_⟩⟩⟩
  ·unfold deepF;rw [if_pos (by simpa using h)]
  ·cases e;have:shapeF x=false:=by simpa using hb
   unfold deepF;rw [this,if_neg (by simpa using hne)];rfl
  ·cases e;have:shapeF x=true:=by simpa using hb5
   have hd:deepF (.mk x l) k=deepFs l (k-1):=by
    unfold deepF;rw [this,if_neg (by simpa using hne),Bool.true_and]
   rw [hd];exact loop109 l (fun n hn H' k' hA h0 h1=>s109 n H' k' (hT.2.mem n hn) (hS.2.mem n hn) hA h0 h1) x.argsA x.argsQ x.argsL H k hS.1 (by simp at hne;omega) k1 _ rfl 0 (by have:=hN'.1;omega) hN'.2.2 d7 H6
termination_by SizeOf.sizeOf N
decreasing_by
 have:=List.sizeOf_lt_of_mem hn
 simp_wf
 omega
theorem s46(N:Nd)(H:LHeap)(hT:NdStr N)(hS:NdSm N)(hN:NdAt H N):CallL cfg 46 [N.root.lv] H (Ret (.bool (deepF N 24)) H):=by
 refine e46t _ N.root H fun i1 H2 _ p2 hI=>⟨_,s109 N H2 24 hT hS (hN.on p2) (by omega) (by omega),Ret.use ⟨_,rfl⟩,fun b4 H5 ⟨e,_⟩ hI=>⟨e,hI.pres⟩⟩
mutual
def depthT:Nd->Int
 | .mk _ l=>depthTs l 0+1
def depthTs:List Nd->Int->Int
 |[],d=>d
 |n::l,d=>depthTs l (if depthT n>d then depthT n else d)
end
mutual
theorem depth_le:∀(n:Nd),1<=depthT n/\depthT n<=(preT n).length
 | .mk x l=>by
  have:=depths_le l 0 (by omega);unfold depthT;rw [preT,List.length_cons];omega
theorem depths_le:∀(l:List Nd) (d:Int),0<=d->d<=depthTs l d/\(depthTs l d<=d\/depthTs l d<=(preTs l).length)
 |[],d,h=>by unfold depthTs;omega
 |n::l,d,h=>by
  have h1:=depth_le n;unfold depthTs;rw [preTs,List.length_append];split
  ·have h2:=depths_le l (depthT n) (by omega);omega
  ·have h2:=depths_le l d h;omega
end
theorem loop50:∀(l:List Nd) (_:∀n∈l,∀H,NdAt H n->CallL cfg 50 [n.root.lv] H (Ret (.int .i64 (depthT n)) H)) (a:Option LAddr) (q:Cap) (k:Nat) (H0:LHeap) (r:Int),k<=1000000000->∀(dp:Int),0<=dp->dp<=1000000->(preTs l).length<=1000000->depthTs l dp=r->∀(i:Nat),i+l.length=k->NdsAt H0 l a i->∀(d:Nat->LV) (H:LHeap),
  GoesT cfg 50 (Ret (.int .i64 (r+1)) H0) [] H0 [] (L50t_0 d (i:Int) dp a k q (k:Int)) (loopAt cfg 50 0) H
 |[],_,a,q,k,H0,r,hk,dp,h0,h1,hsz,hr,i,hi,hA,d,H=>by
  intro hin hI;unfold depthTs at hr;refine g50t_0 _ H0 d i dp a k q k H ⟨fun h=> ?_,fun h hI=>⟨by rw [lwrap_small (by omega) (by omega),hr],hI.pres⟩⟩ hin hI;simp at h hi;omega
 |n::l,hs,a,q,k,H0,r,hk,dp,h0,h1,hsz,hr,i,hi,hA,d,H=>by
  intro hin hI;rw [List.length_cons] at hi;rw [preTs,List.length_append] at hsz;unfold NdsAt at hA;unfold depthTs at hr;obtain ⟨⟨n1,n2,n3⟩,n4,n5⟩:=hA;have hd:=depth_le n;have hk':lwrap .i64 ((i:Int)+1)=((i+1:Nat):Int):=by rw [lwrap_small (by omega) (by omega)];simp
  refine g50t_0 _ H0 d i dp a k q k H ⟨fun h=>⟨⟨by omega,by omega,n1⟩,fun hI=>⟨n.root,?ld,fun i9 H10 _ _ H11 _ hI11=>⟨_,hs n List.mem_cons_self H11 (n4.on hI11.pres),Ret.use ⟨_,rfl⟩,fun n13 H14 ⟨e,_⟩ d15=> ?next⟩⟩⟩,fun h=> ?ge⟩ hin hI
  case ge=>simp at h;omega
  case ld=>
   simp only [Int.toNat_natCast];exact hI.pres.load0 (a:=⟨(adr a).id,(adr a).ver,(adr a).off+i*18⟩) n2 n3
  case next=>
   cases e;rw [hk'];refine loop50 l (fun m hm=>hs m (List.mem_cons_of_mem _ hm)) a q k H0 r hk _ ?_ ?_ (by omega) hr (i+1) (by omega) n5 d15 H14
   ·split<;>omega
   ·split<;>omega
theorem s50(N:Nd)(H:LHeap)(hS:NdSm N)(hN:NdAt H N)(hsz:(preT N).length<=1000000):CallL cfg 50 [N.root.lv] H (Ret (.int .i64 (depthT N)) H):=by
 match N,hS,hN,hsz with
 | .mk x l,hS,hN,hsz=>
  have hN':=hN;unfold NdAt at hN';unfold NdSm at hS;rw [preT,List.length_cons] at hsz;have hmem:∀n∈l,(preT n).length<=1000000:=by
   intro n hn;have h1:=bareTs_mem hn;rw [bareT_len] at h1;unfold bareTs at h1;rw [List.length_map] at h1;omega
  refine e50t _ x H fun i1 H2 _ _ d3=> ?_;unfold depthT;exact loop50 l (fun n hn H' hA=>s50 n H' (hS.2.mem n hn) hA (hmem n hn)) x.argsA x.argsQ x.argsL H _ hS.1 0 (by omega) (by omega) (by omega) rfl 0 (by have:=hN'.1;omega) hN'.2.2 d3 H2
termination_by SizeOf.sizeOf N
decreasing_by
 have:=List.sizeOf_lt_of_mem hn
 simp_wf
 omega
def eqV(x y:NdC):Bool:=(x.valueKind==y.valueKind)&&((x.valueN==y.valueN)&&(x.valueS==y.valueS))
def eqR(x y:NdC):Bool:=(x.refBook==y.refBook)&&((x.refSheet==y.refSheet)&&((x.refRow==y.refRow)&&((x.refCol==y.refCol)&&((x.refFixRow==y.refFixRow)&&(x.refFixCol==y.refFixCol)))))
def eqT(x y:NdC):Bool:=(x.toBook==y.toBook)&&((x.toSheet==y.toSheet)&&((x.toRow==y.toRow)&&((x.toCol==y.toCol)&&((x.toFixRow==y.toFixRow)&&(x.toFixCol==y.toFixCol)))))
def headEq(x y:NdC):Bool:=(x.kind==y.kind)&&((x.s==y.s)&&(eqV x y&&(eqR x y&&eqT x y)))
mutual
def sameT:Nd->Nd->Bool
 | .mk x l,.mk y m=>headEq x y&&sameTs l m
def sameTs:List Nd->List Nd->Bool
 |[],[]=>true
 |a::l,b::m=>sameT a b&&sameTs l m
 |_,_=>false
end
theorem sameTs_len:∀{l m:List Nd},l.length≠m.length->sameTs l m=false
 |[],[],h=>by simp at h
 |[],_::_,_=>by unfold sameTs;rfl
 |_::_,[],_=>by unfold sameTs;rfl
 |a::l,b::m,h=>by
  unfold sameTs;rw [sameTs_len (by simpa using h),Bool.and_false]
mutual
theorem s53:∀(n m:Nd) (H:LHeap),NdAt H n->NdAt H m->CallL cfg 53 [n.root.lv,m.root.lv] H (Ret (.bool (sameT n m)) H)
 | .mk x l,.mk y m,H,hn,hm=>by
  have key:∀{H':LHeap} {b:Bool},sameT (.mk x l) (.mk y m)=b->PresX [] H H'->Ret (.bool (sameT (.mk x l) (.mk y m))) H (.bool b) H':=fun e p=>by rw [e];exact .mk p
  have no:headEq x y=false->sameT (.mk x l) (.mk y m)=false:=fun h=>by unfold sameT;rw [h];rfl
  unfold NdAt at hn hm;refine e53 _ x y H fun i H1 j H2=>⟨fun k hI=>key (no ?n5) hI.pres,fun k=>⟨fun s hI=>key (no ?n4) hI.pres,fun s=>⟨fun v hI=>key (no ?n3) hI.pres,fun v=>⟨fun r hI=>key (no ?n2) hI.pres,fun r=>⟨fun t hI=>key (no ?n1) hI.pres,fun t=>⟨fun ll hI=>key ?len hI.pres,fun ll d=> ?yes⟩⟩⟩⟩⟩⟩
  case yes=>
   have hk:x.kind==y.kind:=by simpa using k
   have hs:x.s==y.s:=by simpa using s
   have hv:eqV x y=true:=by unfold eqV;simpa using v
   have hr:eqR x y=true:=by unfold eqR;simpa using r
   have ht:eqT x y=true:=by unfold eqT;simpa using t
   have hh:headEq x y=true:=by unfold headEq;rw [hk,hs,hv,hr,ht];rfl
   have hkj:x.argsL=y.argsL:=by simp at ll;omega
   have e:sameT (.mk x l) (.mk y m)=sameTs l m:=by unfold sameT;rw [hh,Bool.true_and]
   exact loop53 l m x y x.argsL i j H hn.2.1 rfl hkj.symm 0 (by omega) (by omega) hn.2.2 hm.2.2 _ e.symm d H2
  case len=>
   unfold sameT;rw [sameTs_len,Bool.and_false];rw [hn.1,hm.1];intro hc;rw [hc] at ll;simp at ll
  case n1=>have ht:eqT x y=false:=by { have h':(!(eqT x y))=true:=t;simpa using h' };unfold headEq;rw [ht];simp
  case n2=>have ht:eqR x y=false:=by { have h':(!(eqR x y))=true:=r;simpa using h' };unfold headEq;rw [ht];simp
  case n3=>have ht:eqV x y=false:=by { have h':(!(eqV x y))=true:=v;simpa using h' };unfold headEq;rw [ht];simp
  case n4=>have ht:(x.s==y.s)=false:=by { simpa using s };unfold headEq;rw [ht];simp
  case n5=>have ht:(x.kind==y.kind)=false:=by { simpa using k };unfold headEq;rw [ht];simp
theorem loop53:∀(l m:List Nd) (x y:NdC) (k:Nat) (i1 i2:Nat) (H0:LHeap),k<=maxLen->x.argsL=k->y.argsL=k->∀(i:Nat),i+l.length=k->m.length=l.length->NdsAt H0 l x.argsA i->NdsAt H0 m y.argsA i->∀(r:Bool),sameTs l m=r->∀(d:Nat->LV) (H:LHeap),
  GoesT cfg 53 (Ret (.bool r) H0) [] H0 [(Slot.mk i1 (NdC.cs x) 72),(Slot.mk i2 (NdC.cs y) 72)] (L53_0 d (i:Int) (k:Int)) (loopAt cfg 53 0) H
 |[],m,x,y,k,i1,i2,H0,hk,hxk,hyk,i,hi,hml,hl,hm,r,hr,d,H=>by
  intro hin hI;refine g53_0 _ H0 d i k i1 x i2 y H ⟨fun h=> ?_,fun h hI=> ?_⟩ hin hI
  ·simp at h hi;omega
  ·obtain rfl:m=[]:=by simpa using hml
   unfold sameTs at hr;rw [<-hr];exact .mk hI.pres
 |n::l,[],x,y,k,i1,i2,H0,hk,hxk,hyk,i,hi,hml,hl,hm,r,hr,d,H=>by simp at hml
 |n::l,o::m,x,y,k,i1,i2,H0,hk,hxk,hyk,i,hi,hml,hl,hm,r,hr,d,H=>by
  intro hin hI;rw [List.length_cons] at hi;unfold NdsAt at hl hm;obtain ⟨⟨n1,n2,n3⟩,n4,n5⟩:=hl;obtain ⟨⟨m1,m2,m3⟩,m4,m5⟩:=hm;unfold maxLen at hk;unfold sameTs at hr;have ld:∀{H':LHeap},PresX [] H0 H'->loadT cfg.P H' 72 ⟨(adr x.argsA).id,(adr x.argsA).ver,(adr x.argsA).off+((i:Int)).toNat*18⟩=some n.root.lv:=fun p=>by rw [toNat_mul];exact p.load0 (a:=⟨(adr x.argsA).id,(adr x.argsA).ver,(adr x.argsA).off+i*18⟩) n2 n3
  have ld':∀{H':LHeap},PresX [] H0 H'->loadT cfg.P H' 72 ⟨(adr y.argsA).id,(adr y.argsA).ver,(adr y.argsA).off+((i:Int)).toNat*18⟩=some o.root.lv:=fun p=>by rw [toNat_mul];exact p.load0 (a:=⟨(adr y.argsA).id,(adr y.argsA).ver,(adr y.argsA).off+i*18⟩) m2 m3
  refine g53_0 _ H0 d i k i1 x i2 y H ⟨fun h=>⟨⟨by omega,by omega,n1⟩,fun hI=>⟨n.root,ld hI.pres,⟨by omega,by omega,m1⟩,fun hI=>⟨o.root,ld' hI.pres,fun hI=>⟨ld' hI.pres,ld hI.pres,rfl,fun hI=>
   ⟨_,s53 n o H (n4.on hI.pres) (m4.on hI.pres),Ret.use ⟨_,rfl⟩,fun w H5 ⟨e1,p⟩ hI=>⟨fun hc hI=> ?no,fun hc d1=> ?go⟩⟩⟩⟩⟩⟩,fun h=> ?ge⟩ hin hI
  case ge=>simp at h;omega
  case no=>
   cases e1;have hs:sameT n o=false:=by simpa using hc
   rw [hs] at hr;rw [<-hr];exact .mk hI.pres
  case go=>
   cases e1;have hs:sameT n o=true:=by simpa using hc
   rw [hs,Bool.true_and] at hr;rw [lwrap_small (by omega) (by omega)];exact loop53 l m x y k i1 i2 H0 (by unfold maxLen;omega) hxk hyk (i+1) (by omega) (by simpa using hml) n5 m5 r hr d1 H5
end
theorem headEq_self(x:NdC):headEq x x=true:=by simp [headEq,eqV,eqR,eqT]
mutual
theorem sameT_self:∀(n:Nd),sameT n n=true
 | .mk x l=>by unfold sameT;rw [headEq_self,sameTs_self l];rfl
theorem sameTs_self:∀(l:List Nd),sameTs l l=true
 |[]=>by unfold sameTs;rfl
 |n::l=>by unfold sameTs;rw [sameT_self n,sameTs_self l];rfl
end
theorem nds_of{H:LHeap}{a:Option LAddr}:∀(l:List Nd) (k:Nat),(∀(i:Nat) (n:Nd),l[i]? =some n->(a.isSome=true/\(adr a).id<H.next/\loadT cfg.P H 72 ⟨(adr a).id,(adr a).ver,(adr a).off+(k+i)*18⟩=some n.root.lv)/\NdAt H n)->NdsAt H l a k
 |[],_,_=>by unfold NdsAt;trivial
 |n::l,k,h=>by
  unfold NdsAt;obtain ⟨h1,h2⟩:=h 0 n rfl;exact ⟨h1,h2,nds_of l (k+1) fun i m hi=>by rw [show k+1+i=k+(i+1) by omega];exact h (i+1) m (by simpa using hi)⟩
theorem nd_of_rep{H:LHeap}(hH:∀(a:LAddr) (n:Nat) (cs:List LV),loadN H a n=some cs->a.id<H.next):∀(k:Nat) (cs:List LV) (d:D),SizeOf.sizeOf d<=k->Rep Tryz.prog H 72 cs d->∃n:Nd,cs=n.root.cs/\NdAt H n/\NdE H (fun _=>True) n/\NdStr n
 |0,cs,d,hk,h=>by cases d<;>simp at hk
 |k+1,cs,d,hk,h=>by
  obtain ⟨l,rfl,hc,hl,hf⟩:=Rep.struct_inv Tryz.underlying72 h;have c72:Tryz.prog.cellsOf 72=18:=by kernel_rfl
  have al:=rep_leaves 10 72 [3,9,3,3,9,9,9,3,3,4,4,9,9,3,3,4,4,70] cs _ (by kernel_rfl) h;obtain ⟨c0,t0,g0,rfl,z0,al⟩:=AllRep.head al;obtain ⟨c1,t1,g1,rfl,z1,al⟩:=AllRep.head al;obtain ⟨c2,t2,g2,rfl,z2,al⟩:=AllRep.head al;obtain ⟨c3,t3,g3,rfl,z3,al⟩:=AllRep.head al;obtain ⟨c4,t4,g4,rfl,z4,al⟩:=AllRep.head al;obtain ⟨c5,t5,g5,rfl,z5,al⟩:=AllRep.head al;obtain ⟨c6,t6,g6,rfl,z6,al⟩:=AllRep.head al;obtain ⟨c7,t7,g7,rfl,z7,al⟩:=AllRep.head al;obtain ⟨c8,t8,g8,rfl,z8,al⟩:=AllRep.head al;obtain ⟨c9,t9,g9,rfl,z9,al⟩:=AllRep.head al;obtain ⟨c10,t10,g10,rfl,z10,al⟩:=AllRep.head al;obtain ⟨c11,t11,g11,rfl,z11,al⟩:=AllRep.head al;obtain ⟨c12,t12,g12,rfl,z12,al⟩:=AllRep.head al;obtain ⟨c13,t13,g13,rfl,z13,al⟩:=AllRep.head al;obtain ⟨c14,t14,g14,rfl,z14,al⟩:=AllRep.head al;obtain ⟨c15,t15,g15,rfl,z15,al⟩:=AllRep.head al;obtain ⟨c16,t16,g16,rfl,z16,al⟩:=AllRep.head al;obtain ⟨c17,t17,g17,rfl,z17,al⟩:=AllRep.head al;obtain rfl:=AllRep.last al;obtain ⟨x0,rfl,_⟩:=Rep.int_inv (t:=3) (k:=.i64) (by kernel_rfl) z0;obtain ⟨x1,rfl,hx1⟩:=Rep.str_inv (t:=9) (by kernel_rfl) z1;obtain ⟨x2,rfl,_⟩:=Rep.int_inv (t:=3) (k:=.i64) (by kernel_rfl) z2;obtain ⟨x3,rfl,_⟩:=Rep.int_inv (t:=3) (k:=.i64) (by kernel_rfl) z3;obtain ⟨x4,rfl,_⟩:=Rep.str_inv (t:=9) (by kernel_rfl) z4;obtain ⟨x5,rfl,_⟩:=Rep.str_inv (t:=9) (by kernel_rfl) z5;obtain ⟨x6,rfl,_⟩:=Rep.str_inv (t:=9) (by kernel_rfl) z6;obtain ⟨x7,rfl,_⟩:=Rep.int_inv (t:=3) (k:=.i64) (by kernel_rfl) z7;obtain ⟨x8,rfl,_⟩:=Rep.int_inv (t:=3) (k:=.i64) (by kernel_rfl) z8;obtain ⟨x9,rfl⟩:=Rep.bool_inv (t:=4) (by kernel_rfl) z9;obtain ⟨x10,rfl⟩:=Rep.bool_inv (t:=4) (by kernel_rfl) z10;obtain ⟨x11,rfl,_⟩:=Rep.str_inv (t:=9) (by kernel_rfl) z11;obtain ⟨x12,rfl,_⟩:=Rep.str_inv (t:=9) (by kernel_rfl) z12;obtain ⟨x13,rfl,_⟩:=Rep.int_inv (t:=3) (k:=.i64) (by kernel_rfl) z13;obtain ⟨x14,rfl,_⟩:=Rep.int_inv (t:=3) (k:=.i64) (by kernel_rfl) z14;obtain ⟨x15,rfl⟩:=Rep.bool_inv (t:=4) (by kernel_rfl) z15;obtain ⟨x16,rfl⟩:=Rep.bool_inv (t:=4) (by kernel_rfl) z16;have h6:l.length=6:=hl;have hr5:=hf 5 _ l[5] rfl (List.getElem?_eq_getElem (by omega));have hr5':Rep Tryz.prog H 70 [c17] l[5]:=hr5;obtain ⟨a,m,q,xs,ds,rfl,hs,hd⟩:=Rep.slice_inv2 (t:=70) (e:=72) (by kernel_rfl) hr5';have kids:∀i,i<m->∃n:Nd,(a.isSome=true/\(adr a).id<H.next/\loadT cfg.P H 72 ⟨(adr a).id,(adr a).ver,(adr a).off+(0+i)*18⟩=some n.root.lv)/\NdAt H n/\NdE H (fun _=>True) n/\NdStr n:=by
   intro i hi;have hil:i<ds.length:=by rw [hs.len];exact hi
   have hds:l[5]=.slice ds:=by
    rcases hd with hd |hd
    ·exact hd
    ·rw [hd] at hil;simp at hil
   have hsz:SizeOf.sizeOf ds[i]<SizeOf.sizeOf l[5]:=by
    rw [hds];have:=List.sizeOf_lt_of_mem (List.getElem_mem hil);simp;omega
   have hsz2:SizeOf.sizeOf l[5]<SizeOf.sizeOf l:=List.sizeOf_lt_of_mem (List.getElem_mem (by omega));obtain ⟨n,h1,h2⟩:=nd_of_rep hH k (xs i) ds[i] (by simp at hk;omega) (hs.rep i _ (List.getElem?_eq_getElem hil));have hld:=hs.load i hi;rw [c72,h1] at hld;rw [Nat.zero_add];exact ⟨n,⟨hs.some i hi,hH ⟨(adr a).id,(adr a).ver,(adr a).off+i*18⟩ _ _ hld,load_agg (by kernel_rfl) (by kernel_rfl) hld⟩,h2⟩
  obtain ⟨args,h1,h2⟩:=list_of m kids;refine ⟨.mk ⟨x0,x1,x2,x3,x4,x5,x6,x7,x8,x9,x10,x11,x12,x13,x14,x15,x16,a,m,q⟩ args,rfl,?_⟩;refine ⟨?_,?_,?_⟩
  ·unfold NdAt;exact ⟨h1,hs.cap,nds_of args 0 fun i n hi=>⟨(h2 i n hi).1,(h2 i n hi).2.1⟩⟩
  ·unfold NdE;refine ⟨fun ad e=>⟨trivial,hH ad 0 _ (hs.zero ad e),hs.zero ad e⟩,NdsE.all fun m hm=> ?_⟩;obtain ⟨i,hi,rfl⟩:=List.getElem_of_mem hm;exact (h2 i _ (List.getElem?_eq_getElem hi)).2.2.1
  ·unfold NdStr;refine ⟨hx1,NdsStr.all fun m hm=> ?_⟩;obtain ⟨i,hi,rfl⟩:=List.getElem_of_mem hm;exact (h2 i _ (List.getElem?_eq_getElem hi)).2.2.2
theorem node_argE{W:World}{dm:LAddr}{cs:List LV}{d:D}(h:Rep Tryz.prog (heapOf W dm) 72 cs d):∃n:Nd,cs=n.root.cs/\NdAt (heapOf W dm) n/\NdE (heapOf W dm) (fun _=>True) n/\NdStr n:=
 nd_of_rep (fun a n cs h=>heapOf_lt h) _ cs d (Nat.le_refl _) h
theorem areaTx_nil(r t:RefC):(areaTx r t==[])= !areaF r t:=by
 unfold areaTx;cases h:areaF r t<;>simp
theorem binds_nn(s:List UInt8):0<=bindsF s:=by
 have g:∀(b:Bool) (p q:Int),0<=p->0<=q->0<=(if b=true then p else q):=by intro b p q hp hq;cases b<;>simp<;>assumption
 unfold bindsF
 repeat (refine g _ _ _ (by decide) ?_)
 decide
theorem sh1{x w:NdC}(k:(x.kind==1)=true)(h1:valF (valO x)=true)(h2:(x.valueKind==0)=false)(h3:(x.valueKind==1)=true->decide (x.valueN<0)=false)(ha:x.argsL=0)
  (hw:w={ kindN x with valueKind:=x.valueKind,valueN:=x.valueN,valueS:=x.valueS,argsA:=x.argsA,argsL:=x.argsL,argsQ:=x.argsQ }):shapeF x=headEq x w:=by
 subst hw;unfold shapeF tailF headEq eqV eqR eqT vS rZ tZ kindN;rw [h1,ha];simp only [k,if_true];rw [Bool.eq_iff_iff];simp only [Bool.and_eq_true,beq_iff_eq,bne_iff_ne,Bool.or_eq_true,decide_eq_true_eq] at*;simp at*
 grind
theorem sh2{x w:NdC}(k1:(x.kind==1)=false)(k:(x.kind==2)=true)(h1:refF (refO x)=true)(ha:x.argsL=0)
  (hw:w={ kindN x with refBook:=x.refBook,refSheet:=x.refSheet,refRow:=x.refRow,refCol:=x.refCol,refFixRow:=x.refFixRow,refFixCol:=x.refFixCol,argsA:=x.argsA,argsL:=x.argsL,argsQ:=x.argsQ }):shapeF x=headEq x w:=by
 subst hw;unfold shapeF tailF headEq eqV eqR eqT vZ rS tZ kindN;rw [h1,ha];simp only [k1,k,if_true,Bool.false_eq_true,if_false];rw [Bool.eq_iff_iff];simp at*
 grind
theorem sh3{x w:NdC}(k1:(x.kind==1)=false)(k2:(x.kind==2)=false)(k:(x.kind==3)=true)(h1:areaF (refO x) (toO x)=true)(ha:x.argsL=0)
  (hw:w={ kindN x with refBook:=x.refBook,refSheet:=x.refSheet,refRow:=x.refRow,refCol:=x.refCol,refFixRow:=x.refFixRow,refFixCol:=x.refFixCol,toBook:=x.toBook,toSheet:=x.toSheet,toRow:=x.toRow,toCol:=x.toCol,toFixRow:=x.toFixRow,toFixCol:=x.toFixCol,argsA:=x.argsA,argsL:=x.argsL,argsQ:=x.argsQ }):shapeF x=headEq x w:=by
 subst hw;unfold shapeF tailF headEq eqV eqR eqT vZ rS tS kindN;rw [h1,ha];simp only [k1,k2,k,if_true,Bool.false_eq_true,if_false];rw [Bool.eq_iff_iff];simp at*
 grind
theorem sh4{x w:NdC}(k1:(x.kind==1)=false)(k2:(x.kind==2)=false)(k3:(x.kind==3)=false)(k:(x.kind==4)=true)(h1:nameF x.s=true)(h2:x.refBook=[]\/nameF x.refBook=true)(ha:x.argsL=0)
  (hw:w={ kindN x with s:=x.s,refBook:=x.refBook,argsA:=x.argsA,argsL:=x.argsL,argsQ:=x.argsQ }):shapeF x=headEq x w:=by
 subst hw;unfold shapeF tailF headEq eqV eqR eqT vZ rB tZ kindN;rw [h1,ha];simp only [k1,k2,k3,k,if_true,Bool.false_eq_true,if_false];rw [Bool.eq_iff_iff];simp at*
 grind
theorem sh5{x w:NdC}(k1:(x.kind==1)=false)(k2:(x.kind==2)=false)(k3:(x.kind==3)=false)(k4:(x.kind==4)=false)(k:(x.kind==5)=true)(h1:x.s=[45]\/x.s=[37])(ha:x.argsL=1)
  (hw:w={ kindN x with s:=x.s,argsA:=x.argsA,argsL:=x.argsL,argsQ:=x.argsQ }):shapeF x=headEq x w:=by
 subst hw;unfold shapeF tailF headEq eqV eqR eqT vZ rZ tZ kindN;rw [ha];simp only [k1,k2,k3,k4,k,if_true,Bool.false_eq_true,if_false];rw [Bool.eq_iff_iff];simp at*
 grind
theorem sh6{x w:NdC}(k1:(x.kind==1)=false)(k2:(x.kind==2)=false)(k3:(x.kind==3)=false)(k4:(x.kind==4)=false)(k5:(x.kind==5)=false)(k:(x.kind==6)=true)(h1:(bindsF x.s==0)=false)(ha:x.argsL=2)
  (hw:w={ kindN x with s:=x.s,argsA:=x.argsA,argsL:=x.argsL,argsQ:=x.argsQ }):shapeF x=headEq x w:=by
 subst hw;have hb:=binds_nn x.s;unfold shapeF tailF headEq eqV eqR eqT vZ rZ tZ kindN;rw [ha];simp only [k1,k2,k3,k4,k5,k,if_true,Bool.false_eq_true,if_false];rw [Bool.eq_iff_iff];simp at*
 grind
theorem sh7{x w:NdC}(k1:(x.kind==1)=false)(k2:(x.kind==2)=false)(k3:(x.kind==3)=false)(k4:(x.kind==4)=false)(k5:(x.kind==5)=false)(k6:(x.kind==6)=false)(k:(x.kind==7)=true)(h1:x.s.map upB=x.s)
  (h2:nameF x.s=true\/0<=truthF x.s) (ha:x.argsL<=16)
  (hw:w={ kindN x with s:=x.s,argsA:=x.argsA,argsL:=x.argsL,argsQ:=x.argsQ }):shapeF x=headEq x w:=by
 subst hw;have ht:0<=truthF x.s->x.s=[84,82,85,69]\/x.s=[70,65,76,83,69]:=by
  unfold truthF;rw [h1];simp only [beq_iff_eq]
  grind
 unfold shapeF tailF headEq eqV eqR eqT vZ rZ tZ kindN;simp only [k1,k2,k3,k4,k5,k6,k,if_true,Bool.false_eq_true,if_false];rw [Bool.eq_iff_iff];simp at*
 grind
theorem truth_no{s:List UInt8}(h:s.map upB=s)(ht:truthF s<0):(s==[84,82,85,69])=false/\(s==[70,65,76,83,69])=false:=by
 unfold truthF at ht;rw [h] at ht;constructor
 ·cases e:(s==[84,82,85,69])
  ·rfl
  ·rw [e] at ht;simp at ht
 ·cases e:(s==[70,65,76,83,69])
  ·rfl
  ·rw [e] at ht;cases e2:(s==[84,82,85,69])
   ·rw [e2] at ht;simp at ht
   ·rw [e2] at ht;simp at ht
theorem q204(s:List UInt8)(H:LHeap):CallL cfg 204 [.str s] H (Ret (.int .i64 (bindsF s)) H):=by
 refine e204t _ s H ⟨fun h1 hI=>⟨?_,hI.pres⟩,fun h1=>⟨fun h2 hI=>⟨?_,hI.pres⟩,fun h2=>⟨fun h3 hI=>⟨?_,hI.pres⟩,fun h3=>⟨fun h4 hI=>⟨?_,hI.pres⟩,fun h4=>⟨fun h5 hI=>⟨?_,hI.pres⟩,fun h5=>⟨fun h6 hI=>⟨?_,hI.pres⟩,fun h6=>⟨fun h7 hI=>⟨?_,hI.pres⟩,fun h7=>⟨fun h8 hI=>⟨?_,hI.pres⟩,fun h8=>⟨fun h9 hI=>⟨?_,hI.pres⟩,fun h9=>⟨fun h10 hI=>⟨?_,hI.pres⟩,fun h10=>⟨fun h11 hI=>⟨?_,hI.pres⟩,fun h11=>⟨fun h12 hI=>⟨?_,hI.pres⟩,fun h12 hI=>⟨?_,hI.pres⟩⟩⟩⟩⟩⟩⟩⟩⟩⟩⟩⟩⟩
 all_goals simp only [bindsF, *,if_true,Bool.false_eq_true,if_false]
theorem q258(v:ValC)(H:LHeap):CallL cfg 258 [v.lv] H (Ret (.bool (valF v)) H):=by
 refine e258t _ v H fun i1 H2 _ _=>⟨fun h hI=>⟨?_,hI.pres⟩,fun h0=>⟨fun h1 hI=>⟨_,s283 v.n H2,Ret.use ⟨_,rfl⟩,fun b5 H6 ⟨e,_⟩=>⟨fun hb hI=>⟨?_,hI.pres⟩,fun hb hI=>⟨?_,hI.pres⟩⟩⟩,fun h1=>⟨fun h2=>⟨fun hn hI=>⟨?_,hI.pres⟩,fun hn hI=>⟨?_,hI.pres⟩⟩,fun h2=>⟨fun h3=>⟨fun hn hI=>⟨?_,hI.pres⟩,fun hn=>⟨fun hm hI=>⟨?_,hI.pres⟩,fun hm hI=>⟨?_,hI.pres⟩⟩⟩,fun h3=>⟨fun h4=>⟨fun hn=>⟨fun hm hI=>⟨?_,hI.pres⟩,fun hm hI=>⟨?_,hI.pres⟩⟩,fun hn hI=>⟨?_,hI.pres⟩⟩,fun h4 hI=>⟨?_,hI.pres⟩⟩⟩⟩⟩⟩
 all_goals
  try cases e
  clear hI;congr 1;unfold valF;simp only [beq_iff_eq,beq_eq_false_iff_ne,decide_eq_true_eq,decide_eq_false_iff_not] at*
  grind
theorem shape_args{x:NdC}(h:x.kind<5)(ha:x.argsL≠0):shapeF x=false:=by
 have e:((0:Int)==((x.argsL:Nat):Int))=false:=by simp;omega
 have e5:(x.kind==(5:Int))=false:=by simp;omega
 have e6:(x.kind==(6:Int))=false:=by simp;omega
 have e7:(x.kind==(7:Int))=false:=by simp;omega
 unfold shapeF tailF;rw [e,e5,e6,e7];simp
theorem same_end'{x w:NdC}{l:List Nd}{H0 H1:LHeap}{kn:List Slot}(hN:NdAt H1 (.mk x l))(ha:w.argsA=x.argsA)(hl:w.argsL=x.argsL)(hq:shapeF x=headEq x w):
  ∃S:LV->LHeap->Prop,CallL cfg 53 [x.lv,w.lv] H1 S/\(∀v H',S v H'->PresX [] H1 H'/\hasSh .bool v)/\∀(b:Bool) (H':LHeap),S (.bool b) H'->Inv [] H0 kn H'->Ret (.bool (shapeF x)) H0 (.bool b) H':=by
 have hw:NdAt H1 (.mk w l):=by
  unfold NdAt at hN |-;rw [ha,hl];exact hN
 refine ⟨_,s53 (.mk x l) (.mk w l) H1 hN hw,Ret.use ⟨_,rfl⟩,fun b H' ⟨e,_⟩ hI=>⟨?_,hI.pres⟩⟩;rw [e,hq];unfold sameT;rw [sameTs_self,Bool.and_true]
theorem tail_end'{x w:NdC}{l:List Nd}{H0 H1:LHeap}{kn:List Slot}(hN:NdAt H0 (.mk x l))(ha:w.argsA=x.argsA)(hl:w.argsL=x.argsL)(hq:(x.kind<5->x.argsL=0)->shapeF x=headEq x w):
   (((decide (x.kind<5))=true->(((decide (((x.argsL:Nat):Int)>0))=true->(Inv [] H0 kn H1->Ret (.bool (shapeF x)) H0 (.bool Bool.false) H1))
 /\ ((decide (((x.argsL:Nat):Int)>0))=false->(Inv [] H0 kn H1->∃S:LV->LHeap->Prop,CallL cfg 53 [x.lv,w.lv] H1 S/\(∀v H',S v H'->PresX [] H1 H'/\hasSh .bool v)/\
  (∀(b:Bool) (H':LHeap),S (.bool b) H'->(Inv [] H0 kn H'->Ret (.bool (shapeF x)) H0 (.bool b) H'))))))
 /\ ((decide (x.kind<5))=false->(Inv [] H0 kn H1->∃S:LV->LHeap->Prop,CallL cfg 53 [x.lv,w.lv] H1 S/\(∀v H',S v H'->PresX [] H1 H'/\hasSh .bool v)/\
  (∀(b:Bool) (H':LHeap),S (.bool b) H'->(Inv [] H0 kn H'->Ret (.bool (shapeF x)) H0 (.bool b) H'))))):=by
  refine ⟨fun hk=>⟨fun h hI=>⟨?_,hI.pres⟩,fun h0 hI=>same_end' (hN.on hI.pres) ha hl (hq fun _=> ?_)⟩,fun hk hI=>same_end' (hN.on hI.pres) ha hl (hq fun hk'=> ?_)⟩
  ·rw [shape_args (by simpa using hk) (by simp at h;omega)]
  ·simp at h0;omega
  ·simp at hk;omega
theorem q182(s:List UInt8)(hs:s.length<=9223372036854775807)(H:LHeap):CallL cfg 182 [.str s] H (Ret (.int .i64 (truthF s)) H):=by
 refine e182t _ s H fun hI=>⟨_,s252 s H hs,Ret.use ⟨_,rfl⟩,fun s2 H3 ⟨e,_⟩=>⟨fun h hI=>⟨?_,hI.pres⟩,fun h=>⟨fun h2 hI=>⟨?_,hI.pres⟩,fun h2 hI=>⟨?_,hI.pres⟩⟩⟩⟩
 all_goals cases e;simp only [truthF, *,if_true,Bool.false_eq_true,if_false]
theorem q193(N:Nd)(H:LHeap)(hS:N.root.s.length<=9223372036854775807)(hN:NdAt H N):CallL cfg 193 [N.root.lv] H (Ret (.bool (shapeF N.root)) H):=by
 match N,hS,hN with
 | .mk x l,hS,hN=>
  have no:∀{H':LHeap},shapeF x=false->PresX [] H H'->Ret (.bool (shapeF x)) H (.bool false) H':=fun h p=>⟨by rw [h],p⟩;refine e193t _ x H fun i1 H2 _ _ hI=>⟨_,s257 x H2,Ret.use ⟨_,rfl⟩,fun x4 H5 ⟨e4,_⟩ i6 H7 _ _ H8 _=> ?_⟩;obtain rfl:=NdC.lv_inj e4;have cut:∀{v H'},Ret (.bool (shapeF x)) H v H'->Ret (.bool (shapeF x)) H v H':=fun h=>h;refine ⟨fun k1 H9 _ hI=>⟨_,q258 (valO x) H9,Ret.use ⟨_,rfl⟩,fun b11 H12 ⟨e11,_⟩=>⟨fun h hI=>no ?a1 hI.pres,fun h11=>⟨fun h hI=>no ?a2 hI.pres,fun hz=>⟨fun hk=>⟨fun h hI=>no ?a3 hI.pres,fun hn H13 _=> ?v1⟩,fun hk H20 _=> ?v2⟩⟩⟩⟩,fun k1=>⟨fun k2 H27 _ hI=>⟨_,q259 (refO x) H27,Ret.use ⟨_,rfl⟩,fun b29 H30 ⟨e29,_⟩=>⟨fun h hI=>no ?a4 hI.pres,fun h29 H31 _=> ?ref⟩⟩,fun k2=>⟨fun k3=>⟨rfl,fun H39 _=>⟨rfl,fun H41 _ hI=>⟨_,q202 (refO x) (toO x) H41,Ret.use ⟨_,rfl⟩,fun s44 H45 ⟨e44,_⟩=>⟨fun h hI=>no ?a5 hI.pres,fun h44 H46 _=> ?area⟩⟩⟩⟩,fun k3=>⟨fun k4=>⟨rfl,fun H54 _=>⟨rfl,fun H56 _ hI=>⟨_,x97 x.s H56,Ret.use ⟨_,rfl⟩,fun b59 H60 ⟨e59,_⟩=>⟨fun h hI=>no ?a6 hI.pres,fun h59=>⟨fun hb hI=>⟨_,x97 x.refBook H60,Ret.use ⟨_,rfl⟩,fun b62 H63 ⟨e62,_⟩=>⟨fun h hI=>no ?a7 hI.pres,fun h62 H64 _=> ?n1⟩⟩,fun hb H71 _=> ?n2⟩⟩⟩⟩⟩,
   fun k4=>⟨fun k5=>⟨rfl,fun H79 _=>⟨rfl,fun H81 _=>⟨fun h5=>⟨fun h hI=>no ?a8 hI.pres,fun h5'=>⟨fun h hI=>no ?a9 hI.pres,fun h5'' H83 _=> ?u1⟩⟩,fun h5=>⟨fun h hI=>no ?a10 hI.pres,fun h5' H90 _=> ?u2⟩⟩⟩⟩,fun k5=>⟨fun k6=>⟨rfl,fun H98 _=>⟨rfl,fun H100 _ hI=>⟨_,q204 x.s H100,Ret.use ⟨_,rfl⟩,fun n103 H104 ⟨e103,_⟩=>⟨fun h hI=>no ?a11 hI.pres,fun h103=>⟨fun h hI=>no ?a12 hI.pres,fun h103' H105 _=> ?b1⟩⟩⟩⟩⟩,fun k6=>⟨fun k7=>⟨rfl,fun H113 _=>⟨rfl,fun H115 _=>⟨rfl,fun hI=>⟨_,s252 x.s H115 hS,Ret.use ⟨_,rfl⟩,fun s119 H120 ⟨e119,_⟩=>⟨fun h _=>⟨rfl,fun _ _ hI=>no ?a13 hI.pres⟩,fun h119=>⟨rfl,fun hI=>⟨_,x97 x.s H120,Ret.use ⟨_,rfl⟩,fun b126 H127 ⟨e126,_⟩=>⟨fun hb=>⟨rfl,fun hI=>⟨_,q182 x.s hS H127,Ret.use ⟨_,rfl⟩,fun n130 H131 ⟨e130,_⟩=>⟨fun h _ hI=>no ?a14 hI.pres,fun h130=>⟨rfl,fun h hI=>no ?a15 hI.pres,fun hl H134 _=> ?c1⟩⟩⟩⟩,fun hb _ _=>⟨rfl,fun h hI=>no ?a16 hI.pres,fun hl H143 _=> ?c2⟩⟩⟩⟩⟩⟩⟩⟩⟩,fun k7 hI=>no ?a17 hI.pres⟩⟩⟩⟩⟩⟩⟩
  case v1=>exact tail_end' (w:={ kindN x with valueKind:=x.valueKind,valueN:=x.valueN,valueS:=x.valueS,argsA:=x.argsA,argsL:=x.argsL,argsQ:=x.argsQ }) hN rfl rfl fun ha=>sh1 k1 (by cases e11;simpa using h11) hz (fun _=>hn) (ha (by simp at k1;omega)) rfl
  case v2=>exact tail_end' (w:={ kindN x with valueKind:=x.valueKind,valueN:=x.valueN,valueS:=x.valueS,argsA:=x.argsA,argsL:=x.argsL,argsQ:=x.argsQ }) hN rfl rfl fun ha=>sh1 k1 (by cases e11;simpa using h11) hz (fun h=>by rw [hk] at h;cases h) (ha (by simp at k1;omega)) rfl
  case ref=>exact tail_end' (w:={ kindN x with refBook:=x.refBook,refSheet:=x.refSheet,refRow:=x.refRow,refCol:=x.refCol,refFixRow:=x.refFixRow,refFixCol:=x.refFixCol,argsA:=x.argsA,argsL:=x.argsL,argsQ:=x.argsQ }) hN rfl rfl fun ha=>sh2 k1 k2 (by cases e29;simpa using h29) (ha (by simp at k2;omega)) rfl
  case area=>exact tail_end' (w:={ kindN x with refBook:=x.refBook,refSheet:=x.refSheet,refRow:=x.refRow,refCol:=x.refCol,refFixRow:=x.refFixRow,refFixCol:=x.refFixCol,toBook:=x.toBook,toSheet:=x.toSheet,toRow:=x.toRow,toCol:=x.toCol,toFixRow:=x.toFixRow,toFixCol:=x.toFixCol,argsA:=x.argsA,argsL:=x.argsL,argsQ:=x.argsQ }) hN rfl rfl fun ha=>sh3 k1 k2 k3 (by cases e44;rw [areaTx_nil] at h44;simpa using h44) (ha (by simp at k3;omega)) rfl
  case n1=>exact tail_end' (w:={ kindN x with s:=x.s,refBook:=x.refBook,argsA:=x.argsA,argsL:=x.argsL,argsQ:=x.argsQ }) hN rfl rfl fun ha=>sh4 k1 k2 k3 k4 (by cases e59;simpa using h59) (.inr (by cases e62;simpa using h62)) (ha (by simp at k4;omega)) rfl
  case n2=>exact tail_end' (w:={ kindN x with s:=x.s,refBook:=x.refBook,argsA:=x.argsA,argsL:=x.argsL,argsQ:=x.argsQ }) hN rfl rfl fun ha=>sh4 k1 k2 k3 k4 (by cases e59;simpa using h59) (.inl (by simpa using hb)) (ha (by simp at k4;omega)) rfl
  case u1=>exact tail_end' (w:={ kindN x with s:=x.s,argsA:=x.argsA,argsL:=x.argsL,argsQ:=x.argsQ }) hN rfl rfl fun ha=>sh5 k1 k2 k3 k4 k5 (.inr (by simpa using h5')) (by simp at h5'';omega) rfl
  case u2=>exact tail_end' (w:={ kindN x with s:=x.s,argsA:=x.argsA,argsL:=x.argsL,argsQ:=x.argsQ }) hN rfl rfl fun ha=>sh5 k1 k2 k3 k4 k5 (.inl (by simpa using h5)) (by simp at h5';omega) rfl
  case b1=>exact tail_end' (w:={ kindN x with s:=x.s,argsA:=x.argsA,argsL:=x.argsL,argsQ:=x.argsQ }) hN rfl rfl fun ha=>sh6 k1 k2 k3 k4 k5 k6 (by cases e103;exact h103) (by simp at h103';omega) rfl
  case c1=>exact tail_end' (w:={ kindN x with s:=x.s,argsA:=x.argsA,argsL:=x.argsL,argsQ:=x.argsQ }) hN rfl rfl fun ha=>sh7 k1 k2 k3 k4 k5 k6 k7 (by cases e119;simpa using h119) (.inr (by cases e130;simpa using h130)) (by simp at hl;omega) rfl
  case c2=>exact tail_end' (w:={ kindN x with s:=x.s,argsA:=x.argsA,argsL:=x.argsL,argsQ:=x.argsQ }) hN rfl rfl fun ha=>sh7 k1 k2 k3 k4 k5 k6 k7 (by cases e119;simpa using h119) (.inl (by cases e126;simpa using hb)) (by simp at hl;omega) rfl
  case a1=>exact by cases e11;unfold shapeF;simp only [k1,if_true];simp at h;rw [h];rfl
  case a2=>exact by unfold shapeF;simp only [k1,if_true];simp at h;rw [h];simp
  case a3=>exact by unfold shapeF;simp only [k1,if_true];simp at h hk;rw [hk];simp;intros;omega
  case a4=>exact by cases e29;unfold shapeF;simp only [k1,k2,if_true,Bool.false_eq_true,if_false];simp at h;rw [h];rfl
  case a5=>exact by cases e44;rw [areaTx_nil] at h;unfold shapeF;simp only [k1,k2,k3,if_true,Bool.false_eq_true,if_false];simp at h;rw [h];rfl
  case a6=>exact by cases e59;unfold shapeF;simp only [k1,k2,k3,k4,if_true,Bool.false_eq_true,if_false];simp at h;rw [h];rfl
  case a7=>exact by cases e62;unfold shapeF;simp only [k1,k2,k3,k4,if_true,Bool.false_eq_true,if_false];simp at h hb;rw [h];simp [hb]
  case a8=>exact by unfold shapeF;simp only [k1,k2,k3,k4,k5,if_true,Bool.false_eq_true,if_false];simp at h h5;simp [h,h5]
  case a9=>exact by unfold shapeF tailF;simp only [k1,k2,k3,k4,k5,if_true,Bool.false_eq_true,if_false];simp at h;simp;intros;omega
  case a10=>exact by unfold shapeF tailF;simp only [k1,k2,k3,k4,k5,if_true,Bool.false_eq_true,if_false];simp at h;simp;intros;omega
  case a11=>exact by cases e103;unfold shapeF;simp only [k1,k2,k3,k4,k5,k6,if_true,Bool.false_eq_true,if_false];simp at h;simp [h]
  case a12=>exact by unfold shapeF tailF;simp only [k1,k2,k3,k4,k5,k6,if_true,Bool.false_eq_true,if_false];simp at h;simp;intros;omega
  case a13=>exact by cases e119;unfold shapeF;simp only [k1,k2,k3,k4,k5,k6,k7,if_true,Bool.false_eq_true,if_false];simp at h;simp [h]
  case a14=>
   cases e119;cases e126;cases e130;have hn:nameF x.s=false:=by simpa using hb
   obtain ⟨t1,t2⟩:=truth_no (s:=x.s) (by simpa using h119) (by simpa using h);unfold shapeF;simp only [k1,k2,k3,k4,k5,k6,k7,if_true,Bool.false_eq_true,if_false,hn,t1,t2];simp
  case a15=>exact by unfold shapeF;simp only [k1,k2,k3,k4,k5,k6,k7,if_true,Bool.false_eq_true,if_false];simp at h;simp;intros;omega
  case a16=>exact by unfold shapeF;simp only [k1,k2,k3,k4,k5,k6,k7,if_true,Bool.false_eq_true,if_false];simp at h;simp;intros;omega
  case a17=>exact by unfold shapeF;simp only [k1,k2,k3,k4,k5,k6,k7,if_true,Bool.false_eq_true,if_false]
theorem loop110':∀(l:List Nd) (_:∀n∈l,∀H k,NdAt H n->0<=k->k<=1000->CallL cfg 110 [n.root.lv,.int .i64 k] H (Ret (.bool (deepF n k)) H)) (a:Option LAddr) (q:Cap) (k:Nat) (H0:LHeap) (j:Int),k<=1000000000->0<j->j<=1000->∀(r:Bool),deepFs l (j-1)=r->∀(i:Nat),i+l.length=k->NdsAt H0 l a i->∀(d:Nat->LV) (H:LHeap),
  GoesT cfg 110 (Ret (.bool r) H0) [] H0 [] (L110t_0 d (i:Int) j a k q (k:Int)) (loopAt cfg 110 0) H
 |[],_,a,q,k,H0,j,hk,hj,hj2,r,hr,i,hi,hA,d,H=>by
  intro hin hI;unfold deepFs at hr;refine g110t_0 _ H0 d i j a k q k H ⟨fun h=> ?_,fun h hI=>⟨by rw [<-hr],hI.pres⟩⟩ hin hI;simp at h hi;omega
 |n::l,hs,a,q,k,H0,j,hk,hj,hj2,r,hr,i,hi,hA,d,H=>by
  intro hin hI;rw [List.length_cons] at hi;unfold NdsAt at hA;unfold deepFs at hr;obtain ⟨⟨n1,n2,n3⟩,n4,n5⟩:=hA;have hj':lwrap .i64 (j-1)=j-1:=lwrap_small (by omega) (by omega);refine g110t_0 _ H0 d i j a k q k H ⟨fun h=>⟨⟨by omega,by omega,n1⟩,fun hI=>⟨n.root,?ld,fun i9 H10 _ _ H11 _ hI11=> ?call⟩⟩,fun h=> ?ge⟩ hin hI
  case ge=>simp at h;omega
  case ld=>
   simp only [Int.toNat_natCast];exact hI.pres.load0 (a:=⟨(adr a).id,(adr a).ver,(adr a).off+i*18⟩) n2 n3
  case call=>
   rw [hj'];refine ⟨_,hs n List.mem_cons_self H11 (j-1) (n4.on hI11.pres) (by omega) (by omega),Ret.use ⟨_,rfl⟩,fun b13 H14 ⟨e,_⟩=>⟨fun hb hI=>⟨?_,hI.pres⟩,fun hb d15=> ?_⟩⟩
   ·cases e;have:deepF n (j-1)=false:=by simpa using hb
    rw [<-hr,this];rfl
   ·cases e;have:deepF n (j-1)=true:=by simpa using hb
    rw [this,Bool.true_and] at hr;have hk':lwrap .i64 ((i:Int)+1)=((i+1:Nat):Int):=by rw [lwrap_small (by omega) (by omega)];simp
    rw [hk'];exact loop110' l (fun m hm=>hs m (List.mem_cons_of_mem _ hm)) a q k H0 j hk hj hj2 r hr (i+1) (by omega) n5 d15 H14
theorem q110(N:Nd)(H:LHeap)(k:Int)(hT:NdStr N)(hS:NdSm N)(hN:NdAt H N)(k0:0<=k)(k1:k<=1000):CallL cfg 110 [N.root.lv,.int .i64 k] H (Ret (.bool (deepF N k)) H):=by
 match N,hT,hS,hN with
 | .mk x l,hT,hS,hN=>
  have hN':=hN;unfold NdAt at hN';unfold NdSm at hS;unfold NdStr at hT;have hstr:x.s.length<=9223372036854775807:=by have:=hT.1;unfold maxLen at this;omega
  refine e110t _ x k H fun i2 H3 _ p3=>⟨fun h hI=>⟨?_,hI.pres⟩,fun hne hI=>⟨_,q193 (.mk x l) H3 hstr (hN.on p3),Ret.use ⟨_,rfl⟩,fun b5 H6 ⟨e,_⟩=>⟨fun hb hI=>⟨?_,hI.pres⟩,fun hb5 d7=> ?_⟩⟩⟩
  ·have:k=0:=by simpa using h
   subst this;unfold deepF;rw [if_pos (by decide)]
  ·cases e;have:shapeF x=false:=by simpa [Nd.root] using hb
   unfold deepF;rw [this];simp
  ·cases e;have:shapeF x=true:=by simpa [Nd.root] using hb5
   have hk0:k≠0:=by simpa using hne
   have hd:deepF (.mk x l) k=deepFs l (k-1):=by
    unfold deepF;rw [this,if_neg (by simp;omega),Bool.true_and]
   rw [hd];exact loop110' l (fun n hn H' k' hA h0 h1=>q110 n H' k' (hT.2.mem n hn) (hS.2.mem n hn) hA h0 h1) x.argsA x.argsQ x.argsL H k hS.1 (by omega) k1 _ rfl 0 (by have:=hN'.1;omega) hN'.2.2 d7 H6
termination_by SizeOf.sizeOf N
decreasing_by
 have:=List.sizeOf_lt_of_mem hn
 simp_wf
 omega
theorem q47(N:Nd)(H:LHeap)(hT:NdStr N)(hS:NdSm N)(hN:NdAt H N):CallL cfg 47 [N.root.lv] H (Ret (.bool (deepF N 24)) H):=by
 refine e47t _ N.root H fun i1 H2 _ p2 hI=>⟨_,q110 N H2 24 hT hS (hN.on p2) (by omega) (by omega),Ret.use ⟨_,rfl⟩,fun b4 H5 ⟨e,_⟩ hI=>⟨e,hI.pres⟩⟩
def strN(x:NdC):Int:=if x.kind=6 then bindsF x.s else if x.kind=5/\x.s=[45] then 6 else 7
def parT(b:Prop)[Decidable b](s:List UInt8):List UInt8:=if b then 40::(s++[41]) else s
mutual
def txT:Nd->List UInt8
 | .mk x l=>
  if x.kind=1 then (if x.valueKind=2 then quoteT x.valueS else valTx (valO x))
  else if x.kind=2 then refTx (refO x)
  else if x.kind=3 then areaTx (refO x) (toO x)
  else if x.kind=4 then wordTx x.refBook x.s
  else if x.kind=5 then (if x.s=[45] then 45::fstT l 6 else fstT l 7++[37])
  else if x.kind=6 then fstT l (bindsF x.s)++(x.s++sndT l (bindsF x.s+1))
  else x.s++40::(argsT l++[41])
def fstT:List Nd->Int->List UInt8
 |[],_=>[]
 |m::_,k=>parT (strN m.root<k) (txT m)
def sndT:List Nd->Int->List UInt8
 |[],_=>[]
 |_::l,k=>fstT l k
def argsT:List Nd->List UInt8
 |[]=>[]
 |m::l=>txT m++restT l
def restT:List Nd->List UInt8
 |[]=>[]
 |m::l=>44::(txT m++restT l)
end
mutual
def OkT:Nd->Prop
 | .mk x l=>shapeF x=true/\OkTs l
def OkTs:List Nd->Prop
 |[]=>True
 |n::l=>OkT n/\OkTs l
end
mutual
theorem deep_ok:∀{N:Nd} {k:Int},deepF N k=true->OkT N
 | .mk x l,k,h=>by
  unfold deepF at h;split at h
  ·cases h
  ·simp only [Bool.and_eq_true] at h;unfold OkT;exact ⟨h.1,deeps_ok h.2⟩
theorem deeps_ok:∀{l:List Nd} {k:Int},deepFs l k=true->OkTs l
 |[],_,_=>by unfold OkTs;trivial
 |n::l,k,h=>by
  unfold deepFs at h;simp only [Bool.and_eq_true] at h;unfold OkTs;exact ⟨deep_ok h.1,deeps_ok h.2⟩
end
theorem OkTs.mem:∀{l:List Nd},OkTs l->∀n∈l,OkT n
 |[],_,n,hn=>by cases hn
 |m::l,h,n,hn=>by
  unfold OkTs at h;rcases List.mem_cons.1 hn with rfl |hn
  ·exact h.1
  ·exact h.2.mem n hn
theorem binds_le(s:List UInt8):bindsF s<=5:=by
 have g:∀(b:Bool) (p q:Int),p<=5->q<=5->(if b=true then p else q)<=5:=by intro b p q hp hq;cases b<;>simp<;>assumption
 unfold bindsF
 repeat (refine g _ _ _ (by decide) ?_)
 decide
theorem binds_len{s:List UInt8}(h:0<bindsF s):s.length<=2:=by
 apply Nat.le_of_not_lt;intro hl;have e:∀t:List UInt8,t.length<=2->(s==t)=false:=fun t ht=>by
  cases hb:(s==t)
  ·rfl
  ·rw [eq_of_beq hb] at hl;omega
 unfold bindsF at h;simp only [e _ (show ([61]:List UInt8).length<=2 by decide),e _ (show ([60,62]:List UInt8).length<=2 by decide),e _ (show ([60]:List UInt8).length<=2 by decide),e _ (show ([60,61]:List UInt8).length<=2 by decide),e _ (show ([62]:List UInt8).length<=2 by decide),e _ (show ([62,61]:List UInt8).length<=2 by decide),e _ (show ([38]:List UInt8).length<=2 by decide),e _ (show ([43]:List UInt8).length<=2 by decide),e _ (show ([45]:List UInt8).length<=2 by decide),e _ (show ([42]:List UInt8).length<=2 by decide),e _ (show ([47]:List UInt8).length<=2 by decide),e _ (show ([94]:List UInt8).length<=2 by decide),Bool.false_eq_true,if_false] at h;omega
theorem sh_val{x:NdC}(h:shapeF x=true)(k:x.kind=1):(x.valueKind=2->x.valueS.length<=255)/\(x.valueKind≠2->GoodV (valO x)):=by
 unfold shapeF at h;simp only [k,beq_self_eq_true,if_true,Bool.and_eq_true,bne_iff_ne,Bool.or_eq_true,decide_eq_true_eq] at h;obtain ⟨⟨hv,h0,h1⟩,_⟩:=h;unfold valF valO numF at hv;unfold GoodV valO;simp only [bne_iff_ne,beq_iff_eq,Bool.and_eq_true,decide_eq_true_eq] at*
 grind
theorem sh_word{x:NdC}(h:shapeF x=true)(k:x.kind=4):x.s.length<=16/\x.refBook.length<=16:=by
 unfold shapeF at h;simp only [k,beq_iff_eq,Bool.and_eq_true,Bool.or_eq_true] at h;have h:=h;simp at h;refine ⟨nameF_len h.1.1,?_⟩;rcases h.1.2 with h |h
 ·rw [h];simp
 ·exact nameF_len h
theorem sh_un{x:NdC}(h:shapeF x=true)(k:x.kind=5):x.argsL=1/\(x.s=[45]\/x.s=[37]):=by
 unfold shapeF tailF at h;simp [k] at h;exact ⟨by omega,h.1⟩
theorem sh_bin{x:NdC}(h:shapeF x=true)(k:x.kind=6):0<bindsF x.s/\x.argsL=2:=by
 unfold shapeF tailF at h;simp [k] at h;exact ⟨h.1,by omega⟩
theorem sh_call{x:NdC}(h:shapeF x=true)(k:x.kind=7):x.s.length<=16/\x.argsL<=16:=by
 unfold shapeF at h;simp [k] at h;refine ⟨?_,by omega⟩;rcases h.1.2.1 with h |h |h
 ·exact nameF_len h
 ·rw [h];decide
 ·rw [h];decide
theorem sh_kind{x:NdC}(h:shapeF x=true):1<=x.kind/\x.kind<=7:=by
 unfold shapeF at h;simp only [beq_iff_eq] at h
 grind
theorem parT_len(b:Prop)[Decidable b](s:List UInt8):s.length<=(parT b s).length/\(parT b s).length<=s.length+2:=by
 unfold parT;split
 ·simp only [List.length_cons,List.length_append,List.length_nil];omega
 ·omega
theorem word_len(b s:List UInt8):(wordTx b s).length<=b.length+s.length+2:=by
 unfold wordTx;split
 ·omega
 ·simp only [List.length_cons,List.length_append];omega
theorem quote_len(s:List UInt8):(quoteT s).length<=2*s.length+2:=by
 have:=dblQ_len s;have:=cntQ_le s;unfold quoteT;simp;omega
theorem fst_nil(k:Int):fstT [] k=[]:=by unfold fstT;rfl
theorem snd_nil(k:Int):sndT [] k=[]:=by unfold sndT;rfl
mutual
theorem tx_len:∀{N:Nd},OkT N->(txT N).length+3<=1000*(preT N).length
 | .mk x l,h=>by
  unfold OkT at h;have hr:=rest_len h.2;have hf:=fs_len h.2;unfold txT preT;rw [List.length_cons];have hk:=sh_kind h.1;split
  ·rename_i k;have:=sh_val h.1 k;split
   ·rename_i k2;have:=this.1 k2;have:=quote_len x.valueS;omega
   ·rename_i k2;have:=valTx_len (this.2 k2);omega
  ·split
   ·have:=refTx_len (refO x);omega
   ·split
    ·have:=areaTx_len (refO x) (toO x);omega
    ·split
     ·rename_i k;have:=sh_word h.1 k;have:=word_len x.refBook x.s;omega
     ·split
      ·have h6:=hf 6 0;have h7:=hf 7 0;split<;>simp<;>omega
      ·split
       ·rename_i k;have:=binds_len (sh_bin h.1 k).1;have:=hf (bindsF x.s) (bindsF x.s+1);simp;omega
       ·have k:x.kind=7:=by omega
        have:=sh_call h.1 k;have ha:(argsT l).length<=(restT l).length:=by
         cases l with
         |nil=>rw [argsT];simp
         |cons m l=>rw [argsT,restT];simp
        simp;omega
theorem rest_len:∀{l:List Nd},OkTs l->(restT l).length<=1000*(preTs l).length
 |[],_=>by unfold restT;simp
 |m::l,h=>by
  unfold OkTs at h;have h1:=tx_len h.1;have h2:=rest_len h.2;unfold restT preTs;simp;omega
theorem fs_len:∀{l:List Nd},OkTs l->∀j k:Int,(fstT l j).length+(sndT l k).length<=1000*(preTs l).length
 |[],_,j,k=>by rw [fst_nil,snd_nil];simp
 |m::l,h,j,k=>by
  unfold OkTs at h;have h1:=tx_len h.1;have h2:=fs_len h.2 k 0;have h3:=parT_len (strN m.root<j) (txT m);unfold fstT sndT preTs;rw [List.length_append];omega
end
end Go.Proofs.YtjihhflffkoffaaGreatDoor.Z
