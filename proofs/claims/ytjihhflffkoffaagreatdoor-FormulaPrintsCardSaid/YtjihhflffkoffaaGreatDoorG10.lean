/- Contracts of functions of the program; no condition. -/
import Derived.Test.YtjihhflffkoffaaGreatDoorG9
import Derived.Test.YtjihhflffkoffaaGreatDoorG2
import Derived.Test.YtjihhflffkoffaaGreatDoorG0
import Derived.Test.YtjihhflffkoffaaGreatDoorLe
import Derived.Test.YtjihhflffkoffaaGreatDoorG7
set_option linter.unusedSimpArgs false
set_option linter.unusedVariables false
set_option linter.unusedSectionVars false
set_option linter.unnecessarySimpa false
namespace Go.Proofs.YtjihhflffkoffaaGreatDoor.Z
open Go Go.Lm
set_option maxRecDepth 1000000
set_option maxHeartbeats 0
theorem loop252(H0:LHeap)(r n:Nat)(hr:H0.next<=r)(hn:n<=9223372036854775807):∀(C A:List UInt8) (d:Nat->LV) (H:LHeap),A.length+C.length=n->r<H.next->H.get r=some (.cells (bcs (A.map upB++C)) 5 n n .mark false false)->
  GoesT cfg 252 (Ret (.str ((A++C).map upB)) H0) [] H0 [] (L252t_0 d (A.length:Int) (some ⟨r,n,0⟩) n (.free 1) (some ⟨r,n,0⟩) n (.free 1) (n:Int)) (loopAt cfg 252 0) H
 |[],A,d,H,hl,hlt,hg=>by
  intro hin hI;refine g252t_0 _ H0 d A.length (some ⟨r,n,0⟩) n (.free 1) (some ⟨r,n,0⟩) n (.free 1) n H ⟨fun h=> ?_,fun h=>⟨A.map upB,H,conv_from ?_,fun hI=>⟨by rw [List.append_nil],hI.pres⟩⟩⟩ hin hI
  ·simp at h hl;omega
  ·unfold loadN;rw [List.append_nil] at hg;simp only [hg];rw [if_pos (by simp),dropN_eq,List.drop_zero,takeN_of _ _ (by rw [bcs_len,List.length_map];simp at hl;omega),List.take_of_length_le (by rw [bcs_len,List.length_map];simp at hl;omega)]
 |b::C,A,d,H,hl,hlt,hg=>by
  intro hin hI;have hAC:(A++[b])++C=A++b::C:=by simp
  have hlen:(A++[b]).length+C.length=n:=by simp at hl |-;omega
  rw [List.length_cons] at hl;have hi:((A.length:Int)+1)=(((A++[b]).length:Nat):Int):=by simp
  have hw:lwrap .i64 ((A.length:Int)+1)=(((A++[b]).length:Nat):Int):=by rw [lwrap_small (by omega) (by omega),hi]
  have h256:=u8_lt256 b;have hnth:(bcs (A.map upB++b::C))[A.length]? =some (.int .u8 (b.toNat:Int)):=by
   unfold bcs;rw [List.getElem?_map,List.getElem?_append_right (by simp)];simp
  have same:¬(97<=b.toNat/\b.toNat<=122)->∀d',GoesT cfg 252 (Ret (.str ((A++b::C).map upB)) H0) [] H0 [] (L252t_0 d' (lwrap .i64 ((A.length:Int)+1)) (some ⟨r,n,0⟩) n (.free 1) (some ⟨r,n,0⟩) n (.free 1) (n:Int)) (loopAt cfg 252 0) H:=by
   intro hno d';rw [hw,<-hAC];refine loop252 H0 r n hr hn C (A++[b]) d' H hlen hlt ?_;rw [hg];have:upB b=b:=by unfold upB;rw [if_neg hno]
   simp [this]
  refine g252t_0 _ H0 d A.length (some ⟨r,n,0⟩) n (.free 1) (some ⟨r,n,0⟩) n (.free 1) n H ⟨fun h=>⟨⟨by omega,by omega,rfl⟩,fun hI=>⟨(b.toNat:Int),?ld,fun h97=>⟨fun h122=>⟨⟨by omega,by omega,rfl⟩,fun hI=> ?st⟩,fun h122 d14=>same (by simp at h97 h122;omega) d14⟩,fun h97 d15=>same (by simp at h97;omega) d15⟩⟩,fun h=> ?ge⟩ hin hI
  case ge=>simp at h;omega
  case ld=>
   unfold loadT;rw [show isAggT cfg.P 5=some false by kernel_rfl];show load1 H ⟨r,n,0+(A.length:Int).toNat*1⟩=_;unfold load1;simp only [hg,Int.toNat_natCast,Nat.mul_one,Nat.zero_add];rw [if_pos (by simp only [Bool.and_eq_true,Nat.ble_eq];omega),nth_eq];exact hnth
  case st=>
   have hup:upB b=UInt8.ofNat (b.toNat-32):=by unfold upB;rw [if_pos (by simp at h97 h122;omega)]
   have hval:LV.int .u8 (lwrap .u8 ((b.toNat:Int)-32))=.int .u8 ((upB b).toNat:Int):=by
    have h97':97<=b.toNat:=by simp at h97;omega
    congr 1;rw [hup];obtain ⟨m,hm⟩:∃m,b.toNat=m+32:=⟨b.toNat-32,by omega⟩;rw [hm];have e1:((m+32:Nat):Int)-32=Int.ofNat m:=by simp
    rw [e1];unfold lwrap;simp only [Nat.ble_eq];simp;omega
   refine ⟨H.put r (.cells (bcs ((A++[b]).map upB++C)) 5 n n .mark false false),⟨?_,.inr hr,fun k s hs=>by simp [nth] at hs⟩,fun d13=> ?_⟩
   ·unfold storeT;rw [show sizeOfT cfg.P 5=some 1 by kernel_rfl];show storeN H ⟨r,n,0+(A.length:Int).toNat*1⟩ [.int .u8 (lwrap .u8 ((b.toNat:Int)-32))]=_;unfold storeN;simp only [hg,Nat.beq_refl,Bool.not_false,Bool.and_self,FZ.apart,if_true,Int.toNat_natCast,Nat.mul_one,Nat.zero_add,hval];have hov:=over_mid (bcs (A.map upB)) [LV.int .u8 (b.toNat:Int)] (bcs C) [LV.int .u8 ((upB b).toNat:Int)] rfl;rw [bcs_len,List.length_map] at hov;have e1:bcs (A.map upB++b::C)=bcs (A.map upB)++([LV.int .u8 (b.toNat:Int)]++bcs C):=by rw [bcs_app];rfl
    rw [e1,hov];have e2:bcs ((A++[b]).map upB++C)=bcs (A.map upB)++([LV.int .u8 ((upB b).toNat:Int)]++bcs C):=by rw [List.map_append,bcs_app,bcs_app,List.append_assoc];rfl
    rw [e2];rfl
   ·rw [hw,<-hAC];exact loop252 H0 r n hr hn C (A++[b]) d13 _ hlen hlt (by rw [LHeap.get_put,if_pos rfl])
theorem s252(s:List UInt8)(H:LHeap)(hs:s.length<=9223372036854775807):CallL cfg 252 [.str s] H (Ret (.str (s.map upB)) H):=by
 refine e252t _ s H fun hI=>⟨some ⟨H.next,s.length,0⟩,s.length,.free 1,[],H.push (.cells (bcs s) 5 s.length s.length .mark false false),⟨?_,.push _ _ _,fun i hi=>by cases hi⟩,fun d=> ?_⟩
 ·show (match convertL cfg.P H 9 155 (.str s) with
   |some (v,H')=>some [(LNext.value v,H')]
   |none=>none)=_
  rw [conv_to hs]
 ·exact loop252 H H.next s.length (Nat.le_refl _) hs s [] d _ (by simp) (Nat.lt_succ_self _) (by rw [LHeap.get_push,if_pos rfl];rfl)
theorem x157(n:Int)(H:LHeap):CallL cfg 157 [.int .u8 n] H (Ret (.bool (letF n)) H):=by
 refine e157t _ n H ⟨fun h1=>⟨fun h2 hI=>⟨?_,hI.pres⟩,fun h2=>⟨fun h3 hI=>⟨?_,hI.pres⟩,fun h3 hI=>⟨?_,hI.pres⟩⟩⟩,fun h1=>⟨fun h3 hI=>⟨?_,hI.pres⟩,fun h3 hI=>⟨?_,hI.pres⟩⟩⟩
 all_goals
  simp only [ge_iff_le] at*;simp [letF, *]
theorem x153(n:Int)(H:LHeap):CallL cfg 153 [.int .u8 n] H (Ret (.bool (digF n)) H):=by
 refine e153t _ n H ⟨fun h1 hI=>⟨?_,hI.pres⟩,fun h1 hI=>⟨?_,hI.pres⟩⟩
 all_goals
  simp only [ge_iff_le] at*;simp [digF, *]
def truthF(s:List UInt8):Int:=if s.map upB==[84,82,85,69] then 1 else if s.map upB==[70,65,76,83,69] then 0 else -1
theorem x182(s:List UInt8)(hs:s.length<=1000)(H:LHeap):CallL cfg 182 [.str s] H (Ret (.int .i64 (truthF s)) H):=by
 refine e182t _ s H fun hI=>⟨_,s252 s H (by omega),Ret.use ⟨_,rfl⟩,fun s2 H3 ⟨e,_⟩=>⟨fun h hI=>⟨?_,hI.pres⟩,fun h=>⟨fun h2 hI=>⟨?_,hI.pres⟩,fun h2 hI=>⟨?_,hI.pres⟩⟩⟩⟩
 all_goals cases e;simp only [truthF, *,if_true,Bool.false_eq_true,if_false]
theorem scanF_start:∀(s:List UInt8) (k:Nat),scanF s k=(scanF s 0).map (·+k)
 |[],k=>by simp [scanF]
 |b::s,k=>by
  unfold scanF;split
  ·rw [scanF_start s (k+1),scanF_start s (0+1)];cases scanF s 0<;>simp;omega
  ·split
   ·rw [scanF_start s k]
   ·rfl
theorem scanF_le:∀(s:List UInt8) (k:Nat),scanF s 0=some k->k<=s.length
 |[],k,h=>by simp [scanF] at h;omega
 |b::s,k,h=>by
  unfold scanF at h;rw [List.length_cons];split at h
  ·rw [scanF_start] at h;cases hs:scanF s 0 with
   |none=>rw [hs] at h;simp at h
   |some j=>
    rw [hs] at h;simp at h;have:=scanF_le s j hs;omega
  ·split at h
   ·have:=scanF_le s k h;omega
   ·cases h
def othF:List UInt8->Bool->Bool
 |[],o=>o
 |b::s,o=>if letF (b.toNat:Int)||digF (b.toNat:Int)||(b.toNat:Int)==95 then othF s (o|| !digF (b.toNat:Int)) else false
theorem othF_scan:∀(s:List UInt8) (o:Bool),othF s o=(match scanF s 0 with |none=>false |some k=>o||decide (k<s.length))
 |[],o=>by simp [othF,scanF]
 |b::s,o=>by
  unfold othF scanF;cases hd:digF (b.toNat:Int) with
  |true=>
   simp only [Bool.or_true,Bool.true_or,if_true,Bool.not_true,Bool.or_false];rw [othF_scan s o,scanF_start s (0+1)];cases scanF s 0<;>simp
  |false=>
   simp only [Bool.or_false,Bool.not_false,Bool.or_true,Bool.false_eq_true,if_false];split
   ·rw [othF_scan s true];cases hk:scanF s 0 with
    |none=>rfl
    |some k=>
     have:=scanF_le s k hk;simp;omega
   ·rfl
theorem letF_dig{n:Int}(h:letF n=true):digF n=false:=by
 unfold letF at h;unfold digF;simp at h;simp;omega
theorem nameF_oth(b:UInt8)(t:List UInt8)(h16:(b::t).length<=16)(hl:letF (b.toNat:Int)=true)(ht:truthF (b::t)<0):nameF (b::t)=othF t ((((b::t).length:Nat):Int)==1):=by
 unfold nameF;simp only;rw [if_neg (by omega),hl,if_pos rfl,othF_scan];have hd:=letF_dig hl;have hsc:scanF (b::t) 0=scanF t 0:=by
  conv=>lhs;unfold scanF
  rw [hd,hl];simp
 rw [hsc];cases hk:scanF t 0 with
 |none=>rfl
 |some k=>
  have hkl:=scanF_le t k hk;have t1:((b::t).map upB==[84,82,85,69])=false:=by
   cases h:((b::t).map upB==[84,82,85,69]) with
   |false=>rfl
   |true=>unfold truthF at ht;rw [h] at ht;simp at ht
  have t2:((b::t).map upB==[70,65,76,83,69])=false:=by
   cases h:((b::t).map upB==[70,65,76,83,69]) with
   |false=>rfl
   |true=>unfold truthF at ht;rw [t1,h] at ht;simp at ht
  simp only [t1,t2];rw [List.length_cons] at h16;rw [lwrap_small (by rw [List.length_cons];omega) (by rw [List.length_cons];omega)];simp only [Bool.not_false,Bool.true_and,List.length_cons];rw [Bool.eq_iff_iff];simp;omega
theorem nameF_truth{s:List UInt8}(h:0<=truthF s):nameF s=false:=by
 unfold nameF;cases s with
 |nil=>rfl
 |cons b t=>
  simp only;split
  ·rfl
  ·split
   ·split
    ·rfl
    ·unfold truthF at h;split at h
     ·rename_i h1;rw [h1];rfl
     ·split at h
      ·rename_i h1;rw [h1];simp
      ·omega
   ·rfl
theorem loop97x(s:List UInt8)(hs:s.length<=16)(H0:LHeap)(r:Bool):∀(C A:List UInt8) (o:Bool) (d:Nat->LV) (H:LHeap),A++C=s->othF C o=r->
  GoesT cfg 97 (Ret (.bool r) H0) [] H0 [] (L97t_0 d (A.length:Int) o s) (loopAt cfg 97 0) H
 |[],A,o,d,H,hA,hr=>by
  intro hin hI;rw [List.append_nil] at hA;subst hA;unfold othF at hr;refine g97t_0 _ H0 d A.length o A H ⟨fun h=> ?_,fun _ hI=>⟨by rw [hr],hI.pres⟩⟩ hin hI;simp at h
 |b::C,A,o,d,H,hA,hr=>by
  intro hin hI;have hl:A.length+(C.length+1)=s.length:=by rw [<-hA];simp
  have hb:byteAt s (A.length:Int)=(b.toNat:Int):=by rw [<-hA];exact byteAt_app A b C
  have hi:lwrap .i64 ((A.length:Int)+1)=(((A++[b]).length:Nat):Int):=by rw [lwrap_small (by omega) (by omega)];simp
  have rg:(0:Int)<=(A.length:Int)/\(A.length:Int)<((s.length:Nat):Int):=by omega
  have c157:∀H',CallL cfg 157 [.int .u8 (byteAt s (A.length:Int))] H' (Ret (.bool (letF (b.toNat:Int))) H'):=fun H'=>by rw [hb];exact x157 _ H'
  have c153:∀H',CallL cfg 153 [.int .u8 (byteAt s (A.length:Int))] H' (Ret (.bool (digF (b.toNat:Int))) H'):=fun H'=>by rw [hb];exact x153 _ H'
  have next:(letF (b.toNat:Int)||digF (b.toNat:Int)||(b.toNat:Int)==95)=true->∀(o':Bool) (d':Nat->LV) (H':LHeap),o'=(o|| !digF (b.toNat:Int))->GoesT cfg 97 (Ret (.bool r) H0) [] H0 [] (L97t_0 d' (lwrap .i64 ((A.length:Int)+1)) o' s) (loopAt cfg 97 0) H':=by
   intro hok o' d' H' ho;unfold othF at hr;rw [if_pos hok] at hr;rw [hi];exact loop97x s hs H0 r C (A++[b]) o' d' H' (by rw [<-hA];simp) (by rw [ho];exact hr)
  refine g97t_0 _ H0 d A.length o s H ⟨fun h=>⟨rg,fun hI=>⟨_,c157 H,Ret.use ⟨_,rfl⟩,fun b5 H6 ⟨e5,_⟩=>⟨fun h5=>⟨rg,fun hI=>⟨_,c153 H6,Ret.use ⟨_,rfl⟩,fun b9 H10 ⟨e9,_⟩=>⟨fun h9=>⟨rg,fun h95 hI=>⟨?bad,hI.pres⟩,fun h95=>⟨fun ho d=> ?a1,fun ho=>⟨rg,fun hI=>⟨_,c153 H10,Ret.use ⟨_,rfl⟩,fun b15 H16 ⟨e15,_⟩ d=> ?a2⟩⟩⟩⟩,fun h9=>⟨fun ho d=> ?a3,fun ho=>⟨rg,fun hI=>⟨_,c153 H10,Ret.use ⟨_,rfl⟩,fun b15 H16 ⟨e15,_⟩ d=> ?a4⟩⟩⟩⟩⟩⟩,fun h5=>⟨fun ho d=> ?a5,fun ho=>⟨rg,fun hI=>⟨_,c153 H6,Ret.use ⟨_,rfl⟩,fun b15 H16 ⟨e15,_⟩ d=> ?a6⟩⟩⟩⟩⟩⟩,fun h=> ?ge⟩ hin hI
  case ge=>simp at h;omega
  all_goals cases e5
  case bad=>
   cases e9;rw [hb] at h95;simp at h5 h9 h95;unfold othF at hr;rw [if_neg (by simp [h5,h9];exact h95)] at hr;rw [<-hr]
  case a1=>cases e9;rw [hb] at h95;simp at h95;refine next (by simp [h95]) _ d _ (by rw [ho];rfl)
  case a2=>cases e9;cases e15;rw [hb] at h95;simp at h95;refine next (by simp [h95]) _ d _ (by rw [ho];rfl)
  case a3=>cases e9;simp at h9;refine next (by simp [h9]) _ d _ (by rw [ho];rfl)
  case a4=>cases e9;cases e15;simp at h9;refine next (by simp [h9]) _ d _ (by rw [ho];rfl)
  case a5=>simp at h5;refine next (by simp [h5]) _ d _ (by rw [ho];rfl)
  case a6=>cases e15;simp at h5;refine next (by simp [h5]) _ d _ (by rw [ho];rfl)
theorem x97(s:List UInt8)(H:LHeap):CallL cfg 97 [.str s] H (Ret (.bool (nameF s)) H):=by
 have no:∀{H':LHeap},nameF s=false->PresX [] H H'->Ret (.bool (nameF s)) H (.bool false) H':=fun h p=>⟨by rw [h],p⟩;refine e97t _ s H ⟨fun h hI=>no ?_ hI.pres,fun h1=>⟨fun h hI=>no ?_ hI.pres,fun h16=>⟨⟨by omega,by simp at h1;omega⟩,fun hI=> ?_⟩⟩⟩
 ·cases s with
  |nil=>rfl
  |cons b t=>simp at h;omega
 ·cases s with
  |nil=>simp at h
  |cons b t=>unfold nameF;simp only;rw [if_pos (by simp at h |-;omega)]
 ·cases s with
  |nil=>simp at h1
  |cons b t=>
   have hs16:(b::t).length<=16:=by simp at h16 |-;omega
   have hb:byteAt (b::t) 0=(b.toNat:Int):=byteAt_app [] b t;rw [hb];refine ⟨_,x157 _ H,Ret.use ⟨_,rfl⟩,fun b3 H4 ⟨e,_⟩=>⟨fun h3 hI=>no ?_ hI.pres,fun h3 hI=>⟨_,x182 (b::t) (by omega) H4,Ret.use ⟨_,rfl⟩,fun n6 H7 ⟨e6,_⟩=>⟨fun h6 hI=>no ?_ hI.pres,fun h6 d8=> ?_⟩⟩⟩⟩
   ·cases e;have h3':letF (b.toNat:Int)=false:=by simpa using h3
    unfold nameF;simp only;rw [if_neg (by omega),h3'];rfl
   ·cases e6;exact nameF_truth (by simpa using h6)
   ·cases e;cases e6;have h3':letF (b.toNat:Int)=true:=by simpa using h3
    rw [nameF_oth b t hs16 h3' (by simpa using h6)];exact loop97x (b::t) hs16 H _ t [b] _ d8 H7 rfl rfl
def atP(r:RefC)(p:PlaceC):PlaceC:=⟨if r.book=[] then p.book else r.book,if r.sheet=[] then p.sheet else r.sheet,r.row,r.col⟩
def goneN:NdC:=⟨1,[],4,3,[],[],[],0,0,false,false,[],[],0,0,false,false,none,0,.exact 0⟩
def cornR(a b:RefC):RefC:=⟨a.book,a.sheet,if b.row<a.row then b.row else a.row,if b.col<a.col then b.col else a.col,if b.row<a.row then b.fixRow else a.fixRow,if b.col<a.col then b.fixCol else a.fixCol⟩
def cornT(a b:RefC):RefC:=⟨b.book,b.sheet,if b.row<a.row then a.row else b.row,if b.col<a.col then a.col else b.col,if b.row<a.row then a.fixRow else b.fixRow,if b.col<a.col then a.fixCol else b.fixCol⟩
def goodS(x:ShiftC):Bool:=decide (1<=x.most/\x.most<=1000/\1<=x.at_/\x.at_<=x.most/\((1<=x.n/\x.n<=x.most-x.at_+1)\/(x.n<= -1/\x.at_-x.most-1<=x.n)))
def posS(x:ShiftC)(n:Int):Int×Bool:=
 if goodS x=true then
  if 1<=n/\n<=x.most then
   if n<x.at_ then (n,true) else if (x.n<0/\n<x.at_-x.n)\/x.most<n+x.n then (0,false) else (n+x.n,true)
  else (0,false)
 else (0,false)
theorem e66(R:LV->LHeap->Prop)(x0:ShiftC)(H:LHeap)
 (h:(∀(i1:Nat) (H2:LHeap),(((decide (x0.most<1))=true->(Inv [] H [(Slot.mk i1 (ShiftC.cs x0) 96)] H2->R (.bool false) H2))
 /\ ((decide (x0.most<1))=false->(((decide (x0.most>1000))=true->(Inv [] H [(Slot.mk i1 (ShiftC.cs x0) 96)] H2->R (.bool false) H2))
 /\ ((decide (x0.most>1000))=false->(((decide (x0.at_<1))=true->(Inv [] H [(Slot.mk i1 (ShiftC.cs x0) 96)] H2->R (.bool false) H2))
 /\ ((decide (x0.at_<1))=false->(((decide (x0.at_>x0.most))=true->(Inv [] H [(Slot.mk i1 (ShiftC.cs x0) 96)] H2->R (.bool false) H2))
 /\ ((decide (x0.at_>x0.most))=false->(((x0.n==(0:Int))=true->(Inv [] H [(Slot.mk i1 (ShiftC.cs x0) 96)] H2->R (.bool false) H2))
 /\ ((x0.n==(0:Int))=false->(((decide (x0.n>(lwrap .i64 ((lwrap .i64 (x0.most-x0.at_))+(1:Int)))))=true->(Inv [] H [(Slot.mk i1 (ShiftC.cs x0) 96)] H2->R (.bool false) H2))
 /\ ((decide (x0.n>(lwrap .i64 ((lwrap .i64 (x0.most-x0.at_))+(1:Int)))))=false->(((decide (x0.n>0))=true->(Inv [] H [(Slot.mk i1 (ShiftC.cs x0) 96)] H2->R (.bool true) H2))
 /\ ((decide (x0.n>0))=false->(Inv [] H [(Slot.mk i1 (ShiftC.cs x0) 96)] H2->R (.bool (decide (x0.n>=(lwrap .i64 ((lwrap .i64 (x0.at_-(1:Int)))-x0.most))))) H2))))))))))))))))):
 CallL cfg 66 [(ShiftC.lv x0)] H R:=
  call_wt0 (k:=(.go 2 (.box (.go 12 (.cases 3 (.go 7 (.facts .ret)) (.go 8 (.cases 3 (.go 7 (.facts .ret)) (.go 8 (.cases 3 (.go 7 (.facts .ret)) (.go 10 (.cases 3 (.go 7 (.facts .ret)) (.go 8 (.cases 3 (.go 7 (.facts .ret)) (.go 13 (.cases 3 (.go 5 (.facts .ret)) (.go 9 (.cases 33 (.go 12 (.facts .ret)) (.go 12 (.facts .ret))))))))))))))))))) (by kernel_rfl) h
theorem s66(x:ShiftC)(H:LHeap):CallL cfg 66 [x.lv] H (Ret (.bool (goodS x)) H):=by
 refine e66 _ x H ?_
 (repeat' (first |refine And.intro ?_ ?_ |intro _))
 all_goals first |exact Inv.pres (by assumption) |skip
 all_goals simp only [decide_eq_true_eq,decide_eq_false_iff_not,Int.not_lt,ge_iff_le,gt_iff_lt,beq_iff_eq,beq_eq_false_iff_ne,ne_eq] at*
 all_goals unfold goodS
 all_goals (congr 1)
 all_goals (try simp only [lwrap_small (n:=x.most-x.at_) (by omega) (by omega)] at *)
 all_goals (try simp only [lwrap_small (n:=x.most-x.at_+1) (by omega) (by omega)] at *)
 all_goals (try simp only [lwrap_small (n:=x.at_-1) (by omega) (by omega)] at *)
 all_goals (try simp only [lwrap_small (n:=x.at_-1-x.most) (by omega) (by omega)] at *)
 all_goals (first |exact (decide_eq_true (by omega)).symm |exact (decide_eq_false (by omega)).symm |exact decide_eq_decide.2 (by omega))
def foldS(x:ShiftC)(n e:Int):Int:=if n<x.at_ then n else if x.at_-x.n-1<n then n+x.n else e
def spanS(x:ShiftC)(lo hi:Int):Int×Int×Bool:=
 if goodS x=true/\1<=lo/\lo<=hi/\hi<=x.most then
  if 0<x.n then
   if x.most<(if x.at_<=lo then lo+x.n else lo) then (0,0,false)
   else (if x.at_<=lo then lo+x.n else lo,if x.at_<=hi then (if x.most<hi+x.n then x.most else hi+x.n) else hi,true)
  else if x.at_<=lo/\hi<=x.at_-x.n-1 then (0,0,false)
  else (foldS x lo x.at_,foldS x hi (x.at_-1),true)
 else (0,0,false)
def shiftOf(c:ChangeC):ShiftC:=⟨c.shiftAt,c.shiftN,c.shiftMost⟩
def ofP(r:RefC)(p:PlaceC)(c:ChangeC):Bool:=(atP r p).book==c.book&&(atP r p).sheet==c.sheet
def refR(r:RefC)(c:ChangeC):RefC×Bool:=
 if c.drop then (⟨[],[],0,0,false,false⟩,false)
 else if c.cols then (⟨r.book,r.sheet,r.row,(posS (shiftOf c) r.col).1,r.fixRow,r.fixCol⟩,(posS (shiftOf c) r.col).2)
 else (⟨r.book,r.sheet,(posS (shiftOf c) r.row).1,r.col,r.fixRow,r.fixCol⟩,(posS (shiftOf c) r.row).2)
def turn(p:PlaceC)(c:ChangeC)(q:LAddr)(b:Bool):TurnC:=
 ⟨p.book,p.sheet,p.row,p.col,c.book,c.sheet,c.drop,c.cols,c.shiftAt,c.shiftN,c.shiftMost,if c.drop=true then .func (.func 216) [] [] else .func (.func 213) [] [.ptr (some q)],if c.drop=true then .func (.func 217) [] [] else .func (.func 214) [] [.ptr (some q)],b⟩
theorem _root_.Go.Lm.PresX.box{X:List Nat}{H H':LHeap}(h:PresX X H H'){s:Slot}(hi:s.id<H.next)(hx:s.id∉X)(hg:H.get s.id=some s.obj):H'.get s.id=some s.obj:=
 (h.keep s.id hi hx).fixed _ hg (by simp [Slot.obj,LObj.fixed])
structure TurnAt (H:LHeap) (i:Nat) (p:PlaceC) (c:ChangeC) (q:LAddr) (b:Bool):Prop where
 lt:i<H.next
 get:H.get i=some (Slot.obj ⟨i,(turn p c q b).cs,194⟩)
 qlt:q.id<H.next
 ne:q.id≠i
 shift:loadT cfg.P H 96 ⟨q.id,q.ver,q.off+4⟩=some (shiftOf c).lv
def refOf(n:NdC):RefC:=⟨n.refBook,n.refSheet,n.refRow,n.refCol,n.refFixRow,n.refFixCol⟩
def refNd(r:RefC):NdC:=⟨2,[],0,0,[],r.book,r.sheet,r.row,r.col,r.fixRow,r.fixCol,[],[],0,0,false,false,none,0,.exact 0⟩
def cellN(n:NdC)(c:ChangeC):NdC:=if (refR (refOf n) c).2 then refNd (refR (refOf n) c).1 else goneN
theorem RefC.lv_inj{a b:RefC}(h:a.lv=b.lv):a=b:=by
 cases a;cases b;simp only [RefC.lv,RefC.cs,LV.agg.injEq,List.cons.injEq,LV.str.injEq,LV.int.injEq,LV.bool.injEq,true_and,and_true] at h;obtain ⟨h1,h2,h3,h4,h5,h6⟩:=h;simp [h1,h2,h3,h4,h5,h6]
def toOf(n:NdC):RefC:=⟨n.toBook,n.toSheet,n.toRow,n.toCol,n.toFixRow,n.toFixCol⟩
def areaNd(r t:RefC):NdC:=⟨3,[],0,0,[],r.book,r.sheet,r.row,r.col,r.fixRow,r.fixCol,t.book,t.sheet,t.row,t.col,t.fixRow,t.fixCol,none,0,.exact 0⟩
def areaR(n:NdC)(c:ChangeC):RefC×RefC×Bool:=
 if c.drop then (cornR (refOf n) (toOf n),cornT (refOf n) (toOf n),false)
 else if c.cols then ({ cornR (refOf n) (toOf n) with col:=(spanS (shiftOf c) (cornR (refOf n) (toOf n)).col (cornT (refOf n) (toOf n)).col).1 },{ cornT (refOf n) (toOf n) with col:=(spanS (shiftOf c) (cornR (refOf n) (toOf n)).col (cornT (refOf n) (toOf n)).col).2.1 },(spanS (shiftOf c) (cornR (refOf n) (toOf n)).col (cornT (refOf n) (toOf n)).col).2.2)
 else ({ cornR (refOf n) (toOf n) with row:=(spanS (shiftOf c) (cornR (refOf n) (toOf n)).row (cornT (refOf n) (toOf n)).row).1 },{ cornT (refOf n) (toOf n) with row:=(spanS (shiftOf c) (cornR (refOf n) (toOf n)).row (cornT (refOf n) (toOf n)).row).2.1 },(spanS (shiftOf c) (cornR (refOf n) (toOf n)).row (cornT (refOf n) (toOf n)).row).2.2)
def areaN(n:NdC)(c:ChangeC):NdC:=if (areaR n c).2.2 then areaNd (areaR n c).1 (areaR n c).2.1 else goneN
theorem TurnAt.on{H H':LHeap}{i:Nat}{p:PlaceC}{c:ChangeC}{q:LAddr}{b b':Bool}(h:TurnAt H i p c q b)(hp:PresX [i] H H')(hg:H'.get i=some (Slot.obj ⟨i,(turn p c q b').cs,194⟩)):TurnAt H' i p c q b':=
 ⟨Nat.lt_of_lt_of_le h.lt hp.next,hg,Nat.lt_of_lt_of_le h.qlt hp.next,h.ne,hp.load (a:=⟨q.id,q.ver,q.off+4⟩) h.qlt (by simpa using h.ne) h.shift⟩
def L44t_0(d:Nat->LV)(n0:Int)(a1:Option LAddr)(l2:Nat)(c3:Cap)(a4:Option LAddr)(l5:Nat)(c6:Cap)(n7:Int):List SV:=[(.lv (d 0)),(.lv (d 1)),(.lv (d 2)),(.lv (.slice a1 l2 c3)),(.lv (d 4)),(.lv (d 5)),(.lv (d 6)),(.lv (d 7)),(.lv (d 8)),(.lv (.slice a4 l5 c6)),(.lv (.int .i64 n7)),(.lv (.int .i64 n0)),(.lv (d 12)),(.lv (d 13)),(.lv (d 14)),(.lv (d 15)),(.lv (d 16)),(.lv (d 17)),(.lv (d 18)),(.lv (d 19)),(.lv (d 20))]
theorem g44t_0(R:LV->LHeap->Prop)(H0:LHeap)(d:Nat->LV)(n0:Int)(a1:Option LAddr)(l2:Nat)(c3:Cap)(a4:Option LAddr)(l5:Nat)(c6:Cap)(n7:Int) (H:LHeap)
 (h:(((decide (n0<n7))=true->((((0:Int)<=n0)/\((n0<((l5:Nat):Int))/\((Option.isSome a4)=true)))/\(Inv [] H0 [] H->(∃x10:NdC,((loadT (cfg).P H 72 (LAddr.mk (LAddr.id (adr a4)) (LAddr.ver (adr a4)) ((LAddr.off (adr a4))+((Int.toNat n0)*18)))=some (NdC.lv x10))/\(∀(i11:Nat) (H12:LHeap),H.next<=i11->PresX [] H H12->(∀H13:LHeap,PresX [i11] H12 H13->(Inv [] H0 [(Slot.mk i11 (NdC.cs x10) 72)] H13->∃S14:LV->LHeap->Prop,CallL cfg 44 [(NdC.lv x10)] H13 S14/\(∀v H',S14 v H'->PresX [] H13 H'/\hasSh .slice v)/\
  (∀(a15:Option LAddr),∀(l16:Nat),∀(c17:Cap),∀H18:LHeap,S14 (.slice a15 l16 c17) H18->(Inv [] H0 [(Slot.mk i11 (NdC.cs x10) 72)] H18->∃Y:List Nat,∃(a19:Option LAddr),∃(l20:Nat),∃(c21:Cap),∃H22:LHeap,(appendL cfg.P H18 [70,70] [(.slice a1 l2 c3),(.slice a15 l16 c17)]=some ((.slice a19 l20 c21),H22)/\PresX Y H18 H22/\∀i∈Y,okId [] H0 [(Slot.mk i11 (NdC.cs x10) 72)] i)/\(∀d23:Nat->LV,GoesT cfg 44 R [] H0 [] (L44t_0 d23 (lwrap .i64 (n0+(1:Int))) a19 l20 c21 a4 l5 c6 n7) (loopAt cfg 44 0) H22)))))))))))
 /\ ((decide (n0<n7))=false->(Inv [] H0 [] H->R (.slice a1 l2 c3) H)))):
 GoesT cfg 44 R [] H0 [] (L44t_0 d n0 a1 l2 c3 a4 l5 c6 n7) (loopAt cfg 44 0) H:=
  seg_wt (k:=(.go 5 (.cases 12 (.go 6 (.op (.tuple []) (.facts (.op (.cust NdC NdC.lv) (.boxP (.putP (.go 4 (.facts (.call .slice (.facts (.app (.go 8 (.stop [11,3,9,10] 0))))))))))))) (.go 7 (.facts .ret))))) (by kernel_rfl) h
theorem e44t(R:LV->LHeap->Prop)(x0:NdC)(H:LHeap)
 (h:(∀(i1:Nat) (H2:LHeap),H.next<=i1->PresX [] H H2->(∀H3:LHeap,H3=(LHeap.push H2 (LObj.cells (NdC.cs x0) 72 18 18 FZ.none false true))->(∀d4:Nat->LV,GoesT cfg 44 R [] H [] (L44t_0 d4 (0:Int) (some (LAddr.mk (LHeap.next H2) 18 0)) 1 (Cap.exact 1) x0.argsA x0.argsL x0.argsQ ((x0.argsL:Nat):Int)) (loopAt cfg 44 0) H3)))):
 CallL cfg 44 [(NdC.lv x0)] H R:=
  call_wt0 (k:=(.go 2 (.boxP (.go 5 (.row (.go 12 (.stop [11,3,9,10] 0))))))) (by kernel_rfl) h
mutual
def RwOf(p:PlaceC)(c:ChangeC):Nd->Nd->Prop
 | .mk x l,.mk y m=>if x.kind=2/\ofP (refOf x) p c=true then y=cellN x c/\m=[] else if x.kind=3/\ofP (refOf x) p c=true then y=areaN x c/\m=[] else y.bare=x.bare/\RwsOf p c l m
def RwsOf(p:PlaceC)(c:ChangeC):List Nd->List Nd->Prop
 |[],[]=>True
 |n::l,k::m=>RwOf p c n k/\RwsOf p c l m
 |[],_::_=>False
 |_::_,[]=>False
end
theorem RwsOf.snoc{p:PlaceC}{c:ChangeC}{n k:Nd}:∀{l m:List Nd},RwsOf p c l m->RwOf p c n k->RwsOf p c (l++[n]) (m++[k])
 |[],[],_,h=>by simp only [List.nil_append,RwsOf];exact ⟨h,trivial⟩
 |a::l,b::m,h,k=>by simp only [List.cons_append,RwsOf] at h |-;exact ⟨h.1,h.2.snoc k⟩
 |[],_::_,h,_=>by simp only [RwsOf] at h
 |_::_,[],h,_=>by simp only [RwsOf] at h
mutual
theorem NdIds.and{P Q:Nat->Prop}:∀{n:Nd},NdIds P n->NdIds Q n->NdIds (fun i=>P i/\Q i) n
 | .mk x args,h,k=>by
  unfold NdIds at h k |-;refine ⟨?_,NdsIds.and h.2 k.2⟩;rcases h.1 with e |e
  ·exact .inl e
  ·rcases k.1 with f |f
   ·exact .inl f
   ·exact .inr ⟨e,f⟩
theorem NdsIds.and{P Q:Nat->Prop}:∀{l:List Nd},NdsIds P l->NdsIds Q l->NdsIds (fun i=>P i/\Q i) l
 |[],_,_=>by unfold NdsIds;trivial
 |n::l,h,k=>by
  unfold NdsIds at h k |-;exact ⟨NdIds.and h.1 k.1,NdsIds.and h.2 k.2⟩
end
theorem NdsIds.all{P:Nat->Prop}:∀{l:List Nd},(∀m∈l,NdIds P m)->NdsIds P l
 |[],_=>by unfold NdsIds;trivial
 |n::l,h=>by
  unfold NdsIds;exact ⟨h n List.mem_cons_self,NdsIds.all fun m hm=>h m (List.mem_cons_of_mem _ hm)⟩
structure Grown (H:LHeap) (B:Nat) (a:Option LAddr) (q:Cap) (ms:List Nd):Prop where
 row:RowAt H 72 18 a ms.length q (cellsOf ms)
 at_:∀m∈ms,NdAt H m
 ids:∀m∈ms,NdIds (fun j=>B<=j/\∀ad,a=some ad->j≠ad.id) m
 low:∀ad,a=some ad->B<=ad.id
theorem Grown.on{H H':LHeap}{B:Nat}{a:Option LAddr}{q:Cap}{ms:List Nd}(h:Grown H B a q ms){Y:List Nat}(p:PresX Y H H')(hY:∀y∈Y,y<B\/H.next<=y):Grown H' B a q ms:=by
 have out:∀j,B<=j->j<H.next->j∉Y:=fun j h1 h2 hm=>by rcases hY j hm with h |h<;>omega
 refine ⟨h.row.on p.next (fun ad e=> ?_) (fun ad e _=> ?_),fun m hm=> ?_,h.ids,h.low⟩
 ·subst e;exact p.keep _ h.row.id (out _ (h.low _ rfl) h.row.id)
 ·subst e;exact (p.keep _ h.row.id (out _ (h.low _ rfl) h.row.id)).get
 ·exact NdAt.onY p (NdIds.mono (fun j hj=>out j hj.1.1 hj.2) (NdIds.and (h.ids m hm) (NdAt.ids (h.at_ m hm)))) (h.at_ m hm)
theorem Grown.more{H:LHeap}{B:Nat}{a:Option LAddr}{q:Cap}{ms:List Nd}(h:Grown H B a q ms){M:Nd}(hM:NdAt H M)(hid:NdIds (fun j=>B<=j/\∀ad,a=some ad->j≠ad.id) M)(hB:B<=H.next){x:LV}(hx:lenL x=some 1)(hf:firstCellsL H 18 1 x=some M.root.cs)
  (hb:ms.length<=1000000000):∃Y a' q' H',appendL cfg.P H [70,70] [.slice a ms.length q,x]=some (.slice a' (ms.length+1) q',H')/\PresX Y H H'/\Grown H' B a' q' (ms++[M])/\(∀i∈Y,∃ad,a=some ad/\ad.id=i):=by
 obtain ⟨Y,a',q',H',h1,h2,h3,h4,h5⟩:=h.row.append rowT hx hf (by rw [ndc_len]) (ndc_cells _) (by omega);have keep:∀m,NdAt H m->NdIds (fun j=>B<=j/\∀ad,a=some ad->j≠ad.id) m->NdAt H' m/\NdIds (fun j=>B<=j/\∀ad,a'=some ad->j≠ad.id) m:=by
  intro m k1 k2;refine ⟨NdAt.onY h2 (NdIds.mono (fun j hj hm=> ?_) k2) k1,NdIds.mono (fun j hj=>⟨hj.1.1,fun ad' e=> ?_⟩) (NdIds.and k2 (NdAt.ids k1))⟩
  ·obtain ⟨ad,e,ei⟩:=h4 j hm;exact hj.2 ad e ei.symm
  ·rcases h5 ad' e with ⟨ad,e2,e3⟩ |e2
   ·rw [<-e3];exact hj.1.2 ad e2
   ·have:=hj.2;omega
 refine ⟨Y,a',q',H',h1,h2,⟨?_,fun m hm=> ?_,fun m hm=> ?_,fun ad' e=> ?_⟩,h4⟩
 ·rw [List.length_append,cellsOf_app];exact h3
 ·rcases List.mem_append.1 hm with hm |hm
  ·exact (keep m (h.at_ m hm) (h.ids m hm)).1
  ·rw [List.mem_singleton.1 hm];exact (keep M hM hid).1
 ·rcases List.mem_append.1 hm with hm |hm
  ·exact (keep m (h.at_ m hm) (h.ids m hm)).2
  ·rw [List.mem_singleton.1 hm];exact (keep M hM hid).2
 ·rcases h5 ad' e with ⟨ad,e2,e3⟩ |e2
  ·rw [<-e3];exact h.low ad e2
  ·omega
theorem s285(n m:Int)(H:LHeap):CallL cfg 285 [.int .i64 n,.int .i64 m] H (Ret (.bool (decide (1<=n/\n<=64/\1<=m/\m<=26))) H):=by
 have out:∀{H':LHeap},¬(1<=n/\n<=64/\1<=m/\m<=26)->PresX [] H H'->Ret (.bool (decide (1<=n/\n<=64/\1<=m/\m<=26))) H (.bool false) H':=fun h p=>⟨by rw [decide_eq_false h],p⟩;refine e285t _ n m H ⟨fun h1=>⟨fun h2=>⟨fun h3 hI=>⟨?_,hI.pres⟩,fun h hI=>out (by simp at h;omega) hI.pres⟩,fun h hI=>out (by simp at h;omega) hI.pres⟩,fun h hI=>out (by simp at h;omega) hI.pres⟩;simp only [decide_eq_true_eq,ge_iff_le] at h1 h2 h3;congr 1;exact decide_eq_decide.2 (by omega)
def kindN(x:NdC):NdC:=⟨x.kind,[],0,0,[],[],[],0,0,false,false,[],[],0,0,false,false,none,0,.exact 0⟩
theorem s257(x:NdC)(H:LHeap):CallL cfg 257 [x.lv] H (Ret (kindN x).lv H):=
 e257t _ x H fun _ _ _ _ _ _ _ _ _ _ hI=>⟨rfl,hI.pres⟩
theorem numT_whole(n:Nat):numT (n*10000)=decN n:=by
 unfold numT;rw [if_pos ((frac_nil _).2 (by omega)),List.append_nil,Nat.mul_div_cancel _ (by decide)]
def colB(c:Int):List UInt8:=[UInt8.ofNat (64+c.toNat)]
def cellTx(r:RefC):List UInt8:=(if r.fixCol then [36] else [])++(colB r.col++((if r.fixRow then [36] else [])++decN r.row.toNat))
def refTx(r:RefC):List UInt8:=if refF r then (if r.book=[] then [] else 91::(r.book++[93]))++((if r.sheet=[] then [] else r.sheet++[33])++cellTx r) else []
def areaTx(r t:RefC):List UInt8:=if areaF r t then refTx r++58::cellTx t else []
theorem dec64{n:Nat}(h:n<=64):1<=(decN n).length/\(decN n).length<=2:=decN_len 2 n (by omega) (by omega)
theorem q295(n:Nat)(H:LHeap)(hn:n<=64):CallL cfg 295 [.int .i64 (n:Int)] H (Ret (.str (decN n)) H):=by
 refine e295t _ n H fun hI=> ?_;rw [show lwrap .i64 ((n:Int)*10000)=((n*10000:Nat):Int) by rw [lwrap_small (by omega) (by omega)];omega];refine ⟨_,q245 _ H (by omega),Ret.use ⟨_,rfl⟩,fun s H3 ⟨e,_⟩ hI=> ?_⟩;cases e;rw [numT_whole];exact .mk hI.pres
theorem col_enc{c:Int}(h:1<=c/\c<=26):Array.toList (ByteArray.data (Utf8.encode (lwrap .i32 (lwrap .i64 ((lwrap .i64 ((65:Int)+c))-(1:Int))))))=colB c:=by
 have:c=1\/c=2\/c=3\/c=4\/c=5\/c=6\/c=7\/c=8\/c=9\/c=10\/c=11\/c=12\/c=13\/c=14\/c=15\/c=16\/c=17\/c=18\/c=19\/c=20\/c=21\/c=22\/c=23\/c=24\/c=25\/c=26:=by omega
 rcases this with h |h |h |h |h |h |h |h |h |h |h |h |h |h |h |h |h |h |h |h |h |h |h |h |h |h<;>subst h<;>rfl
theorem col_byte{c:Int}(h:1<=c/\c<=26):lwrap .u8 (lwrap .i64 ((lwrap .i64 ((65:Int)+c))-(1:Int)))=((UInt8.ofNat (64+c.toNat)).toNat:Int):=by
 have:c=1\/c=2\/c=3\/c=4\/c=5\/c=6\/c=7\/c=8\/c=9\/c=10\/c=11\/c=12\/c=13\/c=14\/c=15\/c=16\/c=17\/c=18\/c=19\/c=20\/c=21\/c=22\/c=23\/c=24\/c=25\/c=26:=by omega
 rcases this with h |h |h |h |h |h |h |h |h |h |h |h |h |h |h |h |h |h |h |h |h |h |h |h |h |h<;>subst h<;>rfl
theorem colB_len(c:Int):(colB c).length=1:=rfl
theorem q262(r:RefC)(H:LHeap)(h:1<=r.row/\r.row<=64)(hc:1<=r.col/\r.col<=26):CallL cfg 262 [r.lv] H (Ret (.str (cellTx r)) H):=by
 have c:∀H,CallL cfg 295 [.int .i64 r.row] H (Ret (.str (decN r.row.toNat)) H):=fun H=>by
  have:=q295 r.row.toNat H (by omega)
  rwa [show ((r.row.toNat:Nat):Int)=r.row by omega] at this
 have hd:=dec64 (n:=r.row.toNat) (by omega);have hl:=colB_len r.col;have he:=col_enc hc;refine e262t _ r H fun i1 H2 _ _=> ?_;rw [he];refine ⟨fun k1=>⟨fun k2=>⟨by omega,by simp;omega,rfl,fun hI=>⟨_,c H2,Ret.use ⟨_,rfl⟩,fun s7 H8 ⟨e,_⟩=> ?_⟩⟩,fun k2=>⟨by omega,by simp;omega,rfl,fun hI=>⟨_,c H2,Ret.use ⟨_,rfl⟩,fun s7 H8 ⟨e,_⟩=> ?_⟩⟩⟩,fun k1=>⟨fun k2=>⟨by omega,by simp;omega,rfl,fun hI=>⟨_,c H2,Ret.use ⟨_,rfl⟩,fun s7 H8 ⟨e,_⟩=> ?_⟩⟩,fun k2=>⟨by omega,by simp;omega,rfl,fun hI=>⟨_,c H2,Ret.use ⟨_,rfl⟩,fun s7 H8 ⟨e,_⟩=> ?_⟩⟩⟩⟩
 all_goals
  cases e;refine ⟨by simp;omega,rfl,fun hI=>⟨?_,hI.pres⟩⟩;unfold cellTx;simp [k1,k2]
theorem inF_ok{n m:Int}(h:inF n m=true):(1<=n/\n<=64)/\1<=m/\m<=26:=by
 unfold inF at h;simp only [decide_eq_true_eq] at h;omega
theorem refF_in{r:RefC}(h:refF r=true):inF r.row r.col=true:=by
 unfold refF at h;simp only [Bool.and_eq_true] at h;exact h.1.1.1
theorem cellTx_len{r:RefC}(h:1<=r.row/\r.row<=64):1<=(cellTx r).length/\(cellTx r).length<=5:=by
 have hd:=dec64 (n:=r.row.toNat) (by omega);have hl:=colB_len r.col;unfold cellTx;simp only [List.length_append];have:∀b:Bool,(if b=true then [(36:UInt8)] else []).length<=1:=fun b=>by cases b<;>simp
 have h1:=this r.fixCol;have h2:=this r.fixRow;omega
theorem q195(r:RefC)(H:LHeap):CallL cfg 195 [r.lv] H (Ret (.str (refTx r)) H):=by
 refine e195t _ r H fun i1 H2 _ _ hI=>⟨_,s256 r H2,Ret.use ⟨_,rfl⟩,fun b4 H5 ⟨e4,_⟩=>⟨fun h4 hI=> ?_,fun h4 hI=> ?_⟩⟩
 ·have hr:refF r=false:=by cases e4;simpa using h4
  exact ⟨by unfold refTx;rw [hr];rfl,hI.pres⟩
 ·have hr:refF r=true:=by cases e4;simpa using h4
  obtain ⟨hrow,h1,h2⟩:=refF_ok hr;have ht:=cellTx_len hrow;refine ⟨_,q262 r H5 hrow (inF_ok (refF_in hr)).2,Ret.use ⟨_,rfl⟩,fun s7 H8 ⟨e,_⟩=> ?_⟩;cases e;refine ⟨fun hs=>⟨by omega,by simp;omega,fun hb=>⟨by omega,by simp;omega,by simp;omega,fun hI=>⟨?_,hI.pres⟩⟩,fun hb hI=>⟨?_,hI.pres⟩⟩,fun hs=>⟨fun hb=>⟨by omega,by simp;omega,by simp;omega,fun hI=>⟨?_,hI.pres⟩⟩,fun hb hI=>⟨?_,hI.pres⟩⟩⟩
  all_goals
   simp at hs hb;simp [refTx,hr,hs,hb]
theorem q196(r t:RefC)(H:LHeap):CallL cfg 196 [r.lv,t.lv] H (Ret (.str (areaTx r t)) H):=by
 have no:∀{H':LHeap},areaF r t=false->PresX [] H H'->Ret (.str (areaTx r t)) H (.str []) H':=fun h p=>⟨by unfold areaTx;rw [h];rfl,p⟩;refine e196t _ r t H fun i2 H3 _ _ i4 H5 _ _ i6 H7 _ _ H8 _ H9 _ H10 _ hI=>⟨_,s256 r H10,Ret.use ⟨_,rfl⟩,fun b12 H13 ⟨e12,_⟩=>⟨fun h hI=>no ?_ hI.pres,fun h12 hI=>⟨_,s256 t H13,Ret.use ⟨_,rfl⟩,fun b15 H16 ⟨e15,_⟩=>⟨fun h hI=>no ?_ hI.pres,fun h15=>⟨fun h hI=>no ?_ hI.pres,fun h=> ?_⟩⟩⟩⟩⟩
 ·cases e12;have:refF r=false:=by simpa using h
  simp [areaF,this]
 ·cases e12;cases e15;have:refF t=false:=by simpa using h
  simp [areaF,this]
 ·have:((t.book==[])&&(t.sheet==[]))=false:=by
   cases hb:(t.book==[])<;>cases hs:(t.sheet==[])<;>simp_all
  unfold areaF;rw [this];simp
 ·have hr:refF r=true:=by cases e12;simpa using h12
  have ht:refF t=true:=by cases e15;simpa using h15
  have hz:((t.book==[])&&(t.sheet==[]))=true:=by simpa using h
  have ha:areaF r t=true:=by unfold areaF;rw [hr,ht,hz];rfl
  refine ⟨rfl,fun hI=>⟨_,q195 r H16,Ret.use ⟨_,rfl⟩,fun s20 H21 ⟨e,_⟩=> ?_⟩⟩;cases e;obtain ⟨hrow,h1,h2⟩:=refF_ok hr;have l1:=cellTx_len hrow;have l2:=cellTx_len (refF_ok ht).1;have lr:(refTx r).length<=100:=by
   unfold refTx;rw [hr];simp only [if_true,List.length_append];have e1:(if r.book=[] then [] else 91::(r.book++[93])).length<=18:=by split<;>simp<;>omega
   have e2:(if r.sheet=[] then [] else r.sheet++[33]).length<=17:=by split<;>simp<;>omega
   omega
  refine ⟨by omega,rfl,fun hI=>⟨_,q262 t H21 (refF_ok ht).1 (inF_ok (refF_in ht)).2,Ret.use ⟨_,rfl⟩,fun s25 H26 ⟨e,_⟩=> ?_⟩⟩;cases e;refine ⟨by simp;omega,fun hI=>⟨?_,hI.pres⟩⟩;unfold areaTx;rw [ha];simp
theorem q293(n:Nat)(H:LHeap)(hn:n<=64):CallL cfg 293 [.int .i64 (n:Int)] H (Ret (.str (decN n)) H):=by
 refine e293t _ n H ⟨fun h=>absurd h (by simp),fun _ hI=> ?_⟩;rw [w64 (by omega)];refine ⟨_,q296 n H (by omega),Ret.use ⟨_,rfl⟩,fun s6 H7 ⟨e,_⟩ hI=> ?_⟩;cases e;exact .mk hI.pres
theorem q253(n m:Int)(H:LHeap)(hr:1<=n/\n<=64)(hm:1<=m/\m<=26):CallL cfg 253 [.int .i64 n,.int .i64 m] H (Ret (.str (colB m++decN n.toNat)) H):=by
 refine e253t _ n m H fun hI=>⟨_,s285 n m H,Ret.use ⟨_,rfl⟩,fun b3 H4 ⟨e3,_⟩=>⟨fun h hI=> ?_,fun _ H5 e5=> ?_⟩⟩
 ·cases e3;rw [decide_eq_true (by omega)] at h;cases h
 ·rw [col_byte hm] at e5 |-;have c:CallL cfg 293 [.int .i64 n] H5 (Ret (.str (decN n.toNat)) H5):=by
   have:=q293 n.toNat H5 (by omega)
   rwa [show ((n.toNat:Nat):Int)=n by omega] at this
  have hd:=dec64 (n:=n.toNat) (by omega);refine ⟨colB m,H5,conv_from (load_b (e5▸.refl _ _)),fun hI=>⟨⟨H5,conv_from (load_b (e5▸.refl _ _))⟩,rfl,fun hI=>⟨_,c,Ret.use ⟨_,rfl⟩,fun s12 H13 ⟨e,p13⟩=> ?_⟩⟩⟩;cases e;exact ⟨by have:=colB_len m;omega,fun hI=>⟨⟨H13,conv_from (load_b (e5▸p13))⟩,rfl,fun hI=>.mk hI.pres⟩⟩
theorem q265(r:RefC)(H:LHeap)(h:1<=r.row/\r.row<=64)(hc:1<=r.col/\r.col<=26):CallL cfg 265 [r.lv] H (Ret (.str (cellTx r)) H):=by
 refine e265t _ r H fun i1 H2 _ _ hI=>⟨_,q253 r.row r.col H2 h hc,Ret.use ⟨_,rfl⟩,fun s4 H5 ⟨e,_⟩=> ?_⟩;cases e;have hd:=dec64 (n:=r.row.toNat) (by omega);have hl:=colB_len r.col;have s1:subStr (colB r.col++decN r.row.toNat) 0 1=colB r.col:=by unfold subStr colB;rfl
 have s2:subStr (colB r.col++decN r.row.toNat) 1 (((colB r.col++decN r.row.toNat).length:Nat):Int)=decN r.row.toNat:=by rw [sub1];rfl
 rw [s1,s2];have hL:(colB r.col++decN r.row.toNat).length=1+(decN r.row.toNat).length:=by rw [List.length_append,hl]
 refine ⟨⟨by omega,by omega,by omega⟩,fun k1=>⟨by omega,fun k2=>⟨by simp;omega,⟨by omega,by omega,by omega⟩,by simp;omega,fun hI=>⟨?_,hI.pres⟩⟩,fun k2=>⟨⟨by omega,by omega,by omega⟩,by simp;omega,fun hI=>⟨?_,hI.pres⟩⟩⟩,fun k1=>⟨fun k2=>⟨by omega,⟨by omega,by omega,by omega⟩,by simp;omega,fun hI=>⟨?_,hI.pres⟩⟩,fun k2=>⟨⟨by omega,by omega,by omega⟩,by omega,fun hI=>⟨?_,hI.pres⟩⟩⟩⟩
 all_goals
  unfold cellTx;simp [k1,k2]
theorem q259(r:RefC)(H:LHeap):CallL cfg 259 [r.lv] H (Ret (.bool (refF r)) H):=by
 refine e259t _ r H fun i1 H2 _ _ hI=>⟨_,s285 r.row r.col H2,Ret.use ⟨_,rfl⟩,fun b4 H5 ⟨e4,_⟩=>⟨fun h4 hI=>⟨?_,hI.pres⟩,fun h4=>⟨fun hs hI=>⟨_,x97 r.sheet H5,Ret.use ⟨_,rfl⟩,fun b7 H8 ⟨e7,_⟩=>⟨fun h7 hI=>⟨?_,hI.pres⟩,fun h7=>⟨fun hk hI=>⟨?_,hI.pres⟩,fun hk hI=>⟨_,x97 r.book H8,Ret.use ⟨_,rfl⟩,fun b10 H11 ⟨e10,_⟩=>⟨fun h10 hI=>⟨?_,hI.pres⟩,fun h10 hI=>⟨?_,hI.pres⟩⟩⟩⟩⟩⟩,fun hs=>⟨fun hk hI=>⟨?_,hI.pres⟩,fun hk hI=>⟨_,x97 r.book H5,Ret.use ⟨_,rfl⟩,fun b10 H11 ⟨e10,_⟩=>⟨fun h10 hI=>⟨?_,hI.pres⟩,fun h10 hI=>⟨?_,hI.pres⟩⟩⟩⟩⟩⟩⟩
 all_goals
  have e4':b4=inF r.row r.col:=by cases e4;rfl
  clear e4
  try cases e7
  try cases e10
  obtain ⟨bk,sh,_,_,_,_⟩:=r;unfold refF;simp only at e4' |-;rw [<-e4'];clear e4' hI;cases b4<;>cases bk<;>cases sh<;>simp_all
theorem q201(r:RefC)(H:LHeap):CallL cfg 201 [r.lv] H (Ret (.str (refTx r)) H):=by
 refine e201t _ r H fun i1 H2 _ _ hI=>⟨_,q259 r H2,Ret.use ⟨_,rfl⟩,fun b4 H5 ⟨e4,_⟩=>⟨fun h4 hI=> ?_,fun h4 hI=> ?_⟩⟩
 ·have hr:refF r=false:=by cases e4;simpa using h4
  exact ⟨by unfold refTx;rw [hr];rfl,hI.pres⟩
 ·have hr:refF r=true:=by cases e4;simpa using h4
  obtain ⟨hrow,h1,h2⟩:=refF_ok hr;have ht:=cellTx_len hrow;refine ⟨_,q265 r H5 hrow (inF_ok (refF_in hr)).2,Ret.use ⟨_,rfl⟩,fun s7 H8 ⟨e,_⟩=> ?_⟩;cases e;refine ⟨fun hs=>⟨by omega,by simp;omega,fun hb=>⟨by omega,by simp;omega,by simp;omega,fun hI=>⟨?_,hI.pres⟩⟩,fun hb hI=>⟨?_,hI.pres⟩⟩,fun hs=>⟨fun hb=>⟨by omega,by simp;omega,by simp;omega,fun hI=>⟨?_,hI.pres⟩⟩,fun hb hI=>⟨?_,hI.pres⟩⟩⟩
  all_goals
   simp at hs hb;simp [refTx,hr,hs,hb]
theorem refTx_len(r:RefC):(refTx r).length<=100:=by
 unfold refTx;split
 ·rename_i hr;obtain ⟨hrow,h1,h2⟩:=refF_ok hr;have l1:=cellTx_len hrow;simp only [List.length_append];have e1:(if r.book=[] then [] else 91::(r.book++[93])).length<=18:=by split<;>simp<;>omega
  have e2:(if r.sheet=[] then [] else r.sheet++[33]).length<=17:=by split<;>simp<;>omega
  omega
 ·simp
theorem areaTx_len(r t:RefC):(areaTx r t).length<=200:=by
 unfold areaTx;split
 ·rename_i h;have ht:refF t=true:=by unfold areaF at h;simp only [Bool.and_eq_true] at h;exact h.2.1
  have l1:=cellTx_len (refF_ok ht).1;have l2:=refTx_len r;simp;omega
 ·simp
theorem q202(r t:RefC)(H:LHeap):CallL cfg 202 [r.lv,t.lv] H (Ret (.str (areaTx r t)) H):=by
 have no:∀{H':LHeap},areaF r t=false->PresX [] H H'->Ret (.str (areaTx r t)) H (.str []) H':=fun h p=>⟨by unfold areaTx;rw [h];rfl,p⟩;refine e202t _ r t H fun i2 H3 _ _ i4 H5 _ _ hI=>⟨_,q259 r H5,Ret.use ⟨_,rfl⟩,fun b7 H8 ⟨e7,_⟩=>⟨fun h hI=>no ?_ hI.pres,fun h7 hI=>⟨_,q259 t H8,Ret.use ⟨_,rfl⟩,fun b10 H11 ⟨e10,_⟩=>⟨fun h hI=>no ?_ hI.pres,fun h10=>⟨fun hs hI=>no ?_ hI.pres,fun hs=> ?_⟩⟩⟩⟩⟩
 ·cases e7;have:refF r=false:=by simpa using h
  simp [areaF,this]
 ·cases e10;have:refF t=false:=by simpa using h
  simp [areaF,this]
 ·have:(t.sheet==[])=false:=by simpa using hs
  unfold areaF;rw [this];simp
 ·have hr:refF r=true:=by cases e7;simpa using h7
  have ht:refF t=true:=by cases e10;simpa using h10
  have hs':(t.sheet==[])=true:=by simpa using hs
  have hb:(t.book==[])=true:=by
   unfold refF at ht;simp only [Bool.and_eq_true,hs',Bool.not_true,Bool.false_or] at ht;exact ht.1.1.2
  have ha:areaF r t=true:=by unfold areaF;rw [hr,ht,hs',hb];rfl
  refine ⟨rfl,fun hI=>⟨_,q201 r H11,Ret.use ⟨_,rfl⟩,fun s14 H15 ⟨e,_⟩=> ?_⟩⟩;cases e;have l1:=refTx_len r;have l2:=cellTx_len (refF_ok ht).1;refine ⟨by omega,rfl,fun hI=>⟨_,q265 t H15 (refF_ok ht).1 (inF_ok (refF_in ht)).2,Ret.use ⟨_,rfl⟩,fun s19 H20 ⟨e,_⟩=> ?_⟩⟩;cases e;refine ⟨by simp;omega,fun hI=>⟨?_,hI.pres⟩⟩;unfold areaTx;rw [ha];simp
theorem e194b(R:LV->LHeap->Prop)(x0:ValC)(H:LHeap)
 (h:(∀(i1:Nat) (H2:LHeap),H.next<=i1->PresX [] H H2->(Inv [] H [(Slot.mk i1 (ValC.cs x0) 67)] H2->∃S3:LV->LHeap->Prop,CallL cfg 260 [(ValC.lv x0)] H2 S3/\(∀v H',S3 v H'->PresX [] H2 H'/\hasSh (.cust (Int) (fun (n:Int)=>(.iface 280 (.int .i64 n):LV))) v)/\
  (∀(y4:Int),∀H5:LHeap,S3 (.iface 280 (.int Go.IntKind.i64 y4)) H5->(Inv [] H [(Slot.mk i1 (ValC.cs x0) 67)] H5->∃S6:LV->LHeap->Prop,CallL cfg 245 [(.int Go.IntKind.i64 y4)] H5 S6/\(∀v H',S6 v H'->PresX [] H5 H'/\hasSh .str v)/\
  (∀(s7:List UInt8),∀H8:LHeap,S6 (.str s7) H8->(Inv [] H [(Slot.mk i1 (ValC.cs x0) 67)] H8->R (.str s7) H8))))))):
 CallL cfg 194 [(ValC.lv x0)] H R:=
  call_wt0 (k:=(.go 2 (.boxP (.go 6 (.facts (.call (.cust (Int) (fun (n:Int)=>(.iface 280 (.int .i64 n):LV))) (.go 16 (.facts (.call .str (.go 2 (.facts .ret))))))))))) (by kernel_rfl) h
theorem e194d(R:LV->LHeap->Prop)(x0:ValC)(H:LHeap)
 (h:(∀(i1:Nat) (H2:LHeap),H.next<=i1->PresX [] H H2->(Inv [] H [(Slot.mk i1 (ValC.cs x0) 67)] H2->∃S3:LV->LHeap->Prop,CallL cfg 260 [(ValC.lv x0)] H2 S3/\(∀v H',S3 v H'->PresX [] H2 H'/\hasSh (.cust (Bool) (fun (b:Bool)=>(.iface 282 (.bool b):LV))) v)/\
  (∀(y4:Bool),∀H5:LHeap,S3 (.iface 282 (.bool y4)) H5->((y4=true->(Inv [] H [(Slot.mk i1 (ValC.cs x0) 67)] H5->R (.str [84,82,85,69]) H5))
 /\ (y4=false->(Inv [] H [(Slot.mk i1 (ValC.cs x0) 67)] H5->R (.str [70,65,76,83,69]) H5))))))):
 CallL cfg 194 [(ValC.lv x0)] H R:=
  call_wt0 (k:=(.go 2 (.boxP (.go 6 (.facts (.call (.cust (Bool) (fun (b:Bool)=>(.iface 282 (.bool b):LV))) (.go 32 (.cases 21 (.go 5 (.facts .ret)) (.go 6 (.facts .ret)))))))))) (by kernel_rfl) h
abbrev qT6_1:List LV:=[.str [],.str [35,68,73,86,47,48,33],.str [35,86,65,76,85,69,33],.str [35,82,69,70,33],.str [35,78,65,77,69,63],.str [35,78,85,77,33],.str [35,78,47,65],.str [35,67,89,67,76,69,33],.str [35,76,73,78,75,33]]
theorem e261(R:RR)(H:LHeap)
(h:NX H fun i0 H1=>PX [i0] H1 fun H2=>R0 H [Sk i0 qT6_1 214] H2 R (.agg qT6_1)):
 CallL cfg 261 [] H R:=call_wt0 (k:=(.go 2 (.boxP (.go 4 (.putP (.go 1 (.facts .ret))))))) (by kernel_rfl) h
structure Bld (H:LHeap) (i:Nat) (p a:Option LAddr) (n:Nat) (q:Cap) (s:List UInt8):Prop where
 lt:i<H.next
 get:H.get i=some (Slot.obj ⟨i,[.ptr p,.slice a n q],162⟩)
 row:RowAt H 5 1 a n q (bcs s)
 me:p=none\/p=some ⟨i,2,0⟩
 ne:∀ad,a=some ad->ad.id≠i
 pos:∀ad,a=some ad->0<n/\q=.free 1
theorem Bld.len{H:LHeap}{i:Nat}{p a:Option LAddr}{n:Nat}{q:Cap}{s:List UInt8}(h:Bld H i p a n q s):n=s.length:=by
 have:=h.row.len;rw [bcs_len] at this;omega
def idl:Option LAddr->List Nat
 |some ad=>[ad.id]
 |none=>[]
theorem Bld.on{H H':LHeap}{i:Nat}{p a:Option LAddr}{n:Nat}{q:Cap}{s:List UInt8}(h:Bld H i p a n q s){X:List Nat}(k:PresX X H H')(h1:i∉X)(h2:∀ad,a=some ad->ad.id∉X):Bld H' i p a n q s:=
 ⟨Nat.lt_of_lt_of_le h.lt k.next,by rw [(k.keep i h.lt h1).get];exact h.get,
  h.row.on k.next (fun ad e=>by subst e;exact k.keep _ h.row.id (h2 _ rfl)) (fun ad e _=>by subst e;exact (k.keep _ h.row.id (h2 _ rfl)).get),h.me,h.ne,h.pos⟩
def BldW(i:Nat)(a:Option LAddr)(t:List UInt8)(v:LV)(H:LHeap):LV->LHeap->Prop:=fun w H'=>w=v/\PresX (i::idl a) H H'/\∃a' n' q',Bld H' i (some ⟨i,2,0⟩) a' n' q' t/\∀ad',a'=some ad'->(∃ad,a=some ad/\ad.id=ad'.id)\/H.next<=ad'.id
theorem BldW.use{i:Nat}{a:Option LAddr}{t:List UInt8}{v:LV}{H:LHeap}{sh:Sh}(h:hasSh sh v):∀w H',BldW i a t v H w H'->PresX (i::idl a) H H'/\hasSh sh w/\∃cs,hasSh (.agg [.ptr,.slice]) (.agg cs)/\List.length cs=2/\H'.get i=some (Slot.obj ⟨i,cs,162⟩):=by
 rintro w H' ⟨rfl,hp,a',n',q',hb,_⟩;exact ⟨hp,h,_,⟨_,_,_,_,rfl⟩,rfl,hb.get⟩
theorem BldW.elim{i:Nat}{a:Option LAddr}{t:List UInt8}{v:LV}{H:LHeap}{w:LV}{H':LHeap}(h:BldW i a t v H w H'){p b:Option LAddr}{n:Nat}{q:Cap}(hg:H'.get i=some (Slot.obj ⟨i,[.ptr p,.slice b n q],162⟩)):
  Bld H' i p b n q t/\(∀ad',b=some ad'->(∃ad,a=some ad/\ad.id=ad'.id)\/H.next<=ad'.id):=by
 obtain ⟨_,_,a',n',q',hb,ha⟩:=h;have h2:=hb.get;rw [hg] at h2;simp only [Option.some.injEq,Slot.obj,LObj.cells.injEq,List.cons.injEq,LV.ptr.injEq,LV.slice.injEq,and_true] at h2;obtain ⟨⟨rfl,rfl,rfl,rfl⟩,_⟩:=h2;exact ⟨hb,ha⟩
def NAMES:List (List UInt8):=[[35,68,73,86,47,48,33],[35,86,65,76,85,69,33],[35,82,69,70,33],[35,78,65,77,69,63],[35,78,85,77,33],[35,78,47,65],[35,67,89,67,76,69,33],[35,76,73,78,75,33]]
def NAG:LV:=.agg [.str [],.str [35,68,73,86,47,48,33],.str [35,86,65,76,85,69,33],.str [35,82,69,70,33],.str [35,78,65,77,69,63],.str [35,78,85,77,33],.str [35,78,47,65],.str [35,67,89,67,76,69,33],.str [35,76,73,78,75,33]]
theorem nag_0:indexL cfg.P 214 NAG (.int .i64 ((0:Nat):Int))=some (.str []):=by kernel_rfl
theorem nag_1:indexL cfg.P 214 NAG (.int .i64 ((1:Nat):Int))=some (.str [35,68,73,86,47,48,33]):=by kernel_rfl
theorem nag_2:indexL cfg.P 214 NAG (.int .i64 ((2:Nat):Int))=some (.str [35,86,65,76,85,69,33]):=by kernel_rfl
theorem nag_3:indexL cfg.P 214 NAG (.int .i64 ((3:Nat):Int))=some (.str [35,82,69,70,33]):=by kernel_rfl
theorem nag_4:indexL cfg.P 214 NAG (.int .i64 ((4:Nat):Int))=some (.str [35,78,65,77,69,63]):=by kernel_rfl
theorem nag_5:indexL cfg.P 214 NAG (.int .i64 ((5:Nat):Int))=some (.str [35,78,85,77,33]):=by kernel_rfl
theorem nag_6:indexL cfg.P 214 NAG (.int .i64 ((6:Nat):Int))=some (.str [35,78,47,65]):=by kernel_rfl
theorem nag_7:indexL cfg.P 214 NAG (.int .i64 ((7:Nat):Int))=some (.str [35,67,89,67,76,69,33]):=by kernel_rfl
theorem nag_8:indexL cfg.P 214 NAG (.int .i64 ((8:Nat):Int))=some (.str [35,76,73,78,75,33]):=by kernel_rfl
theorem nag_at(k:Nat)(x:List UInt8)(h:([]::NAMES)[k]? =some x):indexL cfg.P 214 NAG (.int .i64 (k:Int))=some (.str x):=by
 have:k<9:=by
  have:=(List.getElem?_eq_some_iff.1 h).1;simpa [NAMES] using this
 have hk:k=0\/k=1\/k=2\/k=3\/k=4\/k=5\/k=6\/k=7\/k=8:=by omega
 rcases hk with rfl |rfl |rfl |rfl |rfl |rfl |rfl |rfl |rfl
 ·rw [<-Option.some.inj h];exact nag_0
 ·rw [<-Option.some.inj h];exact nag_1
 ·rw [<-Option.some.inj h];exact nag_2
 ·rw [<-Option.some.inj h];exact nag_3
 ·rw [<-Option.some.inj h];exact nag_4
 ·rw [<-Option.some.inj h];exact nag_5
 ·rw [<-Option.some.inj h];exact nag_6
 ·rw [<-Option.some.inj h];exact nag_7
 ·rw [<-Option.some.inj h];exact nag_8
def quoteT(s:List UInt8):List UInt8:=34::(dblQ s++[34])
def wordTx(b s:List UInt8):List UInt8:=if b=[] then s else 91::(b++93::s)
theorem q162s(t:TokC)(H:LHeap)(hk:t.kind=2)(hs:t.s.length<=1000):CallL cfg 162 [t.lv] H (Ret (.str (quoteT t.s)) H):=by
 have k1:(t.kind==(1:Int))=false:=by rw [hk];rfl
 have k2:(t.kind==(2:Int))=true:=by rw [hk];rfl
 have hl:=dblQ_len t.s;have hc:=cntQ_le t.s;refine e162t _ t H fun i1 H2=>⟨fun h=>absurd h (by rw [k1];simp),fun _=>⟨fun _ hI=>⟨_,q246 t.s H2 hs,Ret.use ⟨_,rfl⟩,fun s7 H8 ⟨e,_⟩=> ?_⟩,fun h=>absurd h (by rw [k2];simp)⟩⟩;cases e;exact ⟨by omega,by simp;omega,fun hI=>⟨by simp [quoteT],hI.pres⟩⟩
theorem q162w(t:TokC)(H:LHeap)(hk:t.kind=4)(hs:t.s.length<=1000)(hb:t.refBook.length<=1000):CallL cfg 162 [t.lv] H (Ret (.str (wordTx t.refBook t.s)) H):=by
 have k1:(t.kind==(1:Int))=false:=by rw [hk];rfl
 have k2:(t.kind==(2:Int))=false:=by rw [hk];rfl
 have k3:(t.kind==(3:Int))=false:=by rw [hk];rfl
 have k4:(t.kind==(4:Int))=true:=by rw [hk];rfl
 refine e162t _ t H fun i1 H2=>⟨fun h=>absurd h (by rw [k1];simp),fun _=>⟨fun h=>absurd h (by rw [k2];simp),fun _=>⟨fun h=>absurd h (by rw [k3];simp),fun _=>⟨fun _=>⟨fun h=>⟨by omega,by simp;omega,by simp;omega,fun hI=>⟨?_,hI.pres⟩⟩,fun h hI=>⟨?_,hI.pres⟩⟩,fun h=>absurd h (by rw [k4];simp)⟩⟩⟩⟩
 all_goals
  simp at h;simp [wordTx,h]
theorem ok_idl{H0:LHeap}{X:List Nat}{i:Nat}{cs:List LV}{e:TypeId}{a:Option LAddr}(ha:∀ad,a=some ad->(ad.id∈X\/H0.next<=ad.id)/\ad.id≠i):∀j∈idl' a,okId X H0 [⟨i,cs,e⟩] j:=fun j hj=>by
 cases a with
 |none=>cases hj
 |some ad=>
  rw [List.mem_singleton.1 hj];exact okId_box' (ha ad rfl).1 (ha ad rfl).2
theorem q78(t:TokC)(x:List UInt8)(r:Nat)(H:LHeap)(hl:loadT cfg.P H 124 ⟨r,9,0⟩=some t.lv)(hr:r<H.next)(h162:∀H,CallL cfg 162 [t.lv] H (Ret (.str x) H))(hx:x.length<=10000):
  CallL cfg 78 [.slice (some ⟨r,9,0⟩) 1 (.exact 1)] H (Ret (.str x) H):=by
 refine e78t _ _ 1 _ H fun i3 H4 d=> ?_;intro hin hI;refine g78t_0 _ H d _ _ _ _ _ _ _ _ i3 _ _ _ _ H4 ⟨fun _=>⟨⟨by omega,by omega,rfl⟩,fun _=>⟨t,hI.pres.load0 hr hl,fun i16 H17 H18=>⟨fun h=>absurd h (by simp),fun _ _ _ hI18=>⟨_,h162 H18,Ret.use ⟨_,rfl⟩,fun s61 H62 ⟨e,_⟩ hI62=> ?_⟩⟩⟩⟩,fun h=>absurd h (by simp)⟩ hin hI;cases e;have hb:BldE 162 H62 i3 none none 0 (.exact 0) []:=⟨(hI62.slot 0 _ rfl).1,(hI62.slot 0 _ rfl).2.1,.nil,.inl rfl,(fun ad h=>by cases h),fun ad h=>by cases h⟩;have hi3:H.next<=i3:=(hI62.slot 0 _ rfl).2.2.resolve_left (by simp);refine ⟨_,[],g161 (.inl rfl) i3 x H62 hb (by simpa using (by omega:x.length<=1000000000)),BldEW.use (by exact ⟨_,_,rfl⟩),(fun j hj=>by cases hj),fun n64 v65 p66 a67 l68 c69 H70 ⟨_,_,a',n',q',hb',ha'⟩ hg d71=> ?_⟩;obtain ⟨rfl,rfl,rfl,rfl⟩:=box_eq hg hb'.get;rw [List.nil_append] at hb';intro hin2 hI2;rw [show lwrap .i64 (0+1)=1 from rfl] at hin2 |-;have hok:∀j∈idl' a67,okId [] H [⟨i3,[.ptr (some ⟨i3,2,0⟩),.slice a67 l68 c69],162⟩] j:=ok_idl fun ad h=>⟨.inr (by
  rcases ha' ad h with ⟨ad2,h2,_⟩ |h2
  ·cases h2
  ·exact Nat.le_trans hI62.pres.next h2),hb'.ne ad h⟩
 refine g78t_0 _ H d71 1 _ _ _ _ _ _ _ i3 _ _ _ _ H70 ⟨fun h=>absurd h (by simp),fun _ _=>⟨_,idl' a67,g112 (.inl rfl) i3 H70 hb' (by omega),fun v H' ⟨p,e⟩=>⟨p.mono (fun j hj=>List.mem_cons_of_mem _ hj),by rw [e];exact ⟨_,rfl⟩,_,⟨_,_,_,_,rfl⟩,rfl,(p.keep i3 hb'.lt (fun hm=> ?_)).get.trans hb'.get⟩,hok,fun s73 p74 a75 l76 c77 H78 ⟨_,e⟩ _ hI=> ?_⟩⟩ hin2 hI2
 ·cases ha:a67 with
  |none=>rw [ha] at hm;cases hm
  |some ad=>rw [ha] at hm;exact hb'.ne ad ha (List.mem_singleton.1 hm).symm
 ·cases e;exact .mk hI.pres
theorem byteAt_mid(A C:List UInt8)(b:UInt8):byteAt (A++b::C) (A.length:Int)=(b.toNat:Int):=by unfold byteAt;simp
theorem subStr_one(A C:List UInt8)(b:UInt8):subStr (A++b::C) (A.length:Int) ((A.length+1:Nat):Int)=[b]:=subStr_mid A [b] C
theorem u8_34(b:UInt8):((b.toNat:Int)==(34:Int))=(b==34):=by
 rw [Bool.eq_iff_iff];simp only [beq_iff_eq];constructor
 ·intro h;exact UInt8.toNat_inj.1 (by have:b.toNat=34:=by omega
                                      rw [this];rfl)
 ·intro h;subst h;rfl
theorem loop199(H0:LHeap)(s:List UInt8)(hs:s.length<=1000):∀(C A:List UInt8) (d:Nat->LV) (H:LHeap),A++C=s->GoesT cfg 199 (Ret (.str (quoteT s)) H0) [] H0 [] (L199t_0 d (A.length:Int) s (34::dblQ A)) (loopAt cfg 199 0) H
 |[],A,d,H,hA=>by
  intro hin hI;have hA:A=s:=by simpa using hA
  subst hA;have hl:=dblQ_len A;have hc:=cntQ_le A;refine g199t_0 _ H0 d _ A _ H ⟨fun h=>absurd h (by simp),fun _=>⟨by simp;omega,fun hI=>⟨by simp [quoteT],hI.pres⟩⟩⟩ hin hI
 |b::C,A,d,H,hA=>by
  intro hin hI;have hl:=dblQ_len A;have hc:=cntQ_le A;have hn:=congrArg List.length hA;simp only [List.length_append,List.length_cons] at hn;have hw:lwrap .i64 ((A.length:Int)+1)=((A.length+1:Nat):Int):=by rw [lwrap_small (by omega) (by omega)];omega
  have hby:byteAt s (A.length:Int)=(b.toNat:Int):=by rw [<-hA];exact byteAt_mid A C b
  have hsu:subStr s (A.length:Int) ((A.length+1:Nat):Int)=[b]:=by rw [<-hA];exact subStr_one A C b
  have next:=fun d H=>loop199 H0 s hs C (A++[b]) d H (by rw [<-hA];simp)
  rw [List.length_append,dblQ_app] at next
  refine g199t_0 _ H0 d _ s _ H ⟨fun _=> ?_,fun h=>absurd h (by simp;omega)⟩ hin hI;rw [hby,u8_34,hw,hsu];refine ⟨⟨by omega,by omega⟩,fun h=>⟨by simp;omega,⟨by omega,by omega,by omega⟩,by simp;omega,fun d7=> ?_⟩,fun h=>⟨⟨by omega,by omega,by omega⟩,by simp;omega,fun d10=> ?_⟩⟩
  ·have hb:b=34:=eq_of_beq h;subst hb;have:=next d7 H
   simpa [dblQ] using this
  ·have:=next d10 H
   have e:dblQ [b]=[b]:=by unfold dblQ;rw [if_neg (by rw [h];simp)];rfl
   rw [e] at this;simpa using this
theorem q199(s:List UInt8)(H:LHeap)(hs:s.length<=1000):CallL cfg 199 [.str s] H (Ret (.str (quoteT s)) H):=
 e199t _ s H fun d=>loop199 H s hs s [] d H rfl
def valTx(v:ValC):List UInt8:=if v.kind=1 then numT v.n.toNat else if v.kind=3 then (if v.n=0 then [70,65,76,83,69] else [84,82,85,69]) else (([]::NAMES)[v.n.toNat]?).getD []
def GoodV(v:ValC):Prop:=(v.kind=1/\0<=v.n/\v.n<=100000000000)\/v.kind=3\/(v.kind=4/\1<=v.n/\v.n<=8)
theorem name_get{n:Int}(h:1<=n/\n<=8):∃x,([]::NAMES)[n.toNat]? =some x/\x.length<=10:=by
 have:n=1\/n=2\/n=3\/n=4\/n=5\/n=6\/n=7\/n=8:=by omega
 rcases this with rfl |rfl |rfl |rfl |rfl |rfl |rfl |rfl
 all_goals exact ⟨_,rfl,by simp⟩
theorem valTx_len{v:ValC}(h:GoodV v):(valTx v).length<=20:=by
 unfold valTx;rcases h with ⟨h,h1,h2⟩ |h |⟨h,h1⟩
 ·rw [if_pos h];exact numT_len _ (by omega)
 ·rw [if_neg (by omega),if_pos h];split<;>simp
 ·rw [if_neg (by omega),if_neg (by omega)];obtain ⟨x,hx,hl⟩:=name_get h1;rw [hx];simpa using by omega
theorem q194(v:ValC)(H:LHeap)(h:GoodV v):CallL cfg 194 [v.lv] H (Ret (.str (valTx v)) H):=by
 have own:∀{w:LV} (H:LHeap),ownV v=w->CallL cfg 260 [v.lv] H (Ret w H):=fun H e=>e▸s260 v H;rcases h with ⟨hk,h1,h2⟩ |hk |⟨hk,h1⟩
 ·have ho:ownV v=.iface 280 (.int .i64 v.n):=by simp [ownV,hk]
  refine e194b _ v H fun i1 H2 _ _ hI=>⟨_,own H2 ho,Ret.use ⟨v.n,rfl⟩,fun y4 H5 ⟨e,_⟩ hI=> ?_⟩;cases e;have:=q245 v.n.toNat H5 (by omega);rw [show ((v.n.toNat:Nat):Int)=v.n by omega] at this;refine ⟨_,this,Ret.use ⟨_,rfl⟩,fun s7 H8 ⟨e,_⟩ hI=>⟨?_,hI.pres⟩⟩;rw [e];unfold valTx;rw [if_pos hk]
 ·have ho:ownV v=.iface 282 (.bool (v.n != 0)):=by simp [ownV,hk]
  refine e194d _ v H fun i1 H2 _ _ hI=>⟨_,own H2 ho,Ret.use ⟨_,rfl⟩,fun y4 H5 ⟨e,_⟩=>⟨fun h hI=>⟨?_,hI.pres⟩,fun h hI=>⟨?_,hI.pres⟩⟩⟩
  all_goals
   cases e;simp at h;simp [valTx,hk,h]
 ·have ho:ownV v=.iface 283 (.int .i64 v.n):=by simp [ownV,hk]
  obtain ⟨x,hx,hl⟩:=name_get h1;have hv:valTx v=x:=by unfold valTx;rw [if_neg (by omega),if_neg (by omega),hx];rfl
  rw [hv];refine e194t _ v H fun i1 H2 _ _ _=>⟨_,own H2 ho,Ret.use ⟨_,rfl⟩,fun y4 H5 ⟨e,_⟩=> ?_⟩;have:y4=v.n:=by cases e;rfl
  subst this;refine ⟨fun _=>⟨fun _ _=>⟨Ret NAG H5,e261 _ H5 fun i0 H1 _ _ H2 _ hI=>⟨rfl,hI.pres⟩,Ret.use ⟨_,_,_,_,_,_,_,_,_,rfl⟩,fun s7 s8 s9 s10 s11 s12 s13 s14 s15 H16 ⟨e16,_⟩=>⟨x,?_,fun hI=>⟨rfl,hI.pres⟩⟩⟩,fun h=>absurd h (by simp;omega)⟩,fun h=>absurd h (by simp;omega)⟩;rw [e16];have:=nag_at v.n.toNat x hx
  rwa [show ((v.n.toNat:Nat):Int)=v.n by omega] at this
theorem q200(v:ValC)(H:LHeap)(h:GoodV v):CallL cfg 200 [v.lv] H (Ret (.str (valTx v)) H):=by
 rcases h with ⟨hk,h1,h2⟩ |hk |⟨hk,h1⟩
 ·have k1:(v.kind==(1:Int))=true:=by rw [hk];rfl
  refine e200t _ v H fun i1 H2=>⟨fun _ hI=> ?_,fun h=>absurd h (by rw [k1];simp)⟩;have:=q264 v.n.toNat H2 (by omega);rw [show ((v.n.toNat:Nat):Int)=v.n by omega] at this;refine ⟨_,this,Ret.use ⟨_,rfl⟩,fun s4 H5 ⟨e,_⟩ hI=>⟨?_,hI.pres⟩⟩;rw [e];unfold valTx;rw [if_pos hk]
 ·have k1:(v.kind==(1:Int))=false:=by rw [hk];rfl
  have k2:(v.kind==(2:Int))=false:=by rw [hk];rfl
  have k3:(v.kind==(3:Int))=true:=by rw [hk];rfl
  refine e200t _ v H fun i1 H2=>⟨fun h=>absurd h (by rw [k1];simp),fun _=>⟨fun h=>absurd h (by rw [k2];simp),fun _=>⟨fun _=>⟨fun h hI=>⟨?_,hI.pres⟩,fun h hI=>⟨?_,hI.pres⟩⟩,fun h=>absurd h (by rw [k3];simp)⟩⟩⟩
  all_goals
   simp at h;simp [valTx,hk,h]
 ·have k1:(v.kind==(1:Int))=false:=by rw [hk];rfl
  have k2:(v.kind==(2:Int))=false:=by rw [hk];rfl
  have k3:(v.kind==(3:Int))=false:=by rw [hk];rfl
  have k4:(v.kind==(4:Int))=true:=by rw [hk];rfl
  obtain ⟨x,hx,hl⟩:=name_get h1;have hv:valTx v=x:=by unfold valTx;rw [if_neg (by omega),if_neg (by omega),hx];rfl
  rw [hv];refine e200t _ v H fun i1 H2=>⟨fun h=>absurd h (by rw [k1];simp),fun _=>⟨fun h=>absurd h (by rw [k2];simp),fun _=>⟨fun h=>absurd h (by rw [k3];simp),fun _=>⟨fun _=>⟨fun _=>⟨fun _=>⟨rfl,fun _=>⟨Ret NAG H2,e156t _ H2 fun i0 H1 _ _ H3 _ hI=>⟨rfl,hI.pres⟩,Ret.use ⟨_,_,_,_,_,_,_,_,_,rfl⟩,fun s8 s9 s10 s11 s12 s13 s14 s15 s16 H17 ⟨e16,_⟩=>⟨x,?_,rfl,fun hI=>⟨rfl,hI.pres⟩⟩⟩⟩,fun h=>absurd h (by simp;omega)⟩,fun h=>absurd h (by simp;omega)⟩,fun h=>absurd h (by rw [k4];simp)⟩⟩⟩⟩;rw [e16];have:=nag_at v.n.toNat x hx
  rwa [show ((v.n.toNat:Nat):Int)=v.n by omega] at this
end Go.Proofs.YtjihhflffkoffaaGreatDoor.Z
