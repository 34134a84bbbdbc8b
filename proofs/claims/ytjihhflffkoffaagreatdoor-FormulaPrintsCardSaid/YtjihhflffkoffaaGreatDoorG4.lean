/- Contracts of functions of the program; no condition. -/
import Derived.Test.YtjihhflffkoffaaGreatDoorG3
import Derived.Test.YtjihhflffkoffaaGreatDoorG2
set_option linter.unusedSimpArgs false
set_option linter.unusedVariables false
set_option linter.unusedSectionVars false
set_option linter.unnecessarySimpa false
namespace Go.Proofs.YtjihhflffkoffaaGreatDoor.Z
open Go Go.Lm
set_option maxRecDepth 1000000
set_option maxHeartbeats 0
def letF(n:Int):Bool:=(decide (97<=n)&&decide (n<=122))||(decide (65<=n)&&decide (n<=90))
def digF(n:Int):Bool:=decide (48<=n)&&decide (n<=57)
theorem s173(n:Int)(H:LHeap):CallL cfg 173 [.int .u8 n] H (Ret (.bool (letF n)) H):=by
 refine e173t _ n H ⟨fun h1=>⟨fun h2 hI=>⟨?_,hI.pres⟩,fun h2=>⟨fun h3 hI=>⟨?_,hI.pres⟩,fun h3 hI=>⟨?_,hI.pres⟩⟩⟩,fun h1=>⟨fun h3 hI=>⟨?_,hI.pres⟩,fun h3 hI=>⟨?_,hI.pres⟩⟩⟩
 all_goals
  simp only [ge_iff_le] at*;simp [letF, *]
theorem s174(n:Int)(H:LHeap):CallL cfg 174 [.int .u8 n] H (Ret (.bool (digF n)) H):=by
 refine e174t _ n H ⟨fun h1 hI=>⟨?_,hI.pres⟩,fun h1 hI=>⟨?_,hI.pres⟩⟩
 all_goals
  simp only [ge_iff_le] at*;simp [digF, *]
theorem s250(b:UInt8)(H:LHeap):CallL cfg 250 [.int .u8 (b.toNat:Int)] H (Ret (.int .u8 ((upB b).toNat:Int)) H):=by
 have h256:=u8_lt256 b;refine e250t _ _ H ⟨fun h1=>⟨fun h2 hI=>⟨?_,hI.pres⟩,fun h2 hI=>⟨?_,hI.pres⟩⟩,fun h1 hI=>⟨?_,hI.pres⟩⟩
 ·simp at h1 h2;have hup:upB b=UInt8.ofNat (b.toNat-32):=by unfold upB;rw [if_pos (by omega)]
  congr 1;rw [hup,lwrap_eq,lwrap_eq];simp only [IntKind.wrap,IntKind.signed,IntKind.bits,Bool.false_and,Bool.false_eq_true,if_false];rw [UInt8.toNat_ofNat'];omega
 ·simp at h1 h2;have:upB b=b:=by unfold upB;rw [if_neg (by omega)]
  rw [this]
 ·simp at h1;have:upB b=b:=by unfold upB;rw [if_neg (by omega)]
  rw [this]
theorem loop249(H0:LHeap)(r n:Nat)(hr:H0.next<=r)(hn:n<=9223372036854775807):∀(C A:List UInt8) (d:Nat->LV) (H:LHeap),A.length+C.length=n->r<H.next->H.get r=some (.cells (bcs (A.map upB++C)) 5 n n .mark false false)->
  GoesT cfg 249 (Ret (.str ((A++C).map upB)) H0) [] H0 [] (L249t_0 d (A.length:Int) (some ⟨r,n,0⟩) n (.free 1) (n:Int)) (loopAt cfg 249 0) H
 |[],A,d,H,hl,hlt,hg=>by
  intro hin hI;refine g249t_0 _ H0 d A.length (some ⟨r,n,0⟩) n (.free 1) n H ⟨fun h=> ?_,fun h hI=>⟨A.map upB,H,conv_from ?_,fun hI=>⟨by rw [List.append_nil],hI.pres⟩⟩⟩ hin hI
  ·simp at h hl;omega
  ·unfold loadN;rw [List.append_nil] at hg;simp only [hg];rw [if_pos (by simp),dropN_eq,List.drop_zero,takeN_of _ _ (by rw [bcs_len,List.length_map];simp at hl;omega),List.take_of_length_le (by rw [bcs_len,List.length_map];simp at hl;omega)]
 |b::C,A,d,H,hl,hlt,hg=>by
  intro hin hI;have hAC:(A++[b])++C=A++b::C:=by simp
  have hlen:(A++[b]).length+C.length=n:=by simp at hl |-;omega
  rw [List.length_cons] at hl;have hi:((A.length:Int)+1)=(((A++[b]).length:Nat):Int):=by simp
  have hw:lwrap .i64 ((A.length:Int)+1)=(((A++[b]).length:Nat):Int):=by rw [lwrap_small (by omega) (by omega),hi]
  have h256:=u8_lt256 b;have hnth:(bcs (A.map upB++b::C))[A.length]? =some (.int .u8 (b.toNat:Int)):=by
   unfold bcs;rw [List.getElem?_map,List.getElem?_append_right (by simp)];simp
  refine g249t_0 _ H0 d A.length (some ⟨r,n,0⟩) n (.free 1) n H ⟨fun h=>⟨⟨by omega,by omega,rfl⟩,fun hI=>⟨(b.toNat:Int),?ld,fun hI=>⟨_,s250 b H,Ret.use ⟨_,rfl⟩,fun n9 H10 ⟨e9,p10⟩=>⟨⟨by omega,by omega,rfl⟩,fun hI=> ?st⟩⟩⟩⟩,fun h=> ?ge⟩ hin hI
  case ge=>simp at h;omega
  case ld=>
   unfold loadT;rw [show isAggT cfg.P 5=some false by kernel_rfl];show load1 H ⟨r,n,0+(A.length:Int).toNat*1⟩=_;unfold load1;simp only [hg,Int.toNat_natCast,Nat.mul_one,Nat.zero_add];rw [if_pos (by simp only [Bool.and_eq_true,Nat.ble_eq];omega),nth_eq];exact hnth
  case st=>
   have hg10:H10.get r=some (.cells (bcs (A.map upB++b::C)) 5 n n .mark false false):=by rw [(p10.keep r hlt (by simp)).get];exact hg
   refine ⟨H10.put r (.cells (bcs ((A++[b]).map upB++C)) 5 n n .mark false false),⟨?_,.inr hr,fun k s hs=>by simp [nth] at hs⟩,fun d13=> ?_⟩
   ·unfold storeT;rw [show sizeOfT cfg.P 5=some 1 by kernel_rfl];show storeN H10 ⟨r,n,0+(A.length:Int).toNat*1⟩ [.int .u8 n9]=_;unfold storeN;rw [e9];simp only [hg10,Nat.beq_refl,Bool.not_false,Bool.and_self,FZ.apart,if_true,Int.toNat_natCast,Nat.mul_one,Nat.zero_add];have hov:=over_mid (bcs (A.map upB)) [LV.int .u8 (b.toNat:Int)] (bcs C) [LV.int .u8 ((upB b).toNat:Int)] rfl;rw [bcs_len,List.length_map] at hov;have e1:bcs (A.map upB++b::C)=bcs (A.map upB)++([LV.int .u8 (b.toNat:Int)]++bcs C):=by rw [bcs_app];rfl
    rw [e1,hov];have e2:bcs ((A++[b]).map upB++C)=bcs (A.map upB)++([LV.int .u8 ((upB b).toNat:Int)]++bcs C):=by rw [List.map_append,bcs_app,bcs_app,List.append_assoc];rfl
    rw [e2];rfl
   ·rw [hw,<-hAC];exact loop249 H0 r n hr hn C (A++[b]) d13 _ hlen (Nat.lt_of_lt_of_le hlt p10.next) (by rw [LHeap.get_put,if_pos rfl])
theorem s249(s:List UInt8)(H:LHeap)(hs:s.length<=9223372036854775807):CallL cfg 249 [.str s,.func (.func 250) [] []] H (Ret (.str (s.map upB)) H):=by
 refine e249t _ s H fun hI=>⟨some ⟨H.next,s.length,0⟩,s.length,.free 1,[],H.push (.cells (bcs s) 5 s.length s.length .mark false false),⟨?_,.push _ _ _,fun i hi=>by cases hi⟩,fun d=> ?_⟩
 ·show (match convertL cfg.P H 9 155 (.str s) with
   |some (v,H')=>some [(LNext.value v,H')]
   |none=>none)=_
  rw [conv_to hs]
 ·exact loop249 H H.next s.length (Nat.le_refl _) hs s [] d _ (by simp) (Nat.lt_succ_self _) (by rw [LHeap.get_push,if_pos rfl];rfl)
theorem s175(s:List UInt8)(H:LHeap)(hs:s.length<=9223372036854775807):CallL cfg 175 [.str s] H (Ret (.str (s.map upB)) H):=by
 refine e175t _ s H fun hI=>⟨_,s249 s H hs,Ret.use ⟨_,rfl⟩,fun s2 H3 ⟨e,_⟩ hI=>⟨e,hI.pres⟩⟩
def scanF:List UInt8->Nat->Option Nat
 |[],k=>some k
 |b::s,k=>if digF (b.toNat:Int) then scanF s (k+1) else if letF (b.toNat:Int)||(b.toNat:Int)==95 then scanF s k else none
def nameF(s:List UInt8):Bool:=
 match s with
 |[]=>false
 |b::t=>if (b::t).length>16 then false else if letF (b.toNat:Int) then
   match scanF (b::t) 0 with
   |none=>false
   |some k=> !((b::t).map upB==[84,82,85,69])&& !((b::t).map upB==[70,65,76,83,69])&&((k:Int)==0||decide ((k:Int)<lwrap .i64 ((((b::t).length:Nat):Int)-1)))
  else false
theorem byteAt_app(A:List UInt8)(b:UInt8)(C:List UInt8):byteAt (A++b::C) (A.length:Int)=(b.toNat:Int):=by
 unfold byteAt;simp
theorem loop90(s:List UInt8)(hs:s.length<=16)(H0:LHeap)(r:Bool):∀(C A:List UInt8) (k:Nat) (d:Nat->LV) (H:LHeap),A++C=s->k<=A.length->
  (match scanF C k with
    |none=>false
    |some k=> !(s.map upB==[84,82,85,69])&& !(s.map upB==[70,65,76,83,69])&&((k:Int)==0||decide ((k:Int)<lwrap .i64 (((s.length:Nat):Int)-1))))=r->
  GoesT cfg 90 (Ret (.bool r) H0) [] H0 [] (L90t_0 d (A.length:Int) (k:Int) s ((s.length:Nat):Int)) (loopAt cfg 90 0) H
 |[],A,k,d,H,hA,hk,hr=>by
  intro hin hI;have hl:A.length=s.length:=by rw [<-hA];simp
  unfold scanF at hr;simp only at hr;refine g90t_0 _ H0 d A.length k s s.length H ⟨fun h=> ?_,fun _ hI=>⟨_,s175 s H (by omega),Ret.use ⟨_,rfl⟩,fun s17 H18 ⟨e,_⟩=> ?_⟩⟩ hin hI
  ·simp at h;omega
  ·cases e;refine ⟨fun h1=>⟨fun h2=>⟨fun h3 hI=>⟨?_,hI.pres⟩,fun h3 hI=>⟨?_,hI.pres⟩⟩,fun h2 hI=>⟨?_,hI.pres⟩⟩,fun h1 hI=>⟨?_,hI.pres⟩⟩
   ·rw [<-hr,h1,h2,h3];rfl
   ·rw [<-hr,h1,h2,h3];rfl
   ·rw [<-hr,h1,h2];rfl
   ·rw [<-hr,h1];rfl
 |b::C,A,k,d,H,hA,hk,hr=>by
  intro hin hI;have hl:A.length+(C.length+1)=s.length:=by rw [<-hA];simp
  have hAC:(A++[b])++C=s:=by rw [<-hA];simp
  have hb:byteAt s (A.length:Int)=(b.toNat:Int):=by rw [<-hA];exact byteAt_app A b C
  have hi:lwrap .i64 ((A.length:Int)+1)=(((A++[b]).length:Nat):Int):=by rw [lwrap_small (by omega) (by omega)];simp
  have hk1:lwrap .i64 ((k:Int)+1)=((k+1:Nat):Int):=by rw [lwrap_small (by omega) (by omega)];simp
  have rg:(0:Int)<=(A.length:Int)/\(A.length:Int)<((s.length:Nat):Int):=by omega
  unfold scanF at hr;have c173:∀H',CallL cfg 173 [.int .u8 (byteAt s (A.length:Int))] H' (Ret (.bool (letF (b.toNat:Int))) H'):=fun H'=>by rw [hb];exact s173 _ H'
  have c174:∀H',CallL cfg 174 [.int .u8 (byteAt s (A.length:Int))] H' (Ret (.bool (digF (b.toNat:Int))) H'):=fun H'=>by rw [hb];exact s174 _ H'
  refine g90t_0 _ H0 d A.length k s s.length H ⟨fun h=>⟨rg,fun hI=>⟨_,c174 H,Ret.use ⟨_,rfl⟩,fun b6 H7 ⟨e6,_⟩=>⟨fun h6 d8=> ?_,fun h6=>⟨rg,fun hI=>⟨_,c173 H7,Ret.use ⟨_,rfl⟩,fun b11 H12 ⟨e11,_⟩=>⟨fun h11=>⟨rg,fun h95 hI=>⟨?_,hI.pres⟩,fun h95 d14=> ?_⟩,fun h11 d15=> ?_⟩⟩⟩⟩⟩⟩,fun h=> ?ge⟩ hin hI
  case ge=>simp at h;omega
  ·cases e6;rw [h6,if_pos rfl] at hr;rw [hi,hk1];exact loop90 s hs H0 r C (A++[b]) (k+1) d8 H7 hAC (by simp;omega) hr
  ·cases e6;cases e11;rw [hb] at h95;simp at h11 h95;rw [h6,h11,Bool.false_or] at hr;simp only [Bool.false_eq_true,if_false] at hr;rw [if_neg (by simpa using h95)] at hr;rw [<-hr]
  ·cases e6;cases e11;rw [hb] at h95;simp at h11 h95;rw [h6,h11,Bool.false_or] at hr;simp only [Bool.false_eq_true,if_false] at hr;rw [if_pos (by simpa using h95)] at hr;rw [hi];exact loop90 s hs H0 r C (A++[b]) k d14 H12 hAC (by simp;omega) hr
  ·cases e6;cases e11;simp at h11;rw [h6,h11,Bool.true_or] at hr;simp only [Bool.false_eq_true,if_false,if_true] at hr;rw [hi];exact loop90 s hs H0 r C (A++[b]) k d15 H12 hAC (by simp;omega) hr
theorem s90(s:List UInt8)(H:LHeap):CallL cfg 90 [.str s] H (Ret (.bool (nameF s)) H):=by
 refine e90t _ s H ⟨fun h0 hI=>⟨?_,hI.pres⟩,fun h0=>⟨fun h16 hI=>⟨?_,hI.pres⟩,fun h16=>⟨?_,fun hI=> ?_⟩⟩⟩
 ·have:s=[]:=by simpa using h0
  rw [this];rfl
 ·cases s with
  |nil=>cases h0
  |cons b t=>
   unfold nameF;simp only;rw [if_pos (by simp at h16 |-;omega)]
 ·cases s with
  |nil=>cases h0
  |cons b t=>simp
 ·cases s with
  |nil=>cases h0
  |cons b t=>
   have hs16:(b::t).length<=16:=by simp at h16 |-;omega
   have hb:byteAt (b::t) 0=(b.toNat:Int):=byteAt_app [] b t;rw [hb];refine ⟨_,s173 _ H,Ret.use ⟨_,rfl⟩,fun b3 H4 ⟨e,_⟩=>⟨fun h3 hI=>⟨?_,hI.pres⟩,fun h3 d5=> ?_⟩⟩
   ·cases e;have h3':letF (b.toNat:Int)=false:=by simpa using h3
    unfold nameF;simp only;rw [if_neg (by omega),h3'];rfl
   ·cases e;have h3':letF (b.toNat:Int)=true:=by simpa using h3
    refine loop90 (b::t) hs16 H (nameF (b::t)) (b::t) [] 0 d5 H4 rfl (Nat.le_refl _) ?_;unfold nameF;simp only;rw [if_neg (by omega),h3',if_pos rfl]
def inF(n m:Int):Bool:=decide (1<=n/\n<=64/\1<=m/\m<=26)
def refF(r:RefC):Bool:=inF r.row r.col&&(!(r.sheet==[])||r.book==[])&&(r.sheet==[]||nameF r.sheet)&&(r.book==[]||nameF r.book)
theorem s281(n m:Int)(H:LHeap):CallL cfg 281 [.int .i64 n,.int .i64 m] H (Ret (.bool (inF n m)) H):=by
 have out:∀{H':LHeap},¬(1<=n/\n<=64/\1<=m/\m<=26)->PresX [] H H'->Ret (.bool (inF n m)) H (.bool false) H':=fun h p=>⟨by unfold inF;rw [decide_eq_false h],p⟩;refine e281t _ n m H ⟨fun h1=>⟨fun h2=>⟨fun h3 hI=>⟨?_,hI.pres⟩,fun h hI=>out (by simp at h;omega) hI.pres⟩,fun h hI=>out (by simp at h;omega) hI.pres⟩,fun h hI=>out (by simp at h;omega) hI.pres⟩;simp only [decide_eq_true_eq,ge_iff_le] at h1 h2 h3;congr 1;unfold inF;exact decide_eq_decide.2 (by omega)
theorem s256(r:RefC)(H:LHeap):CallL cfg 256 [r.lv] H (Ret (.bool (refF r)) H):=by
 refine e256t _ r H fun i1 H2 _ _ hI=>⟨_,s281 r.row r.col H2,Ret.use ⟨_,rfl⟩,fun b4 H5 ⟨e4,_⟩=> ?_⟩;refine ⟨fun h4 hI=>⟨?_,hI.pres⟩,fun h4=>⟨fun hs=>⟨fun hb hI=>⟨?_,hI.pres⟩,fun hb=>⟨fun _=>⟨fun hb2 hI=>⟨?_,hI.pres⟩,fun hb2 hI=>⟨_,s90 r.book H5,Ret.use ⟨_,rfl⟩,fun b7 H8 ⟨e7,_⟩ hI=>⟨?_,hI.pres⟩⟩⟩,fun hs2 hI=>⟨_,s90 r.sheet H5,Ret.use ⟨_,rfl⟩,fun b10 H11 ⟨e10,_⟩=> ?x1⟩⟩⟩,fun hs=>⟨fun hs2=> ?x2,fun hs2 hI=>⟨_,s90 r.sheet H5,Ret.use ⟨_,rfl⟩,fun b19 H20 ⟨e19,_⟩=>⟨fun h19=>⟨fun hb hI=>⟨?_,hI.pres⟩,fun hb hI=>⟨_,s90 r.book H20,Ret.use ⟨_,rfl⟩,fun b22 H23 ⟨e22,_⟩ hI=>⟨?_,hI.pres⟩⟩⟩,fun h19 hI=>⟨?_,hI.pres⟩⟩⟩⟩⟩⟩
 case x1=>rw [hs] at hs2;cases hs2
 case x2=>rw [hs] at hs2;cases hs2
 all_goals
  cases e4
  first
  |(simp_all [refF];done)
  |(obtain ⟨bk,sh,_,_,_,_⟩:=r
    cases bk<;>cases sh<;>simp_all [refF])
def numF(n:Int):Bool:=decide (n>=(-100000000000))&&decide (n<=100000000000)
theorem s294(n:Int)(H:LHeap):CallL cfg 294 [.int .i64 n] H (Ret (.bool (numF n)) H):=by
 refine e294t _ n H ⟨fun h hI=>⟨?_,hI.pres⟩,fun h hI=>⟨?_,hI.pres⟩⟩
 all_goals simp only [numF,h,Bool.true_and,Bool.false_and]
end Go.Proofs.YtjihhflffkoffaaGreatDoor.Z
