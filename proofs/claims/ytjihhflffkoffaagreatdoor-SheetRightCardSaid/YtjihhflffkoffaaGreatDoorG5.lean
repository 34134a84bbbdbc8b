/- Contracts of functions of the program; no condition. -/
import Derived.Test.YtjihhflffkoffaaGreatDoorG4
import Derived.Laws.RangeAny
import Derived.Laws.RangeString
import Derived.Test.YtjihhflffkoffaaGreatDoorG0
import Derived.Test.YtjihhflffkoffaaGreatDoorLe
set_option linter.unusedSimpArgs false
set_option linter.unusedVariables false
set_option linter.unusedSectionVars false
set_option linter.unnecessarySimpa false
namespace Go.Proofs.YtjihhflffkoffaaGreatDoor.Z
open Go Go.Lm
set_option maxRecDepth 1000000
set_option maxHeartbeats 0
def letF(n:Int):Bool:=(decide (97<=n)&&decide (n<=122))||(decide (65<=n)&&decide (n<=90))
def digF(n:Int):Bool:=decide (48<=n)&&decide (n<=57)
theorem s173(n:Int)(H:LHeap):CallL cfg 173 [.int .u8 n] H (Ret (.bool (letF n)) H):=by
 refine e173t _ n H ⟨fun h1=>⟨fun h2 hI=>⟨?_,hI.pres⟩,fun h2=>⟨fun h3 hI=>⟨?_,hI.pres⟩,fun h3 hI=>⟨?_,hI.pres⟩⟩⟩,fun h1=>⟨fun h3 hI=>⟨?_,hI.pres⟩,fun h3 hI=>⟨?_,hI.pres⟩⟩⟩
 all_goals
  simp only [ge_iff_le] at*;simp [letF, *]
theorem s174(n:Int)(H:LHeap):CallL cfg 174 [.int .u8 n] H (Ret (.bool (digF n)) H):=by
 refine e174t _ n H ⟨fun h1 hI=>⟨?_,hI.pres⟩,fun h1 hI=>⟨?_,hI.pres⟩⟩
 all_goals
  simp only [ge_iff_le] at*;simp [digF, *]
theorem s250(b:UInt8)(H:LHeap):CallL cfg 250 [.int .u8 (b.toNat:Int)] H (Ret (.int .u8 ((upB b).toNat:Int)) H):=by
 have h256:=u8_lt256 b;refine e250t _ _ H ⟨fun h1=>⟨fun h2 hI=>⟨?_,hI.pres⟩,fun h2 hI=>⟨?_,hI.pres⟩⟩,fun h1 hI=>⟨?_,hI.pres⟩⟩
 ·simp at h1 h2;have hup:upB b=UInt8.ofNat (b.toNat-32):=by unfold upB;rw [if_pos (by omega)]
  congr 1;rw [hup,lwrap_eq,lwrap_eq];simp only [IntKind.wrap,IntKind.signed,IntKind.bits,Bool.false_and,Bool.false_eq_true,if_false];rw [UInt8.toNat_ofNat'];omega
 ·simp at h1 h2;have:upB b=b:=by unfold upB;rw [if_neg (by omega)]
  rw [this]
 ·simp at h1;have:upB b=b:=by unfold upB;rw [if_neg (by omega)]
  rw [this]
theorem loop249(H0:LHeap)(r n:Nat)(hr:H0.next<=r)(hn:n<=9223372036854775807):∀(C A:List UInt8) (d:Nat->LV) (H:LHeap),A.length+C.length=n->r<H.next->H.get r=some (.cells (bcs (A.map upB++C)) 5 n n .mark false false)->
  GoesT cfg 249 (Ret (.str ((A++C).map upB)) H0) [] H0 [] (L249t_0 d (A.length:Int) (some ⟨r,n,0⟩) n (.free 1) (n:Int)) (loopAt cfg 249 0) H
 |[],A,d,H,hl,hlt,hg=>by
  intro hin hI;refine g249t_0 _ H0 d A.length (some ⟨r,n,0⟩) n (.free 1) n H ⟨fun h=> ?_,fun h hI=>⟨A.map upB,H,conv_from ?_,fun hI=>⟨by rw [List.append_nil],hI.pres⟩⟩⟩ hin hI
  ·simp at h hl;omega
  ·unfold loadN;rw [List.append_nil] at hg;simp only [hg];rw [if_pos (by simp),dropN_eq,List.drop_zero,takeN_of _ _ (by rw [bcs_len,List.length_map];simp at hl;omega),List.take_of_length_le (by rw [bcs_len,List.length_map];simp at hl;omega)]
 |b::C,A,d,H,hl,hlt,hg=>by
  intro hin hI;have hAC:(A++[b])++C=A++b::C:=by simp
  have hlen:(A++[b]).length+C.length=n:=by simp at hl |-;omega
  rw [List.length_cons] at hl;have hi:((A.length:Int)+1)=(((A++[b]).length:Nat):Int):=by simp
  have hw:lwrap .i64 ((A.length:Int)+1)=(((A++[b]).length:Nat):Int):=by rw [lwrap_small (by omega) (by omega),hi]
  have h256:=u8_lt256 b;have hnth:(bcs (A.map upB++b::C))[A.length]? =some (.int .u8 (b.toNat:Int)):=by
   unfold bcs;rw [List.getElem?_map,List.getElem?_append_right (by simp)];simp
  refine g249t_0 _ H0 d A.length (some ⟨r,n,0⟩) n (.free 1) n H ⟨fun h=>⟨⟨by omega,by omega,rfl⟩,fun hI=>⟨(b.toNat:Int),?ld,fun hI=>⟨_,s250 b H,Ret.use ⟨_,rfl⟩,fun n9 H10 ⟨e9,p10⟩=>⟨⟨by omega,by omega,rfl⟩,fun hI=> ?st⟩⟩⟩⟩,fun h=> ?ge⟩ hin hI
  case ge=>simp at h;omega
  case ld=>
   unfold loadT;rw [show isAggT cfg.P 5=some false by kernel_rfl];show load1 H ⟨r,n,0+(A.length:Int).toNat*1⟩=_;unfold load1;simp only [hg,Int.toNat_natCast,Nat.mul_one,Nat.zero_add];rw [if_pos (by simp only [Bool.and_eq_true,Nat.ble_eq];omega),nth_eq];exact hnth
  case st=>
   have hg10:H10.get r=some (.cells (bcs (A.map upB++b::C)) 5 n n .mark false false):=by rw [(p10.keep r hlt (by simp)).get];exact hg
   refine ⟨H10.put r (.cells (bcs ((A++[b]).map upB++C)) 5 n n .mark false false),⟨?_,.inr hr,fun k s hs=>by simp [nth] at hs⟩,fun d13=> ?_⟩
   ·unfold storeT;rw [show sizeOfT cfg.P 5=some 1 by kernel_rfl];show storeN H10 ⟨r,n,0+(A.length:Int).toNat*1⟩ [.int .u8 n9]=_;unfold storeN;rw [e9];simp only [hg10,Nat.beq_refl,Bool.not_false,Bool.and_self,FZ.apart,if_true,Int.toNat_natCast,Nat.mul_one,Nat.zero_add];have hov:=over_mid (bcs (A.map upB)) [LV.int .u8 (b.toNat:Int)] (bcs C) [LV.int .u8 ((upB b).toNat:Int)] rfl;rw [bcs_len,List.length_map] at hov;have e1:bcs (A.map upB++b::C)=bcs (A.map upB)++([LV.int .u8 (b.toNat:Int)]++bcs C):=by rw [bcs_app];rfl
    rw [e1,hov];have e2:bcs ((A++[b]).map upB++C)=bcs (A.map upB)++([LV.int .u8 ((upB b).toNat:Int)]++bcs C):=by rw [List.map_append,bcs_app,bcs_app,List.append_assoc];rfl
    rw [e2];rfl
   ·rw [hw,<-hAC];exact loop249 H0 r n hr hn C (A++[b]) d13 _ hlen (Nat.lt_of_lt_of_le hlt p10.next) (by rw [LHeap.get_put,if_pos rfl])
theorem s249(s:List UInt8)(H:LHeap)(hs:s.length<=9223372036854775807):CallL cfg 249 [.str s,.func (.func 250) [] []] H (Ret (.str (s.map upB)) H):=by
 refine e249t _ s H fun hI=>⟨some ⟨H.next,s.length,0⟩,s.length,.free 1,[],H.push (.cells (bcs s) 5 s.length s.length .mark false false),⟨?_,.push _ _ _,fun i hi=>by cases hi⟩,fun d=> ?_⟩
 ·show (match convertL cfg.P H 9 155 (.str s) with
   |some (v,H')=>some [(LNext.value v,H')]
   |none=>none)=_
  rw [conv_to hs]
 ·exact loop249 H H.next s.length (Nat.le_refl _) hs s [] d _ (by simp) (Nat.lt_succ_self _) (by rw [LHeap.get_push,if_pos rfl];rfl)
theorem s175(s:List UInt8)(H:LHeap)(hs:s.length<=9223372036854775807):CallL cfg 175 [.str s] H (Ret (.str (s.map upB)) H):=by
 refine e175t _ s H fun hI=>⟨_,s249 s H hs,Ret.use ⟨_,rfl⟩,fun s2 H3 ⟨e,_⟩ hI=>⟨e,hI.pres⟩⟩
def scanF:List UInt8->Nat->Option Nat
 |[],k=>some k
 |b::s,k=>if digF (b.toNat:Int) then scanF s (k+1) else if letF (b.toNat:Int)||(b.toNat:Int)==95 then scanF s k else none
def nameF(s:List UInt8):Bool:=
 match s with
 |[]=>false
 |b::t=>if (b::t).length>16 then false else if letF (b.toNat:Int) then
   match scanF (b::t) 0 with
   |none=>false
   |some k=> !((b::t).map upB==[84,82,85,69])&& !((b::t).map upB==[70,65,76,83,69])&&((k:Int)==0||decide ((k:Int)<lwrap .i64 ((((b::t).length:Nat):Int)-1)))
  else false
theorem byteAt_app(A:List UInt8)(b:UInt8)(C:List UInt8):byteAt (A++b::C) (A.length:Int)=(b.toNat:Int):=by
 unfold byteAt;simp
theorem loop90(s:List UInt8)(hs:s.length<=16)(H0:LHeap)(r:Bool):∀(C A:List UInt8) (k:Nat) (d:Nat->LV) (H:LHeap),A++C=s->k<=A.length->
  (match scanF C k with
    |none=>false
    |some k=> !(s.map upB==[84,82,85,69])&& !(s.map upB==[70,65,76,83,69])&&((k:Int)==0||decide ((k:Int)<lwrap .i64 (((s.length:Nat):Int)-1))))=r->
  GoesT cfg 90 (Ret (.bool r) H0) [] H0 [] (L90t_0 d (A.length:Int) (k:Int) s ((s.length:Nat):Int)) (loopAt cfg 90 0) H
 |[],A,k,d,H,hA,hk,hr=>by
  intro hin hI;have hl:A.length=s.length:=by rw [<-hA];simp
  unfold scanF at hr;simp only at hr;refine g90t_0 _ H0 d A.length k s s.length H ⟨fun h=> ?_,fun _ hI=>⟨_,s175 s H (by omega),Ret.use ⟨_,rfl⟩,fun s17 H18 ⟨e,_⟩=> ?_⟩⟩ hin hI
  ·simp at h;omega
  ·cases e;refine ⟨fun h1=>⟨fun h2=>⟨fun h3 hI=>⟨?_,hI.pres⟩,fun h3 hI=>⟨?_,hI.pres⟩⟩,fun h2 hI=>⟨?_,hI.pres⟩⟩,fun h1 hI=>⟨?_,hI.pres⟩⟩
   ·rw [<-hr,h1,h2,h3];rfl
   ·rw [<-hr,h1,h2,h3];rfl
   ·rw [<-hr,h1,h2];rfl
   ·rw [<-hr,h1];rfl
 |b::C,A,k,d,H,hA,hk,hr=>by
  intro hin hI;have hl:A.length+(C.length+1)=s.length:=by rw [<-hA];simp
  have hAC:(A++[b])++C=s:=by rw [<-hA];simp
  have hb:byteAt s (A.length:Int)=(b.toNat:Int):=by rw [<-hA];exact byteAt_app A b C
  have hi:lwrap .i64 ((A.length:Int)+1)=(((A++[b]).length:Nat):Int):=by rw [lwrap_small (by omega) (by omega)];simp
  have hk1:lwrap .i64 ((k:Int)+1)=((k+1:Nat):Int):=by rw [lwrap_small (by omega) (by omega)];simp
  have rg:(0:Int)<=(A.length:Int)/\(A.length:Int)<((s.length:Nat):Int):=by omega
  unfold scanF at hr;have c173:∀H',CallL cfg 173 [.int .u8 (byteAt s (A.length:Int))] H' (Ret (.bool (letF (b.toNat:Int))) H'):=fun H'=>by rw [hb];exact s173 _ H'
  have c174:∀H',CallL cfg 174 [.int .u8 (byteAt s (A.length:Int))] H' (Ret (.bool (digF (b.toNat:Int))) H'):=fun H'=>by rw [hb];exact s174 _ H'
  refine g90t_0 _ H0 d A.length k s s.length H ⟨fun h=>⟨rg,fun hI=>⟨_,c174 H,Ret.use ⟨_,rfl⟩,fun b6 H7 ⟨e6,_⟩=>⟨fun h6 d8=> ?_,fun h6=>⟨rg,fun hI=>⟨_,c173 H7,Ret.use ⟨_,rfl⟩,fun b11 H12 ⟨e11,_⟩=>⟨fun h11=>⟨rg,fun h95 hI=>⟨?_,hI.pres⟩,fun h95 d14=> ?_⟩,fun h11 d15=> ?_⟩⟩⟩⟩⟩⟩,fun h=> ?ge⟩ hin hI
  case ge=>simp at h;omega
  ·cases e6;rw [h6,if_pos rfl] at hr;rw [hi,hk1];exact loop90 s hs H0 r C (A++[b]) (k+1) d8 H7 hAC (by simp;omega) hr
  ·cases e6;cases e11;rw [hb] at h95;simp at h11 h95;rw [h6,h11,Bool.false_or] at hr;simp only [Bool.false_eq_true,if_false] at hr;rw [if_neg (by simpa using h95)] at hr;rw [<-hr]
  ·cases e6;cases e11;rw [hb] at h95;simp at h11 h95;rw [h6,h11,Bool.false_or] at hr;simp only [Bool.false_eq_true,if_false] at hr;rw [if_pos (by simpa using h95)] at hr;rw [hi];exact loop90 s hs H0 r C (A++[b]) k d14 H12 hAC (by simp;omega) hr
  ·cases e6;cases e11;simp at h11;rw [h6,h11,Bool.true_or] at hr;simp only [Bool.false_eq_true,if_false,if_true] at hr;rw [hi];exact loop90 s hs H0 r C (A++[b]) k d15 H12 hAC (by simp;omega) hr
theorem s90(s:List UInt8)(H:LHeap):CallL cfg 90 [.str s] H (Ret (.bool (nameF s)) H):=by
 refine e90t _ s H ⟨fun h0 hI=>⟨?_,hI.pres⟩,fun h0=>⟨fun h16 hI=>⟨?_,hI.pres⟩,fun h16=>⟨?_,fun hI=> ?_⟩⟩⟩
 ·have:s=[]:=by simpa using h0
  rw [this];rfl
 ·cases s with
  |nil=>cases h0
  |cons b t=>
   unfold nameF;simp only;rw [if_pos (by simp at h16 |-;omega)]
 ·cases s with
  |nil=>cases h0
  |cons b t=>simp
 ·cases s with
  |nil=>cases h0
  |cons b t=>
   have hs16:(b::t).length<=16:=by simp at h16 |-;omega
   have hb:byteAt (b::t) 0=(b.toNat:Int):=byteAt_app [] b t;rw [hb];refine ⟨_,s173 _ H,Ret.use ⟨_,rfl⟩,fun b3 H4 ⟨e,_⟩=>⟨fun h3 hI=>⟨?_,hI.pres⟩,fun h3 d5=> ?_⟩⟩
   ·cases e;have h3':letF (b.toNat:Int)=false:=by simpa using h3
    unfold nameF;simp only;rw [if_neg (by omega),h3'];rfl
   ·cases e;have h3':letF (b.toNat:Int)=true:=by simpa using h3
    refine loop90 (b::t) hs16 H (nameF (b::t)) (b::t) [] 0 d5 H4 rfl (Nat.le_refl _) ?_;unfold nameF;simp only;rw [if_neg (by omega),h3',if_pos rfl]
def inF(n m:Int):Bool:=decide (1<=n/\n<=64/\1<=m/\m<=26)
theorem s281(n m:Int)(H:LHeap):CallL cfg 281 [.int .i64 n,.int .i64 m] H (Ret (.bool (inF n m)) H):=by
 have out:∀{H':LHeap},¬(1<=n/\n<=64/\1<=m/\m<=26)->PresX [] H H'->Ret (.bool (inF n m)) H (.bool false) H':=fun h p=>⟨by unfold inF;rw [decide_eq_false h],p⟩;refine e281t _ n m H ⟨fun h1=>⟨fun h2=>⟨fun h3 hI=>⟨?_,hI.pres⟩,fun h hI=>out (by simp at h;omega) hI.pres⟩,fun h hI=>out (by simp at h;omega) hI.pres⟩,fun h hI=>out (by simp at h;omega) hI.pres⟩;simp only [decide_eq_true_eq,ge_iff_le] at h1 h2 h3;congr 1;unfold inF;exact decide_eq_decide.2 (by omega)
def numF(n:Int):Bool:=decide (n>=(-100000000000))&&decide (n<=100000000000)
theorem s294(n:Int)(H:LHeap):CallL cfg 294 [.int .i64 n] H (Ret (.bool (numF n)) H):=by
 refine e294t _ n H ⟨fun h hI=>⟨?_,hI.pres⟩,fun h hI=>⟨?_,hI.pres⟩⟩
 all_goals simp only [numF,h,Bool.true_and,Bool.false_and]
theorem decL_ascii(b:UInt8)(l:List UInt8)(h:b.toNat<128):decodeL (b::l)=(b.toNat,1):=
 decode_ascii ⟨(b::l).toArray⟩ 0 (by simp [ByteArray.size]) h
theorem decL_high(b:UInt8)(l:List UInt8)(h:128<=b.toNat):128<=(decodeL (b::l)).1:=
 (decode_high ⟨(b::l).toArray⟩ 0 (by simp [ByteArray.size]) h).1
def IterAt(H:LHeap)(p:Option LAddr)(s:List UInt8)(n:Nat):Prop:=∃r,p=some ⟨r,0,0⟩/\r<H.next/\H.get r=some (.stringIter s n)
theorem IterAt.on{H H':LHeap}{p:Option LAddr}{s:List UInt8}{n:Nat}(h:IterAt H p s n)(k:PresX [] H H'):IterAt H' p s n:=by
 obtain ⟨r,e,hl,hg⟩:=h;exact ⟨r,e,Nat.lt_of_lt_of_le hl k.next,by rw [(k.keep r hl (by simp)).get];exact hg⟩
theorem range_new(s:List UInt8)(H:LHeap):rangeL cfg.P H 9 (.str s)=some (.ptr (some ⟨H.next,0,0⟩),H.push (.stringIter s 0))/\IterAt (H.push (.stringIter s 0)) (some ⟨H.next,0,0⟩) s 0:=by
 refine ⟨?_,H.next,rfl,Nat.lt_succ_self _,by rw [LHeap.get_push,if_pos rfl]⟩;unfold rangeL;rw [show cfg.P.underlying 9=some .string by kernel_rfl]
theorem next_some{H:LHeap}{p:Option LAddr}{s:List UInt8}{n:Nat}(h:IterAt H p s n){b:UInt8}{l:List UInt8}(hd:s.drop n=b::l):
  ∃r H',p=some ⟨r,0,0⟩/\nextL H (.ptr p) true=some [(.tuple [.bool true,.int .i64 (n:Int),.int .i32 (((decodeL (b::l)).1:Nat):Int)],H')]/\PresX [r] H H'/\IterAt H' p s (n+(decodeL (b::l)).2):=by
 obtain ⟨r,rfl,hl,hg⟩:=h;refine ⟨r,H.put r (.stringIter s (n+(decodeL (b::l)).2)),rfl,?_,.put _ _ _,r,rfl,hl,by rw [LHeap.get_put,if_pos rfl]⟩;unfold nextL;simp only [hg];rw [dropN_eq,hd]
theorem next_none{H:LHeap}{p:Option LAddr}{s:List UInt8}{n:Nat}(h:IterAt H p s n)(hd:s.drop n=[]):nextL H (.ptr p) true=some [(.tuple [.bool false],H)]:=by
 obtain ⟨r,rfl,hl,hg⟩:=h;unfold nextL;simp only [hg];rw [dropN_eq,hd]
theorem s146(n:Int)(H:LHeap):CallL cfg 146 [.int .i32 n] H (Ret (.bool (digF n)) H):=by
 refine e146t _ n H ⟨fun h1 hI=>⟨?_,hI.pres⟩,fun h1 hI=>⟨?_,hI.pres⟩⟩
 all_goals
  simp only [ge_iff_le] at*;simp [digF, *]
theorem s150(n:Int)(H:LHeap):CallL cfg 150 [.int .i32 n] H (Ret (.bool (letF n)) H):=by
 refine e150t _ n H ⟨fun h1=>⟨fun h2 hI=>⟨?_,hI.pres⟩,fun h2=>⟨fun h3 hI=>⟨?_,hI.pres⟩,fun h3 hI=>⟨?_,hI.pres⟩⟩⟩,fun h1=>⟨fun h3 hI=>⟨?_,hI.pres⟩,fun h3 hI=>⟨?_,hI.pres⟩⟩⟩
 all_goals
  simp only [ge_iff_le] at*;simp [letF, *]
def numB(n:Int):Bool:=digF n||n==46
def wordB(n:Int):Bool:=letF n||(digF n||(n==95||n==36))
theorem s229(n:Int)(H:LHeap):CallL cfg 229 [.int .i32 n] H (Ret (.bool (numB n)) H):=by
 refine e229t _ n H fun hI=>⟨_,s146 n H,Ret.use ⟨_,rfl⟩,fun b H3 ⟨e,_⟩=>⟨fun h hI=>⟨?_,hI.pres⟩,fun h hI=>⟨?_,hI.pres⟩⟩⟩
 all_goals cases e;simp only [numB,h,Bool.true_or,Bool.false_or]
theorem s279(n:Int)(H:LHeap):CallL cfg 279 [.int .i32 n] H (Ret (.bool (wordB n)) H):=by
 refine e279t _ n H fun hI=>⟨_,s150 n H,Ret.use ⟨_,rfl⟩,fun b H3 ⟨e,_⟩=>⟨fun h hI=>⟨?_,hI.pres⟩,fun h hI=>⟨_,s146 n H3,Ret.use ⟨_,rfl⟩,fun b5 H6 ⟨e2,_⟩=>⟨fun h2 hI=>⟨?_,hI.pres⟩,fun h2=>⟨fun h3 hI=>⟨?_,hI.pres⟩,fun h3 hI=>⟨?_,hI.pres⟩⟩⟩⟩⟩⟩
 ·cases e;simp only [wordB,h,Bool.true_or]
 ·cases e;cases e2;simp only [wordB,h,h2,Bool.true_or,Bool.false_or]
 ·cases e;cases e2;simp only [wordB,h,h2,h3,Bool.true_or,Bool.false_or]
 ·cases e;cases e2;simp only [wordB,h,h2,h3,Bool.false_or]
def spanF(so:Int->Bool):List UInt8->Nat
 |[]=>0
 |b::s=>if so (b.toNat:Int) then spanF so s+1 else 0
theorem spanF_le(so:Int->Bool):∀s,spanF so s<=s.length
 |[]=>Nat.le_refl _
 |b::s=>by unfold spanF;have:=spanF_le so s;split<;>simp<;>omega
theorem numB_high{n:Int}(h:128<=n):numB n=false:=by
 unfold numB digF;rw [decide_eq_false (by omega:¬n<=57)];simp;omega
theorem wordB_high{n:Int}(h:128<=n):wordB n=false:=by
 unfold wordB digF letF;rw [decide_eq_false (by omega:¬n<=57),decide_eq_false (by omega:¬n<=122),decide_eq_false (by omega:¬n<=90)];simp;omega
theorem loop228a(s:List UInt8)(H0:LHeap)(r:Nat):∀(C A:List UInt8) (p:Option LAddr) (d:Nat->LV) (H:LHeap),A++C=s->A.length+spanF numB C=r->IterAt H p s A.length->(∀q,p=some q->H0.next<=q.id)->
  GoesT cfg 228 (Ret (.int .i64 (r:Int)) H0) [] H0 [] (L228a_0 d s p) (loopAt cfg 228 0) H
 |[],A,p,d,H,hA,hr,hit,hp=>by
  intro hin hI;have hl:s.drop A.length=[]:=by rw [<-hA];simp
  have hrl:r=s.length:=by rw [<-hr,<-hA];simp [spanF]
  refine g228a_0 _ H0 d s p H (.inr fun hI=>⟨(),[],H,⟨?_,.refl _ _,fun i hi=>by cases hi⟩,fun hI=>⟨by rw [hrl],hI.pres⟩⟩) hin hI;show (match nextL H (.ptr p) true with |some l=>some (l.map fun ((x,H'):LV×LHeap)=>(LNext.value x,H')) |none=>none)=_;rw [next_none hit hl];rfl
 |b::C,A,p,d,H,hA,hr,hit,hp=>by
  intro hin hI;have hd:s.drop A.length=b::C:=by rw [<-hA];simp
  obtain ⟨q,H',rfl,hn,pq,hit'⟩:=next_some hit hd;have hq:H0.next<=q:=hp _ rfl;refine g228a_0 _ H0 d s _ H (.inl fun hI=>⟨((A.length:Int),(((decodeL (b::C)).1:Nat):Int)),[q],H',⟨?_,pq,fun i hi=>by rw [List.mem_singleton.1 hi];exact ⟨.inr hq,fun k s hs=>by simp [nth] at hs⟩⟩,fun hI=>⟨_,s229 _ H',Ret.use ⟨_,rfl⟩,fun b5 H6 ⟨e5,p6⟩=>⟨fun h hI=>⟨?_,hI.pres⟩,fun h d7=> ?_⟩⟩⟩) hin hI
  ·show (match nextL H (.ptr (some ⟨q,0,0⟩)) true with |some l=>some (l.map fun ((x,H'):LV×LHeap)=>(LNext.value x,H')) |none=>none)=_;rw [hn];rfl
  ·cases e5;have hso:numB (b.toNat:Int)=false:=by
    by_cases hb:b.toNat<128
    ·rw [decL_ascii b C hb] at h;simpa using h
    ·exact numB_high (by omega)
   unfold spanF at hr;rw [hso] at hr;simp at hr;rw [<-hr]
  ·cases e5;have hb:b.toNat<128:=by
    apply Classical.byContradiction;intro hb;have:=decL_high b C (by omega);rw [numB_high (by omega)] at h;cases h
   rw [decL_ascii b C hb] at h hit';have hso:numB (b.toNat:Int)=true:=by simpa using h
   unfold spanF at hr;rw [hso,if_pos rfl] at hr;exact loop228a s H0 r C (A++[b]) _ d7 H6 (by rw [<-hA];simp) (by simp;omega) (by simpa using hit'.on p6) hp
theorem loop228b(s:List UInt8)(H0:LHeap)(r:Nat):∀(C A:List UInt8) (p:Option LAddr) (d:Nat->LV) (H:LHeap),A++C=s->A.length+spanF wordB C=r->IterAt H p s A.length->(∀q,p=some q->H0.next<=q.id)->
  GoesT cfg 228 (Ret (.int .i64 (r:Int)) H0) [] H0 [] (L228b_0 d s p) (loopAt cfg 228 0) H
 |[],A,p,d,H,hA,hr,hit,hp=>by
  intro hin hI;have hl:s.drop A.length=[]:=by rw [<-hA];simp
  have hrl:r=s.length:=by rw [<-hr,<-hA];simp [spanF]
  refine g228b_0 _ H0 d s p H (.inr fun hI=>⟨(),[],H,⟨?_,.refl _ _,fun i hi=>by cases hi⟩,fun hI=>⟨by rw [hrl],hI.pres⟩⟩) hin hI;show (match nextL H (.ptr p) true with |some l=>some (l.map fun ((x,H'):LV×LHeap)=>(LNext.value x,H')) |none=>none)=_;rw [next_none hit hl];rfl
 |b::C,A,p,d,H,hA,hr,hit,hp=>by
  intro hin hI;have hd:s.drop A.length=b::C:=by rw [<-hA];simp
  obtain ⟨q,H',rfl,hn,pq,hit'⟩:=next_some hit hd;have hq:H0.next<=q:=hp _ rfl;refine g228b_0 _ H0 d s _ H (.inl fun hI=>⟨((A.length:Int),(((decodeL (b::C)).1:Nat):Int)),[q],H',⟨?_,pq,fun i hi=>by rw [List.mem_singleton.1 hi];exact ⟨.inr hq,fun k s hs=>by simp [nth] at hs⟩⟩,fun hI=>⟨_,s279 _ H',Ret.use ⟨_,rfl⟩,fun b5 H6 ⟨e5,p6⟩=>⟨fun h hI=>⟨?_,hI.pres⟩,fun h d7=> ?_⟩⟩⟩) hin hI
  ·show (match nextL H (.ptr (some ⟨q,0,0⟩)) true with |some l=>some (l.map fun ((x,H'):LV×LHeap)=>(LNext.value x,H')) |none=>none)=_;rw [hn];rfl
  ·cases e5;have hso:wordB (b.toNat:Int)=false:=by
    by_cases hb:b.toNat<128
    ·rw [decL_ascii b C hb] at h;simpa using h
    ·exact wordB_high (by omega)
   unfold spanF at hr;rw [hso] at hr;simp at hr;rw [<-hr]
  ·cases e5;have hb:b.toNat<128:=by
    apply Classical.byContradiction;intro hb;have:=decL_high b C (by omega);rw [wordB_high (by omega)] at h;cases h
   rw [decL_ascii b C hb] at h hit';have hso:wordB (b.toNat:Int)=true:=by simpa using h
   unfold spanF at hr;rw [hso,if_pos rfl] at hr;exact loop228b s H0 r C (A++[b]) _ d7 H6 (by rw [<-hA];simp) (by simp;omega) (by simpa using hit'.on p6) hp
theorem s228a(s:List UInt8)(H:LHeap):CallL cfg 228 [.str s,.func (.func 229) [] []] H (Ret (.int .i64 ((spanF numB s:Nat):Int)) H):=by
 obtain ⟨h1,h2⟩:=range_new s H;refine e228a _ s H fun hI=>⟨some ⟨H.next,0,0⟩,[],H.push (.stringIter s 0),⟨?_,.push _ _ _,fun i hi=>by cases hi⟩,fun d=>loop228a s H _ s [] _ d _ rfl (by simp) h2 (fun q e=>by cases e;exact Nat.le_refl _)⟩;show (match rangeL cfg.P H 9 (.str s) with |some (x,H')=>some [(LNext.value x,H')] |none=>none)=_;rw [h1]
theorem s228b(s:List UInt8)(H:LHeap):CallL cfg 228 [.str s,.func (.func 279) [] []] H (Ret (.int .i64 ((spanF wordB s:Nat):Int)) H):=by
 obtain ⟨h1,h2⟩:=range_new s H;refine e228b _ s H fun hI=>⟨some ⟨H.next,0,0⟩,[],H.push (.stringIter s 0),⟨?_,.push _ _ _,fun i hi=>by cases hi⟩,fun d=>loop228b s H _ s [] _ d _ rfl (by simp) h2 (fun q e=>by cases e;exact Nat.le_refl _)⟩;show (match rangeL cfg.P H 9 (.str s) with |some (x,H')=>some [(LNext.value x,H')] |none=>none)=_;rw [h1]
theorem s234(s:List UInt8)(H:LHeap):CallL cfg 234 [.str s] H (Ret (.int .i64 ((spanF wordB s:Nat):Int)) H):=by
 refine e234t _ s H fun hI=>⟨_,s228b s H,Ret.use ⟨_,rfl⟩,fun n H3 ⟨e,_⟩ hI=>⟨e,hI.pres⟩⟩
theorem sub_all(s:List UInt8):subStr s 0 ((s.length:Nat):Int)=s:=by unfold subStr;simp
theorem sub_take(s:List UInt8)(n:Nat):subStr s 0 (n:Int)=s.take n:=by unfold subStr;simp
theorem sub_drop(s:List UInt8)(n:Nat):subStr s (n:Int) ((s.length:Nat):Int)=s.drop n:=by
 unfold subStr;simp only [Int.toNat_natCast];rw [List.take_of_length_le (by rw [List.length_drop];omega)]
theorem sub_drop1(s:List UInt8):subStr s 1 ((s.length:Nat):Int)=s.drop 1:=sub_drop s 1
theorem s270(s p:List UInt8)(H:LHeap):CallL cfg 270 [.str s,.str p] H (Ret (.bool (s.take p.length==p)) H):=by
 refine e270t _ s p H ⟨fun h=>⟨⟨by omega,by omega,by simp at h;omega⟩,fun hI=>⟨by rw [sub_take],hI.pres⟩⟩,fun h hI=>⟨?_,hI.pres⟩⟩;simp at h;congr 1
 symm
 rw [beq_eq_false_iff_ne];intro e;have:=congrArg List.length e;rw [List.length_take] at this;omega
theorem s232(s p:List UInt8)(H:LHeap):CallL cfg 232 [.str s,.str p] H (Ret (.bool (s.take p.length==p)) H):=
 e232t _ s p H fun hI=>⟨_,s270 s p H,Ret.use ⟨_,rfl⟩,fun b H3 ⟨e,_⟩ hI=>⟨e,hI.pres⟩⟩
def cutP(s p:List UInt8):List UInt8×Bool:=if s.take p.length==p then (s.drop p.length,true) else (s,false)
theorem s212(s p:List UInt8)(H:LHeap):CallL cfg 212 [.str s,.str p] H (Ret (.tuple [.str (cutP s p).1,.bool (cutP s p).2]) H):=by
 refine e212t _ s p H fun hI=>⟨_,s270 s p H,Ret.use ⟨_,rfl⟩,fun b H3 ⟨e,_⟩=>⟨fun h hI=>⟨?_,hI.pres⟩,fun h=>⟨?_,fun hI=>⟨?_,hI.pres⟩⟩⟩⟩
 ·cases e;have:(s.take p.length==p)=false:=by simpa using h
  unfold cutP;rw [this];rfl
 ·cases e;have:s.take p.length=p:=by simpa using h
  have:=congrArg List.length this;rw [List.length_take] at this;omega
 ·cases e;have:(s.take p.length==p)=true:=by simpa using h
  unfold cutP;rw [this,sub_drop];rfl
theorem s130(s p:List UInt8)(H:LHeap):CallL cfg 130 [.str s,.str p] H (Ret (.tuple [.str (cutP s p).1,.bool (cutP s p).2]) H):=
 e130t _ s p H fun hI=>⟨_,s212 s p H,Ret.use ⟨_,_,rfl⟩,fun s2 b H3 ⟨e,_⟩ hI=>⟨e,hI.pres⟩⟩
def cutF(c:UInt8):List UInt8->Option (List UInt8×List UInt8)
 |[]=>none
 |b::s=>if b==c then some ([],s) else match cutF c s with
  |some (x,y)=>some (b::x,y)
  |none=>none
theorem cutF_eq{c:UInt8}:∀{s x y:List UInt8},cutF c s=some (x,y)->s=x++c::y
 |[],x,y,h=>by cases h
 |b::s,x,y,h=>by
  unfold cutF at h;split at h
  ·rename_i hb;cases h;rw [eq_of_beq hb];rfl
  ·split at h
   ·rename_i x' y' h';cases h;rw [cutF_eq h'];rfl
   ·cases h
theorem find_cut(c:UInt8):∀(s:List UInt8) (i:Nat),findByte c s i=(match cutF c s with |some (x,_)=>((i+x.length:Nat):Int) |none=> -1)
 |[],i=>rfl
 |b::s,i=>by
  unfold findByte cutF;split
  ·simp
  ·rw [find_cut c s (i+1)];cases cutF c s with
   |none=>rfl
   |some p=>simp;omega
theorem s316(s:List UInt8)(c:UInt8)(H:LHeap):CallL cfg 316 [.str s,.int .u8 ((c.toNat:Nat):Int)] H (Ret (.int .i64 (findByte c s 0)) H):=by
 refine e316t _ s _ H fun hI=>⟨?_,hI.pres⟩;congr 2;simp
theorem s309(s:List UInt8)(c:UInt8)(H:LHeap):CallL cfg 309 [.str s,.str [c]] H (Ret (.int .i64 (findByte c s 0)) H):=by
 refine e309t _ s c H ⟨fun h hI=>⟨?_,hI.pres⟩,fun h hI=>⟨_,s316 s c H,Ret.use ⟨_,rfl⟩,fun n H2 ⟨e,_⟩ hI=>⟨e,hI.pres⟩⟩⟩;have:s=[c]:=(eq_of_beq h).symm;rw [this];simp [findByte]
theorem s282(s:List UInt8)(c:UInt8)(H:LHeap):CallL cfg 282 [.str s,.str [c]] H (Ret (.int .i64 (findByte c s 0)) H):=
 e282t _ s c H fun hI=>⟨_,s309 s c H,Ret.use ⟨_,rfl⟩,fun n H2 ⟨e,_⟩ hI=>⟨e,hI.pres⟩⟩
theorem s237(s:List UInt8)(c:UInt8)(H:LHeap):CallL cfg 237 [.str s,.str [c]] H (Ret (.bool (cutF c s).isSome) H):=by
 refine e237t _ s c H fun hI=>⟨_,s282 s c H,Ret.use ⟨_,rfl⟩,fun n H2 ⟨e,_⟩ hI=>⟨?_,hI.pres⟩⟩;cases e;rw [find_cut];congr 1;cases cutF c s with
 |none=>rfl
 |some p=>simp
def cutL(s:List UInt8)(c:UInt8):LV:=match cutF c s with
 |some (x,y)=>.tuple [.str x,.str y,.bool true]
 |none=>.tuple [.str s,.str [],.bool false]
theorem cutL_sh(s:List UInt8)(c:UInt8):hasSh (.tuple [.str,.str,.bool]) (cutL s c):=by
 unfold cutL;split<;>exact ⟨_,_,_,rfl⟩
theorem s278(s:List UInt8)(c:UInt8)(H:LHeap)(hs:s.length<=1000):CallL cfg 278 [.str s,.str [c]] H (Ret (cutL s c) H):=by
 refine e278t _ s c H fun hI=>⟨_,s309 s c H,Ret.use ⟨_,rfl⟩,fun n H2 ⟨e,_⟩=> ?_⟩;rw [find_cut] at e;unfold cutL;cases h:cutF c s with
 |none=>
  rw [h] at e;cases e;exact ⟨fun h=>(by simp at h),fun _ hI=>⟨rfl,hI.pres⟩⟩
 |some p=>
  obtain ⟨x,y⟩:=p;rw [h] at e;simp only [Nat.zero_add] at e;cases e;have hse:=cutF_eq h;have hl:s.length=x.length+(y.length+1):=by rw [hse];simp
  have hw:lwrap .i64 (((x.length:Nat):Int)+1)=((x.length+1:Nat):Int):=by rw [lwrap_small (by omega) (by omega)];simp
  refine ⟨fun _=>⟨⟨by omega,by omega,by omega⟩,⟨by rw [hw];omega,by rw [hw];omega,by omega⟩,rfl,fun hI=>⟨?_,hI.pres⟩⟩,fun h=> ?_⟩
  ·rw [hw,sub_take,sub_drop,hse];simp
  ·simp at h
theorem s231(s:List UInt8)(c:UInt8)(H:LHeap)(hs:s.length<=1000):CallL cfg 231 [.str s,.str [c]] H (Ret (cutL s c) H):=
 e231t _ s c H fun hI=>⟨_,s278 s c H hs,Ret.use (cutL_sh s c),fun x y b H3 ⟨e,_⟩ hI=>⟨e,hI.pres⟩⟩
def digs(s:List UInt8):Bool:=s.all fun b=>digF (b.toNat:Int)
def decF(s:List UInt8)(n:Nat):Nat:=s.foldl (fun n b=>10*n+(b.toNat-48)) n
theorem decF_lt:∀(s:List UInt8) (n:Nat),digs s=true->decF s n<(n+1)*10 ^ s.length
 |[],n,_=>by simp [decF]
 |b::s,n,h=>by
  have hb:digF (b.toNat:Int)=true/\digs s=true:=by simpa [digs] using h
  have h1:=decF_lt s (10*n+(b.toNat-48)) hb.2;have hr:b.toNat<=57:=by have:=hb.1;simp [digF] at this;omega
  show decF s (10*n+(b.toNat-48))<_;rw [List.length_cons,Nat.pow_succ];refine Nat.lt_of_lt_of_le h1 ?_
  calc (10*n+(b.toNat-48)+1)*10 ^ s.length<=((n+1)*10)*10 ^ s.length:=Nat.mul_le_mul_right _ (by omega)
   _=(n+1)*(10 ^ s.length*10):=by rw [Nat.mul_assoc,Nat.mul_comm 10]
def CountR(s:List UInt8)(least most:Int)(H:LHeap):LV->LHeap->Prop:=fun v H'=>PresX [] H H'/\∃(n:Int) (b:Bool),v=.tuple [.int .i64 n,.bool b]/\b=(digs s&&(decide (least<=(s.length:Int))&&decide ((s.length:Int)<=most)))/\(digs s=true->s.length<=12->n=(decF s 0:Int))/\0<=n/\n<=1125899906842624
theorem digs_app(A C:List UInt8):digs (A++C)=(digs A&&digs C):=by unfold digs;rw [List.all_append]
theorem decF_app(A C:List UInt8)(n:Nat):decF (A++C) n=decF C (decF A n):=by unfold decF;rw [List.foldl_append]
theorem decF_12{A:List UInt8}(h:digs A=true)(hl:A.length<=12):decF A 0<1000000000000:=by
 have:=decF_lt A 0 h;have h2:10 ^ A.length<=10 ^ 12:=Nat.pow_le_pow_right (by omega) hl;omega
theorem loop276(s:List UInt8)(hs:s.length<=1000)(least most:Int)(H0:LHeap):∀(C A:List UInt8) (p:Option LAddr) (n:Int) (d:Nat->LV) (H:LHeap),A++C=s->digs A=true->0<=n->n<=1125899906842624->(A.length<=12->n=(decF A 0:Int))->IterAt H p s A.length->(∀q,p=some q->H0.next<=q.id)->
  GoesT cfg 276 (CountR s least most H0) [] H0 [] (L276t_0 d n s least most p) (loopAt cfg 276 0) H
 |[],A,p,n,d,H,hA,hdig,h0,h1,hn,hit,hp=>by
  intro hin hI;rw [List.append_nil] at hA;subst hA;have hl:A.drop A.length=[]:=by simp
  refine g276t_0 _ H0 d n A least most p H (.inr fun hI=>⟨(),[],H,⟨?_,.refl _ _,fun i hi=>by cases hi⟩,fun h hI=>⟨hI.pres,n,_,rfl,?_,fun _ h12=>hn h12,h0,h1⟩,fun h hI=>⟨hI.pres,n,_,rfl,?_,fun _ h12=>hn h12,h0,h1⟩⟩) hin hI
  ·show (match nextL H (.ptr p) true with |some l=>some (l.map fun ((x,H'):LV×LHeap)=>(LNext.value x,H')) |none=>none)=_;rw [next_none hit hl];rfl
  ·rw [hdig];have:decide (least<=(A.length:Int))=true:=by simpa using h
   rw [this];rfl
  ·rw [hdig];have:decide (least<=(A.length:Int))=false:=by simpa using h
   rw [this];rfl
 |b::C,A,p,n,d,H,hA,hdig,h0,h1,hn,hit,hp=>by
  intro hin hI;have hd:s.drop A.length=b::C:=by rw [<-hA];simp
  obtain ⟨q,H',rfl,hnx,pq,hit'⟩:=next_some hit hd;have hq:H0.next<=q:=hp _ rfl;have bad:∀{H1:LHeap},digF (b.toNat:Int)=false->PresX [] H0 H1->CountR s least most H0 (.tuple [.int .i64 0,.bool false]) H1:=by
   intro H1 hb p1;have:digs s=false:=by rw [<-hA,digs_app];simp [digs,hb]
   exact ⟨p1,0,false,rfl,by rw [this];rfl,(fun h=>by rw [this] at h;cases h),by omega,by omega⟩
  have hi8:=u8_lt256 b;refine g276t_0 _ H0 d n s least most _ H (.inl fun hI=>⟨((A.length:Int),(((decodeL (b::C)).1:Nat):Int)),[q],H',⟨?_,pq,fun i hi=>by rw [List.mem_singleton.1 hi];exact ⟨.inr hq,fun k s hs=>by simp [nth] at hs⟩⟩,fun hlow hI=>bad ?_ hI.pres,fun hlow=>⟨fun hhigh hI=>bad ?_ hI.pres,fun hhigh=> ?_⟩⟩) hin hI
  ·show (match nextL H (.ptr (some ⟨q,0,0⟩)) true with |some l=>some (l.map fun ((x,H'):LV×LHeap)=>(LNext.value x,H')) |none=>none)=_;rw [hnx];rfl
  ·simp at hlow;by_cases hb:b.toNat<128
   ·rw [decL_ascii b C hb] at hlow;simp [digF];simp at hlow;omega
   ·have:=decL_high b C (by omega);omega
  ·simp at hhigh;by_cases hb:b.toNat<128
   ·rw [decL_ascii b C hb] at hhigh;simp [digF];simp at hhigh;omega
   ·simp [digF];omega
  ·simp at hlow hhigh;have hb:b.toNat<128:=by
    apply Classical.byContradiction;intro hb;have:=decL_high b C (by omega);omega
   rw [decL_ascii b C hb] at hlow hhigh hit' |-;simp only at hlow hhigh hit' |-;have hdb:digF (b.toNat:Int)=true:=by simp [digF];omega
   have e1:lwrap .i32 ((b.toNat:Int)-48)=(b.toNat:Int)-48:=by
    have e0:((b.toNat:Int)-48)=Int.ofNat (b.toNat-48):=by simp;omega
    rw [e0];unfold lwrap;simp only [Nat.ble_eq];rw [if_pos (by omega)]
   have e2:lwrap .i64 ((10:Int)*n)=10*n:=lwrap_small (by omega) (by omega);have e3:lwrap .i64 ((b.toNat:Int)-48)=(b.toNat:Int)-48:=lwrap_small (by omega) (by omega);have e4:lwrap .i64 (10*n+((b.toNat:Int)-48))=10*n+((b.toNat:Int)-48):=lwrap_small (by omega) (by omega);rw [e1,e2,e3,e4];have hA':(A++[b])++C=s:=by rw [<-hA];simp
   have hdig':digs (A++[b])=true:=by rw [digs_app,hdig];simp [digs,hdb]
   have hdec:A.length+1<=12->10*n+((b.toNat:Int)-48)=(decF (A++[b]) 0:Int)/\decF (A++[b]) 0<1000000000000:=by
    intro h12;refine ⟨?_,decF_12 hdig' (by simpa using h12)⟩;rw [decF_app];show _=((10*decF A 0+(b.toNat-48):Nat):Int);have:=hn (by omega);omega
   have hit6:IterAt H' (some ⟨q,0,0⟩) s (A++[b]).length:=by simpa using hit'
   refine ⟨fun hc d7=> ?_,fun hc d8=> ?_⟩
   ·simp at hc;exact loop276 s hs least most H0 C (A++[b]) _ _ d7 H' hA' hdig' (by omega) (by omega) (fun h12=>by have:=hdec (by simpa using h12);omega) hit6 hp
   ·simp at hc;exact loop276 s hs least most H0 C (A++[b]) _ _ d8 H' hA' hdig' (by omega) (by omega) (fun h12=>(hdec (by simpa using h12)).1) hit6 hp
theorem s276(s:List UInt8)(hs:s.length<=1000)(least most:Int)(H:LHeap):CallL cfg 276 [.str s,.int .i64 least,.int .i64 most] H (CountR s least most H):=by
 obtain ⟨h1,h2⟩:=range_new s H;refine e276t _ s least most H fun hI=>⟨some ⟨H.next,0,0⟩,[],H.push (.stringIter s 0),⟨?_,.push _ _ _,fun i hi=>by cases hi⟩,fun d=>loop276 s hs least most H s [] _ 0 d _ rfl rfl (by omega) (by omega) (fun _=>rfl) h2 (fun q e=>by cases e;exact Nat.le_refl _)⟩;show (match rangeL cfg.P H 9 (.str s) with |some (x,H')=>some [(LNext.value x,H')] |none=>none)=_;rw [h1]
theorem CountR.sh{s:List UInt8}{l m:Int}{H:LHeap}:∀v H',CountR s l m H v H'->PresX [] H H'/\hasSh (.tuple [.int .i64,.bool]) v:=fun v H' ⟨h1,n,b,e,_⟩=>⟨h1,by rw [e];exact ⟨_,_,rfl⟩⟩
def toldL(n:Int):LV:=if numF n then .tuple [.int .i64 n,.bool true] else .tuple [.int .i64 0,.bool false]
theorem toldL_sh(n:Int):hasSh (.tuple [.int .i64,.bool]) (toldL n):=by unfold toldL;split<;>exact ⟨_,_,rfl⟩
theorem s277(n:Int)(H:LHeap):CallL cfg 277 [.int .i64 n] H (Ret (toldL n) H):=by
 refine e277t _ n H fun hI=>⟨_,s294 n H,Ret.use ⟨_,rfl⟩,fun b H3 ⟨e,_⟩=>⟨fun h hI=>⟨?_,hI.pres⟩,fun h hI=>⟨?_,hI.pres⟩⟩⟩
 ·cases e;have:numF n=false:=by simpa using h
  unfold toldL;rw [this];rfl
 ·cases e;have:numF n=true:=by simpa using h
  unfold toldL;rw [this];rfl
def partsF(s:List UInt8):List UInt8×List UInt8×Bool:=match cutF 46 s with
 |some (x,y)=>(x,y,true)
 |none=>(s,[],false)
def parseOk(s:List UInt8):Bool:=(digs (partsF s).1&&(decide (1<=((partsF s).1.length:Int))&&decide (((partsF s).1.length:Int)<=12)))&&(!(partsF s).2.2||(digs (partsF s).2.1&&(decide (1<=((partsF s).2.1.length:Int))&&decide (((partsF s).2.1.length:Int)<=4))))
def parseV(s:List UInt8):Int:=(decF (partsF s).1 0:Int)*10000+(decF (partsF s).2.1 0:Int)*10 ^ (4-(partsF s).2.1.length)
def parseL(s:List UInt8):LV:=if parseOk s then toldL (parseV s) else .tuple [.int .i64 0,.bool false]
theorem parseL_sh(s:List UInt8):hasSh (.tuple [.int .i64,.bool]) (parseL s):=by
 unfold parseL;split
 ·exact toldL_sh _
 ·exact ⟨_,_,rfl⟩
theorem loop230(H0:LHeap)(n:Int)(hn:0<=n/\n<1000000000000)(k:Nat)(hk:k<=4)(d':Int)(hd:0<=d')(hd2:d'*10 ^ k<10000)(r:LV)(hr:toldL (n*10000+d'*10 ^ k)=r):∀(m i:Nat),i+m=k->∀(d:Nat->LV) (H:LHeap),
  GoesT cfg 230 (Ret r H0) [] H0 [] (L230t_0 d (i:Int) (d'*10 ^ i) false n (k:Int)) (loopAt cfg 230 0) H
 |0,i,hi,d,H=>by
  intro hin hI;have:i=k:=by omega
  subst this;refine g230t_0 _ H0 d i (d'*10 ^ i) false n i H ⟨fun h=> ?_,fun _=>⟨fun h=>(by cases h),fun _ hI=> ?_⟩⟩ hin hI
  ·simp at h
  ·have h0:0<=d'*10 ^ i:=Int.mul_nonneg hd (Int.pow_nonneg (by omega));rw [lwrap_small (n:=n*10000) (by omega) (by omega),lwrap_small (n:=n*10000+d'*10 ^ i) (by omega) (by omega)];refine ⟨_,s277 _ H,Ret.use (toldL_sh _),fun n7 b8 H9 ⟨e,_⟩ hI=>⟨by rw [<-hr];exact e,hI.pres⟩⟩
 |m+1,i,hi,d,H=>by
  intro hin hI;have h0:0<=d'*10 ^ i:=Int.mul_nonneg hd (Int.pow_nonneg (by omega));have hle:d'*10 ^ i<=d'*10 ^ k:=Int.mul_le_mul_of_nonneg_left (by exact_mod_cast Nat.pow_le_pow_right (by omega) (by omega)) hd;refine g230t_0 _ H0 d i (d'*10 ^ i) false n k H ⟨fun _ d5=> ?_,fun h=> ?_⟩ hin hI
  ·rw [lwrap_small (n:=d'*10 ^ i*10) (by omega) (by omega),lwrap_small (n:=(i:Int)+1) (by omega) (by omega)];have:=loop230 H0 n hn k hk d' hd hd2 r hr m (i+1) (by omega) d5 H;rw [Int.pow_succ,<-Int.mul_assoc] at this;exact this
  ·simp at h;omega
def L144t_0(d:Nat->LV)(s0:List UInt8)(p1:Option LAddr):List SV:=[.lv (.str s0),.lv (.ptr p1)]++dl d 2 14
abbrev qT3_1:List LV:=[.bool false,.bool false,.bool false,.bool false,.bool false,.bool false,.bool false,.bool false,.bool false,.bool true,.bool false,.bool false,.bool false,.bool false,.bool false,.bool false,.bool false,.bool false,.bool false,.bool false,.bool false,.bool false,.bool false,.bool false,.bool false,.bool false,.bool false,.bool false,.bool false,.bool false,.bool false,.bool false,.bool true,.bool false,.bool false,.bool false,.bool false,.bool false,.bool false,.bool false,.bool false,.bool false,.bool false,.bool false,.bool false,.bool false,.bool false,.bool false,.bool false,.bool false,.bool false,.bool false,.bool false,.bool false,.bool false,.bool false,.bool false,.bool false,.bool false,.bool false,.bool false,.bool false,.bool false,.bool false,.bool false,.bool false,.bool false,.bool false,.bool false,.bool false,.bool false,.bool false,.bool false,.bool false,.bool false,.bool false,.bool false,.bool false,.bool false,.bool false,.bool false,.bool false,.bool false,.bool false,.bool false,.bool false,.bool false,.bool false,.bool false,.bool false,.bool false,.bool false,.bool false,.bool false,.bool false,.bool false,.bool false,.bool false,.bool false,.bool false,.bool false,.bool false,.bool false,.bool false,.bool false,.bool false,.bool false,.bool false,.bool false,.bool false,.bool false,.bool false,.bool false,.bool false,.bool false,.bool false,.bool false,.bool false,.bool false,.bool false,.bool false,.bool false,.bool false,.bool false,.bool false,.bool false,.bool false,.bool false,.bool false,.bool false,.bool false,.bool false,.bool false,.bool false,.bool false,.bool false,.bool false,.bool false,.bool false,.bool false,.bool false,.bool false,.bool false,.bool false,.bool false,.bool false,.bool false,.bool false,.bool false,.bool false,.bool false,.bool false,.bool false,.bool false,.bool false,.bool false,.bool false,.bool false,.bool false,.bool false,.bool false,.bool false,.bool false,.bool false,.bool false,.bool false,.bool false,.bool false,.bool false,.bool false,.bool false,.bool false,.bool false,.bool false,.bool false,.bool false,.bool false,.bool false,.bool false,.bool false,.bool false,.bool false,.bool false,.bool false,.bool false,.bool false,.bool false,.bool false,.bool false,.bool false,.bool false,.bool false,.bool false,.bool false,.bool false,.bool false,.bool false,.bool false,.bool false,.bool false,.bool false,.bool false,.bool false,.bool false,.bool false,.bool false,.bool false,.bool false,.bool false,.bool false,.bool false,.bool false,.bool false,.bool false,.bool false,.bool false,.bool false,.bool false,.bool false,.bool false,.bool false,.bool false,.bool false,.bool false,.bool false,.bool false,.bool false,.bool false,.bool false,.bool false,.bool false,.bool false,.bool false,.bool false,.bool false,.bool false,.bool false,.bool false,.bool false,.bool false,.bool false,.bool false,.bool false,.bool false,.bool false,.bool false,.bool false,.bool false,.bool false,.bool false,.bool false,.bool false,.bool false,.bool false,.bool false,.bool false]
abbrev qT3_11:List LV:=[I6 0,I6 0,.str [],.str [],.str [],I6 0,I6 0,.bool false,.bool false]
abbrev qT3_2(i1:Nat):List Slot:=[Sk i1 qT3_11 124]
abbrev qT3_3:List LV:=[I6 6,I6 1,.str [],.str [],.str [],I6 0,I6 0,.bool false,.bool false]
abbrev qT3_4:List LV:=[I6 6,I6 2,.str [],.str [],.str [],I6 0,I6 0,.bool false,.bool false]
abbrev qT3_5:List LV:=[I6 6,I6 3,.str [],.str [],.str [],I6 0,I6 0,.bool false,.bool false]
abbrev qT3_6:List LV:=[I6 6,I6 4,.str [],.str [],.str [],I6 0,I6 0,.bool false,.bool false]
abbrev qT3_7:List LV:=[I6 6,I6 5,.str [],.str [],.str [],I6 0,I6 0,.bool false,.bool false]
abbrev qT3_8:List LV:=[I6 6,I6 6,.str [],.str [],.str [],I6 0,I6 0,.bool false,.bool false]
abbrev qT3_9:List LV:=[I6 6,I6 7,.str [],.str [],.str [],I6 0,I6 0,.bool false,.bool false]
abbrev qT3_10:List LV:=[I6 6,I6 8,.str [],.str [],.str [],I6 0,I6 0,.bool false,.bool false]
theorem e194t(R:RR)(x0:ValC)(H:LHeap)
(h:NX H fun i1 H2=>Inv [] H [Sk i1 (ValC.cs x0) 67] H2->CL 260 [ValC.lv x0] H2 (.cust Int (fun (n:Int)=>(.iface 283 (I6 n):LV))) fun S3=>∀y4 H5,S3 (.iface 283 (I6 y4)) H5->Dc (y4>=1) (Dc (y4<=8) (Inv [] H [Sk i1 (ValC.cs x0) 67] H5->CL 261 [] H5 (.agg [.str,.str,.str,.str,.str,.str,.str,.str,.str]) fun S6=>∀s7 s8 s9 s10 s11 s12 s13 s14 s15 H16,S6 (.agg [.str s7,.str s8,.str s9,.str s10,.str s11,.str s12,.str s13,.str s14,.str s15]) H16->∃s18,(indexL cfg.P 214 (.agg [.str s7,.str s8,.str s9,.str s10,.str s11,.str s12,.str s13,.str s14,.str s15]) (I6 y4))=(some (.str s18))/\(R0 H [Sk i1 (ValC.cs x0) 67] H16 R (.str s18))) (R0 H [Sk i1 (ValC.cs x0) 67] H5 R (.str []))) (R0 H [Sk i1 (ValC.cs x0) 67] H5 R (.str []))):
 CallL cfg 194 [ValC.lv x0] H R:=call_wt0 (k:=(.go 2 (.boxP (.go 6 (.facts (.call (.cust Int (fun (n:Int)=>(.iface 283 (I6 n):LV))) (.go 39 (.cases 27 (.go 4 (.cases 30 (.go 3 (.facts (.call (.agg [.str,.str,.str,.str,.str,.str,.str,.str,.str]) (.go 1 (.op .str (.go 2 (.facts .ret))))))) (.go 7 (.facts .ret)))) (.go 11 (.facts .ret)))))))))) (by kernel_rfl) h
theorem e149t(R:RR)(s0:List UInt8)(H:LHeap)
(h:NX H fun i1 H2=>Inv [] H (qT3_2 i1) H2->Kg 233 [I6 1] H2 fun x4 H5=>Inv [] H (qT3_2 i1) H5->Kb 194 [ValC.lv x4] H5 fun s7 H8=>Inv [] H (qT3_2 i1) H8->Ka 232 [.str s0,.str s7] H8 fun b10 H11=>Cd b10 (PX [i1] H11 fun H12=>R0 H [Sk i1 qT3_3 124] H12 R (.tuple [.agg qT3_3,I6 (s7.length:Int)])) (Inv [] H (qT3_2 i1) H11->Kg 233 [I6 2] H11 fun x14 H15=>Inv [] H (qT3_2 i1) H15->Kb 194 [ValC.lv x14] H15 fun s17 H18=>Inv [] H (qT3_2 i1) H18->Ka 232 [.str s0,.str s17] H18 fun b20 H21=>Cd b20 (PX [i1] H21 fun H22=>R0 H [Sk i1 qT3_4 124] H22 R (.tuple [.agg qT3_4,I6 (s17.length:Int)])) (Inv [] H (qT3_2 i1) H21->Kg 233 [I6 3] H21 fun x24 H25=>Inv [] H (qT3_2 i1) H25->Kb 194 [ValC.lv x24] H25 fun s27 H28=>Inv [] H (qT3_2 i1) H28->Ka 232 [.str s0,.str s27] H28 fun b30 H31=>Cd b30 (PX [i1] H31 fun H32=>R0 H [Sk i1 qT3_5 124] H32 R (.tuple [.agg qT3_5,I6 (s27.length:Int)])) (Inv [] H (qT3_2 i1) H31->Kg 233 [I6 4] H31 fun x34 H35=>Inv [] H (qT3_2 i1) H35->Kb 194 [ValC.lv x34] H35 fun s37 H38=>Inv [] H (qT3_2 i1) H38->Ka 232 [.str s0,.str s37] H38 fun b40 H41=>Cd b40 (PX [i1] H41 fun H42=>R0 H [Sk i1 qT3_6 124] H42 R (.tuple [.agg qT3_6,I6 (s37.length:Int)])) (Inv [] H (qT3_2 i1) H41->Kg 233 [I6 5] H41 fun x44 H45=>Inv [] H (qT3_2 i1) H45->Kb 194 [ValC.lv x44] H45 fun s47 H48=>Inv [] H (qT3_2 i1) H48->Ka 232 [.str s0,.str s47] H48 fun b50 H51=>Cd b50 (PX [i1] H51 fun H52=>R0 H [Sk i1 qT3_7 124] H52 R (.tuple [.agg qT3_7,I6 (s47.length:Int)])) (Inv [] H (qT3_2 i1) H51->Kg 233 [I6 6] H51 fun x54 H55=>Inv [] H (qT3_2 i1) H55->Kb 194 [ValC.lv x54] H55 fun s57 H58=>Inv [] H (qT3_2 i1) H58->Ka 232 [.str s0,.str s57] H58 fun b60 H61=>Cd b60 (PX [i1] H61 fun H62=>R0 H [Sk i1 qT3_8 124] H62 R (.tuple [.agg qT3_8,I6 (s57.length:Int)])) (Inv [] H (qT3_2 i1) H61->Kg 233 [I6 7] H61 fun x64 H65=>Inv [] H (qT3_2 i1) H65->Kb 194 [ValC.lv x64] H65 fun s67 H68=>Inv [] H (qT3_2 i1) H68->Ka 232 [.str s0,.str s67] H68 fun b70 H71=>Cd b70 (PX [i1] H71 fun H72=>R0 H [Sk i1 qT3_9 124] H72 R (.tuple [.agg qT3_9,I6 (s67.length:Int)])) (Inv [] H (qT3_2 i1) H71->Kg 233 [I6 8] H71 fun x74 H75=>Inv [] H (qT3_2 i1) H75->Kb 194 [ValC.lv x74] H75 fun s77 H78=>Inv [] H (qT3_2 i1) H78->Ka 232 [.str s0,.str s77] H78 fun b80 H81=>Cd b80 (PX [i1] H81 fun H82=>R0 H [Sk i1 qT3_10 124] H82 R (.tuple [.agg qT3_10,I6 (s77.length:Int)])) (PX [i1] H81 fun H83=>R0 H (qT3_2 i1) H83 R (.tuple [.agg qT3_11,I6 0])))))))))):
 CallL cfg 149 [.str s0] H R:=call_wt0 (k:=(.go 2 (.boxP (.go 22 (.facts (.call (.cust ValC ValC.lv) (.facts (.call .str (.go 6 (.facts (.call .bool (.go 1 (.cases 15 (.go 7 (.putP (.go 2 (.facts .ret)))) (.go 22 (.facts (.call (.cust ValC ValC.lv) (.facts (.call .str (.go 6 (.facts (.call .bool (.go 1 (.cases 15 (.go 7 (.putP (.go 2 (.facts .ret)))) (.go 22 (.facts (.call (.cust ValC ValC.lv) (.facts (.call .str (.go 6 (.facts (.call .bool (.go 1 (.cases 15 (.go 7 (.putP (.go 2 (.facts .ret)))) (.go 22 (.facts (.call (.cust ValC ValC.lv) (.facts (.call .str (.go 6 (.facts (.call .bool (.go 1 (.cases 15 (.go 7 (.putP (.go 2 (.facts .ret)))) (.go 22 (.facts (.call (.cust ValC ValC.lv) (.facts (.call .str (.go 6 (.facts (.call .bool (.go 1 (.cases 15 (.go 7 (.putP (.go 2 (.facts .ret)))) (.go 22 (.facts (.call (.cust ValC ValC.lv) (.facts (.call .str (.go 6 (.facts (.call .bool (.go 1 (.cases 15 (.go 7 (.putP (.go 2 (.facts .ret)))) (.go 22 (.facts (.call (.cust ValC ValC.lv) (.facts (.call .str (.go 6 (.facts (.call .bool (.go 1 (.cases 15 (.go 7 (.putP (.go 2 (.facts .ret)))) (.go 22 (.facts (.call (.cust ValC ValC.lv) (.facts (.call .str (.go 6 (.facts (.call .bool (.go 1 (.cases 15 (.go 7 (.putP (.go 2 (.facts .ret)))) (.go 20 (.putP (.go 2 (.facts .ret))))))))))))))))))))))))))))))))))))))))))))))))))))))))))))))))))))))))))))))))))))))) (by kernel_rfl) h
theorem e225t(R:RR)(p0:Option LAddr)(n1:Int)(H:LHeap)
(h:(Option.isSome p0)=true/\((0<=n1/\(n1<256/\(Option.isSome (some (adr p0)))=true))/\(Inv [] H [] H->∃b5,loadT cfg.P H 4 (Lk (LAddr.id (adr p0)) (LAddr.ver (adr p0)) ((LAddr.off (adr p0))+((Int.toNat n1)*1)))=some (.bool b5)/\(R0 H [] H R (.bool b5))))):
 CallL cfg 225 [.ptr p0,.int .u8 n1] H R:=call_wt0 (k:=(.go 8 (.op (.tuple []) (.op (.tuple []) (.facts (.op .bool (.go 2 (.facts .ret)))))))) (by kernel_rfl) h
theorem g144t_0(R:RR)(H0:LHeap)(d:Nat->LV)(s0:List UInt8)(p1:Option LAddr)(H:LHeap)
(h:Dc ((s0.length:Int)>0) (((0:Int)<=0/\0<(s0.length:Int))/\(Inv [] H0 [] H->Ka 225 [.ptr p1,.int .u8 (byteAt s0 0)] H fun b4 H5=>Cd (!b4) (R0 H0 [] H5 R (.str s0)) (((0:Int)<=1/\(1<=(s0.length:Int)/\(s0.length:Int)<=(s0.length:Int)))/\(∀d7,GoesT cfg 144 R [] H0 [] (L144t_0 d7 (subStr s0 1 (s0.length:Int)) p1) (loopAt cfg 144 0) H5)))) (R0 H0 [] H R (.str s0))):
 GoesT cfg 144 R [] H0 [] (L144t_0 d s0 p1) (loopAt cfg 144 0) H:=seg_wt (k:=(.go 7 (.cases 7 (.go 8 (.op (.int .u8) (.facts (.call .bool (.go 2 (.cases 12 (.go 7 (.facts .ret)) (.go 4 (.op .str (.go 4 (.stop [0,1] 0)))))))))) (.go 7 (.facts .ret))))) (by kernel_rfl) h
theorem e144t(R:RR)(s0:List UInt8)(p1:Option LAddr)(H:LHeap)
(h:∀d2,GoesT cfg 144 R [] H [] (L144t_0 d2 s0 p1) (loopAt cfg 144 0) H):
 CallL cfg 144 [.str s0,.ptr p1] H R:=call_wt0 (k:=(.go 7 (.stop [0,1] 0))) (by kernel_rfl) h
theorem e143t(R:RR)(u:Unit)(H:LHeap)
(h:NX H fun i0 H1=>PX [i0] H1 fun H2=>PX [i0] H2 fun H3=>PX [i0] H3 fun H4=>R0 H [Sk i0 qT3_1 207] H4 R (.tuple [.agg qT3_1,.bool true])):
 CallL cfg 143 [.str [32,9]] H R:=call_wt0 (k:=(.go 2 (.boxP (.go 39 (.putP (.go 38 (.putP (.go 21 (.putP (.go 2 (.facts .ret))))))))))) (by kernel_rfl) h
theorem cutP_no{s:List UInt8}{c:UInt8}(h:s.head?≠some c):cutP s [c]=(s,false):=by
 unfold cutP;rw [if_neg];cases s with
 |nil=>simp
 |cons b t=>
  simp at h;simp [h]
theorem pow4{d k:Nat}(h:d<10 ^ k)(hk:k<=4):(d:Int)*10 ^ (4-k)<10000:=by
 have h1:d*10 ^ (4-k)<10 ^ k*10 ^ (4-k):=Nat.mul_lt_mul_of_pos_right h (Nat.pow_pos (by omega));rw [<-Nat.pow_add,show k+(4-k)=4 by omega] at h1;have h2:((d*10 ^ (4-k):Nat):Int)<10000:=by omega
 simpa using h2
theorem s230(s:List UInt8)(hs:s.length<=1000)(hh:s.head?≠some 45)(H:LHeap):CallL cfg 230 [.str s] H (Ret (parseL s) H):=by
 refine e230t _ s H fun hI=>⟨_,s130 s [45] H,Ret.use ⟨_,_,rfl⟩,fun s2 b3 H4 ⟨e,_⟩ hI=> ?_⟩;rw [cutP_no hh] at e;cases e;refine ⟨_,s231 s 46 H4 hs,Ret.use (cutL_sh s 46),fun s6 s7 b8 H9 ⟨e,_⟩ hI=> ?_⟩;have key:partsF s=(s6,s7,b8)/\s6.length<=1000/\s7.length<=1000:=by
  unfold cutL at e;unfold partsF;cases hc:cutF 46 s with
  |none=>rw [hc] at e;cases e;exact ⟨rfl,hs,by simp⟩
  |some p=>
   obtain ⟨x,y⟩:=p;rw [hc] at e;cases e;have:=congrArg List.length (cutF_eq hc);simp at this;exact ⟨rfl,by omega,by omega⟩
 obtain ⟨kp,k6,k7⟩:=key;refine ⟨_,s276 s6 k6 1 12 H9,CountR.sh,fun n11 b12 H13 ⟨_,n,b,e1,hb1,hn1,hlo1,hhi1⟩ hI=>⟨_,s276 s7 k7 1 4 H13,CountR.sh,fun n15 b16 H17 ⟨_,m,b',e2,hb2,hn2,hlo2,hhi2⟩=> ?_⟩⟩;cases e1;cases e2;have ok:parseOk s=(b12&&(!b8||b16)):=by
  unfold parseOk;rw [kp,hb1,hb2]
 have bad:∀{H':LHeap},parseOk s=false->PresX [] H H'->Ret (parseL s) H (.tuple [.int .i64 0,.bool false]) H':=fun h p=>⟨by unfold parseL;rw [h];rfl,p⟩;have good:parseOk s=true->∀d H',GoesT cfg 230 (Ret (parseL s) H) [] H [] (L230t_0 d 0 n15 false n11 (lwrap .i64 ((4:Int)-((s7.length:Nat):Int)))) (loopAt cfg 230 0) H':=by
  intro h d H';have h1:b12=true:=by rw [ok] at h;simp at h;exact h.1
  have h2:digs s6=true/\s6.length<=12:=by
   rw [hb1] at h1;simp at h1;exact ⟨h1.1,by omega⟩
  have h3:digs s7=true/\s7.length<=4:=by
   cases hb8:b8 with
   |true=>
    rw [ok,hb8,hb2] at h;simp at h;exact ⟨h.2.1,by omega⟩
   |false=>
    have:s7=[]:=by
     unfold partsF at kp;split at kp
     ·cases kp;cases hb8
     ·cases kp;rfl
    rw [this];exact ⟨rfl,by simp⟩
  have v1:=hn1 h2.1 h2.2;have v2:=hn2 h3.1 (by omega);have b1:=decF_12 h2.1 h2.2;have b2:=decF_lt s7 0 h3.1;have hw:lwrap .i64 ((4:Int)-((s7.length:Nat):Int))=((4-s7.length:Nat):Int):=by rw [lwrap_small (by omega) (by omega)];omega
  rw [hw,v1,v2];have hp:parseL s=toldL ((decF s6 0:Int)*10000+(decF s7 0:Int)*10 ^ (4-s7.length)):=by
   unfold parseL parseV;rw [h,kp];rfl
  rw [hp];have:=loop230 H (decF s6 0:Int) ⟨by omega,by omega⟩ (4-s7.length) (by omega) (decF s7 0:Int) (by omega) (pow4 (by simpa using b2) h3.2) _ rfl (4-s7.length) 0 (by omega) d H';simpa using this
 refine ⟨fun h hI=>bad ?_ hI.pres,fun h=>⟨fun h8=>⟨fun h16 hI=>bad ?_ hI.pres,fun h16 d=>good ?_ d H17⟩,fun h8 d=>good ?_ d H17⟩⟩
 ·rw [ok];simp at h;rw [h];rfl
 ·rw [ok,h8];simp at h16;rw [h16];simp
 ·rw [ok,h8];simp at h h16;rw [h,h16];rfl
 ·rw [ok,h8];simp at h;rw [h];rfl
def truthF(s:List UInt8):Int:=if s.map upB==[84,82,85,69] then 1 else if s.map upB==[70,65,76,83,69] then 0 else -1
def zeroR:RefC:=⟨[],[],0,0,false,false⟩
def cellL:Option RefC->LV
 |some r=>.tuple [r.lv,.bool true]
 |none=>.tuple [zeroR.lv,.bool false]
theorem cellL_sh(o:Option RefC):hasSh (.tuple [(.cust RefC RefC.lv),.bool]) (cellL o):=by
 cases o with
 |none=>exact ⟨_,_,rfl⟩
 |some r=>exact ⟨_,_,rfl⟩
def colF(c:UInt8):Int:=if 97<=c.toNat then (c.toNat:Int)-96 else (c.toNat:Int)-64
def okRow(s:List UInt8):Bool:=digs s&&(decide (s.length<=2)&& !(s.head? ==some 48))
def restF(col:Int)(fc:Bool)(s:List UInt8)(fr:Bool):Option RefC:=if okRow s&&inF (decF s 0:Int) col then some ⟨[],[],(decF s 0:Int),col,fr,fc⟩ else none
def cellF(s:List UInt8):Option RefC:=
 match (cutP s [36]).1 with
 |[]=>none
 |c::t=>if letF (c.toNat:Int) then restF (colF c) (cutP s [36]).2 (cutP t [36]).1 (cutP t [36]).2 else none
theorem s280(s:List UInt8)(H:LHeap):CallL cfg 280 [.str s] H (Ret (.tuple [.str (cutP s [36]).1,.bool (cutP s [36]).2]) H):=
 e280t _ s H fun hI=>⟨_,s130 s [36] H,Ret.use ⟨_,_,rfl⟩,fun s2 b H3 ⟨e,_⟩ hI=>⟨e,hI.pres⟩⟩
theorem cutP_le(s p:List UInt8):(cutP s p).1.length<=s.length:=by
 unfold cutP;split
 ·simp
 ·exact Nat.le_refl _
theorem colF_or(c:UInt8)(h:letF (c.toNat:Int)=true):lwrap .i64 (lwrap .i64 (lwrap .u8 ((IntKind.wrap .u8 (((BitVec.toNat (HOr.hOr (BitVec.ofInt 8 (c.toNat:Int)) (BitVec.ofInt 8 (32:Int)))):Nat):Int))-(97:Int)))+1)=colF c:=by
 have key:∀n:Fin 256,letF ((n.val:Nat):Int)=true->lwrap .i64 (lwrap .i64 (lwrap .u8 ((IntKind.wrap .u8 (((BitVec.toNat (HOr.hOr (BitVec.ofInt 8 ((n.val:Nat):Int)) (BitVec.ofInt 8 (32:Int)))):Nat):Int))-(97:Int)))+1)=(if 97<=n.val then ((n.val:Nat):Int)-96 else ((n.val:Nat):Int)-64):=by decide +kernel
 exact key ⟨c.toNat,u8_lt256 c⟩ h
theorem loop236(s:List UInt8)(hs:s.length<=1000)(col:Int)(fr fc:Bool)(H0:LHeap)(i7:Nat)(x8:RefC):∀(C A:List UInt8) (d:Nat->LV) (H:LHeap),A++C=s->digs A=true->A.length<=2->(A=[]\/s.head?≠some 48)->
  GoesT cfg 236 (Ret (cellL (restF col fc s fr)) H0) [] H0 [⟨i7,x8.cs,69⟩] (L236t_0 d (A.length:Int) (decF A 0:Int) s col fr fc ((s.length:Nat):Int)) (loopAt cfg 236 0) H
 |[],A,d,H,hA,hd,h2,h48=>by
  intro hin hI;rw [List.append_nil] at hA;subst hA;refine g236t_0 _ H0 d A.length (decF A 0) A col fr fc A.length i7 x8 H ⟨fun h=> ?_,fun _ i19 H20 _ _ H21 _ hI=>⟨_,s281 (decF A 0) col H21,Ret.use ⟨_,rfl⟩,fun b23 H24 ⟨e,_⟩=>⟨fun h H25 _ hI=>⟨?_,hI.pres⟩,fun h H26 _ hI=>⟨?_,hI.pres⟩⟩⟩⟩ hin hI
  ·simp at h
  ·cases e;have:inF (decF A 0:Int) col=false:=by simpa using h
   unfold restF;rw [this,Bool.and_false];rfl
  ·cases e;have hin':inF (decF A 0:Int) col=true:=by simpa using h
   have hok:okRow A=true:=by
    rcases h48 with h |h
    ·subst h;exfalso;revert hin';unfold inF;simp [decF]
    ·unfold okRow;rw [hd,decide_eq_true h2];simpa using h
   unfold restF;rw [hin',hok];rfl
 |b::C,A,d,H,hA,hd,h2,h48=>by
  intro hin hI;have hb:byteAt s (A.length:Int)=(b.toNat:Int):=by rw [<-hA];exact byteAt_app A b C
  have hl:A.length+(C.length+1)=s.length:=by rw [<-hA];simp
  have rg:(0:Int)<=(A.length:Int)/\(A.length:Int)<((s.length:Nat):Int):=by omega
  have bad:∀{H':LHeap},okRow s=false->PresX [] H0 H'->Ret (cellL (restF col fc s fr)) H0 (.tuple [.agg [.str [],.str [],.int .i64 0,.int .i64 0,.bool false,.bool false],.bool false]) H':=fun h p=>⟨by unfold restF;rw [h];rfl,p⟩;have h0:(byteAt s 0==48)=(s.head? ==some 48):=by
   cases s with
   |nil=>simp at hl
   |cons c t=>
    rw [show byteAt (c::t) 0=(c.toNat:Int) from byteAt_app [] c t];rw [Bool.eq_iff_iff];simp only [List.head?_cons,beq_iff_eq,Option.some.injEq];constructor
    ·intro h;exact UInt8.toNat_inj.1 (by show c.toNat=48;omega)
    ·intro h;rw [h];rfl
  have c174:CallL cfg 174 [.int .u8 (byteAt s (A.length:Int))] H (Ret (.bool (digF (b.toNat:Int))) H):=by rw [hb];exact s174 _ H
  refine g236t_0 _ H0 d A.length (decF A 0) s col fr fc s.length i7 x8 H ⟨fun h=>⟨rg,fun hI=>⟨_,c174,Ret.use ⟨_,rfl⟩,fun b11 H12 ⟨e,_⟩=>⟨fun h11 H13 _ hI=>bad ?_ hI.pres,fun h11=>⟨fun h1 H14 _ hI=>bad ?_ hI.pres,fun h1=>⟨⟨by omega,by omega⟩,fun h48' H16 _ hI=>bad ?_ hI.pres,fun h48'=>⟨rg,fun d18=> ?_⟩⟩⟩⟩⟩⟩,fun h=> ?ge⟩ hin hI
  case ge=>simp at h;omega
  ·cases e;have:digF (b.toNat:Int)=false:=by simpa using h11
   unfold okRow;have:digs s=false:=by rw [<-hA,digs_app];simp [digs,this]
   rw [this];rfl
  ·simp at h1;unfold okRow;rw [decide_eq_false (show ¬s.length<=2 by omega)];simp
  ·rw [h0] at h48';unfold okRow;rw [h48'];simp
  ·cases e;have hdb:digF (b.toNat:Int)=true:=by simpa using h11
   simp at h1;have hb2:48<=b.toNat/\b.toNat<=57:=by simp [digF] at hdb;omega
   have hlt:=decF_lt A 0 hd;have hp:10 ^ A.length<=10 ^ 2:=Nat.pow_le_pow_right (by omega) h2;have e1:lwrap .u8 ((b.toNat:Int)-48)=(b.toNat:Int)-48:=by
    rw [lwrap_eq];simp only [IntKind.wrap,IntKind.signed,IntKind.bits,Bool.false_and,Bool.false_eq_true,if_false];omega
   rw [hb,e1,lwrap_small (n:=(10:Int)*(decF A 0:Int)) (by omega) (by omega),lwrap_small (n:=(b.toNat:Int)-48) (by omega) (by omega),lwrap_small (n:=(10:Int)*(decF A 0:Int)+((b.toNat:Int)-48)) (by omega) (by omega),lwrap_small (n:=(A.length:Int)+1) (by omega) (by omega)];have hdec:(10:Int)*(decF A 0:Int)+((b.toNat:Int)-48)=(decF (A++[b]) 0:Int):=by
    rw [decF_app];show _=((10*decF A 0+(b.toNat-48):Nat):Int);omega
   rw [hdec,show (A.length:Int)+1=(((A++[b]).length:Nat):Int) by simp];exact loop236 s hs col fr fc H0 i7 x8 C (A++[b]) d18 H12 (by rw [<-hA];simp) (by rw [digs_app,hd];simp [digs,hdb]) (by simp;omega) (.inr (by rw [h0] at h48';simpa using h48'))
theorem s236(s:List UInt8)(hs:s.length<=1000)(H:LHeap):CallL cfg 236 [.str s] H (Ret (cellL (cellF s)) H):=by
 have bad:∀{H':LHeap},cellF s=none->PresX [] H H'->Ret (cellL (cellF s)) H (.tuple [.agg [.str [],.str [],.int .i64 0,.int .i64 0,.bool false,.bool false],.bool false]) H':=fun h p=>⟨by rw [h];rfl,p⟩;refine e236t _ s H fun i1 H2 _ _ hI=>⟨_,s280 s H2,Ret.use ⟨_,_,rfl⟩,fun s4 b5 H6 ⟨e,_⟩=> ?_⟩;simp only [LV.tuple.injEq,List.cons.injEq,LV.str.injEq,LV.bool.injEq,and_true] at e;obtain ⟨e1,e2⟩:=e;have hl:=cutP_le s [36];rw [<-e1] at hl;refine ⟨fun h H7 _ hI=>bad ?_ hI.pres,fun h=> ?_⟩
 ·have:s4=[]:=by simpa using h
  unfold cellF;rw [<-e1,this]
 ·cases s4 with
  |nil=>cases h
  |cons c t=>
   have hb:byteAt (c::t) 0=(c.toNat:Int):=byteAt_app [] c t;rw [hb];rw [List.length_cons] at hl;refine ⟨⟨by omega,by simp⟩,fun hI=>⟨_,s173 _ H6,Ret.use ⟨_,rfl⟩,fun b10 H11 ⟨e10,_⟩=>⟨fun h10 H12 _ hI=>bad ?_ hI.pres,fun h10=>⟨⟨by omega,by simp⟩,⟨by omega,by simp;omega,by omega⟩,fun hI=>⟨_,s280 _ H11,Ret.use ⟨_,_,rfl⟩,fun s16 b17 H18 ⟨e16,_⟩ d19=> ?_⟩⟩⟩⟩⟩
   ·cases e10;have:letF (c.toNat:Int)=false:=by simpa using h10
    unfold cellF;rw [<-e1];simp only;rw [this];rfl
   ·cases e10;have hlet:letF (c.toNat:Int)=true:=by simpa using h10
    simp only [LV.tuple.injEq,List.cons.injEq,LV.str.injEq,LV.bool.injEq,and_true] at e16;obtain ⟨e3,e4⟩:=e16;rw [sub_drop1] at e3 e4;simp only [List.drop_succ_cons,List.drop_zero] at e3 e4;have hc:cellF s=restF (colF c) b5 s16 b17:=by
     unfold cellF;rw [<-e1];simp only;rw [hlet,if_pos rfl,<-e2,e3,e4]
    rw [hc,colF_or c hlet];have hl2:=cutP_le t [36];rw [<-e3] at hl2;exact loop236 s16 (by omega) (colF c) b17 b5 H i1 zeroR s16 [] d19 H18 rfl rfl (by simp) (.inl rfl)
end Go.Proofs.YtjihhflffkoffaaGreatDoor.Z
