/- Contracts of functions of the program; no condition. -/
import Derived.Test.YtjihhflffkoffaaGreatDoorG0
import Derived.Test.YtjihhflffkoffaaGreatDoorLe
import Derived.Test.YtjihhflffkoffaaGreatDoorG2
import Derived.Test.YtjihhflffkoffaaGreatDoorG4
import Derived.Test.YtjihhflffkoffaaGreatDoorG5
import Derived.Test.YtjihhflffkoffaaGreatDoorG1
set_option linter.unusedSimpArgs false
set_option linter.unusedVariables false
set_option linter.unusedSectionVars false
set_option linter.unnecessarySimpa false
namespace Go.Proofs.YtjihhflffkoffaaGreatDoor.Z
open Go Go.Lm
set_option maxRecDepth 1000000
set_option maxHeartbeats 0
def L288g_0(d:Nat->LV)(p0:Option LAddr)(n1:Int)(n2:Int):List SV:=[(.lv (.int Go.IntKind.u64 n1)),(.lv (d 1)),(.lv (d 2)),(.lv (.ptr p0)),(.lv (.int Go.IntKind.i64 n2)),(.lv (d 5)),(.lv (d 6)),(.lv (d 7)),(.lv (d 8)),(.lv (d 9)),(.lv (d 10)),(.lv (d 11)),(.lv (d 12)),(.lv (d 13)),(.lv (d 14)),(.lv (d 15)),(.lv (d 16)),(.lv (d 17)),(.lv (d 18)),(.lv (d 19))]
theorem g288g_0(R:LV->LHeap->Prop)(H0:LHeap)(d:Nat->LV)(p0:Option LAddr)(n1:Int)(n2:Int) (H:LHeap)
 (h:((((0:Int)<=(lwrap Go.IntKind.i64 (n2-(1:Int))))/\(((lwrap Go.IntKind.i64 (n2-(1:Int)))<(20:Int))/\((Option.isSome p0)=Bool.true)))/\(Inv [] H0 [] H->∃H4:LHeap,(storeT cfg.P H 5 (LAddr.mk (LAddr.id (adr p0)) (LAddr.ver (adr p0)) ((LAddr.off (adr p0))+((Int.toNat (lwrap Go.IntKind.i64 (n2-(1:Int))))*1))) (.int Go.IntKind.u8 (lwrap Go.IntKind.u8 (lwrap Go.IntKind.u64 ((48:Int)+(Int.tmod n1 (10:Int))))))=some H4/\okId [] H0 [] (LAddr.id (adr p0)))/\((((lwrap Go.IntKind.u64 (Int.tdiv n1 (10:Int)))==(0:Int))=true->(∃a6:(Option Go.Lm.LAddr),(∃l7:Nat,(∃c8:Go.Lm.Cap,(((sliceL (cfg).P 308 (.ptr p0) (some (.int Go.IntKind.i64 (lwrap Go.IntKind.i64 (n2-(1:Int))))) none none)=(some (.slice a6 l7 c8)))/\(Inv [] H0 [] H4->(∃s10:(List UInt8),(∃H11:Go.Lm.LHeap,(((convertL (cfg).P H4 155 9 (.slice a6 l7 c8))=(some (Prod.mk (.str s10) H11)))/\(Inv [] H0 [] H4->R (.str s10) H4))))))))))
 /\ (((lwrap Go.IntKind.u64 (Int.tdiv n1 (10:Int)))==(0:Int))=false->(∀d12:Nat->LV,GoesT cfg 288 R [] H0 [] (L288g_0 d12 p0 (lwrap Go.IntKind.u64 (Int.tdiv n1 (10:Int))) (lwrap Go.IntKind.i64 (n2-(1:Int)))) (loopAt cfg 288 0) H4)))))):
 GoesT cfg 288 R [] H0 [] (L288g_0 d p0 n1 n2) (loopAt cfg 288 0) H:=
  seg_wt (k:=(.go 14 (.op (.tuple []) (.facts (.store (.go 12 (.cases 16 (.go 4 (.op .slice (.facts (.op .str (.go 2 (.facts .ret)))))) (.go 4 (.stop [3,0,4] 0))))))))) (by kernel_rfl) h
theorem e288g(R:LV->LHeap->Prop)(n0:Int)(H:LHeap)
 (h:(Inv [] H [] H->∃(p1:Option LAddr),∃(Y:List Nat) (H2:LHeap),(opL cfg (fun (x:Go.Operand)=>(denF [] (evalS cfg [(.lv (.int Go.IntKind.u64 n0)),(.lv (.tuple [])),(.lv (.str [])),(.lv (.tuple [])),(.lv (.tuple [])),(.lv (.tuple [])),(.lv (.tuple [])),(.lv (.tuple [])),(.lv (.tuple [])),(.lv (.tuple [])),(.lv (.tuple [])),(.lv (.tuple [])),(.lv (.tuple [])),(.lv (.tuple [])),(.lv (.tuple [])),(.lv (.tuple [])),(.lv (.tuple [])),(.lv (.tuple [])),(.lv (.tuple [])),(.lv (.tuple []))] x))) H (Oper.mk (some 3) (Op.alloc 308) 0 "num.go:68" (List.toArray []) none)=some [(.value (.ptr p1),H2)]/\PresX Y H H2/\∀i∈Y,okId [] H [] i)/\(∀d3:Nat->LV,GoesT cfg 288 R [] H [] (L288g_0 d3 p1 n0 (20:Int)) (loopAt cfg 288 0) H2))):
 CallL cfg 288 [(.int Go.IntKind.u64 n0)] H R:=
  call_wt0 (k:=(.go 6 (.facts (.any .ptr (.go 7 (.stop [3,0,4] 0)))))) (by kernel_rfl) h
def digB(n:Nat):UInt8:=UInt8.ofNat (48+n%10)
def decN(n:Nat):List UInt8:=if h:n<10 then [digB n] else decN (n / 10)++[digB n]
termination_by n
decreasing_by omega
theorem decN_lt{n:Nat}(h:n<10):decN n=[digB n]:=by rw [decN,dif_pos h]
theorem decN_ge{n:Nat}(h:10<=n):decN n=decN (n / 10)++[digB n]:=by rw [decN,dif_neg (by omega)]
theorem decN_len:∀(k n:Nat),1<=k->n<10 ^ k->1<=(decN n).length/\(decN n).length<=k
 |0,n,h,_=>by omega
 |k+1,n,_,h=>by
  by_cases hn:n<10
  ·rw [decN_lt hn];simp
  ·rw [decN_ge (by omega),List.length_append];have:n / 10<10 ^ k:=by rw [Nat.pow_succ] at h;omega
   have hk:1<=k:=by
    rcases k with _ |k
    ·simp at h;omega
    ·omega
   have:=decN_len k (n / 10) hk this;simp;omega
theorem w64{n:Nat}(h:n<=1000000000000):lwrap .u64 (n:Int)=(n:Int):=by
 rw [lwrap_eq];simp only [IntKind.wrap,IntKind.signed,IntKind.bits,Bool.false_and,Bool.false_eq_true,if_false];omega
theorem tdiv10(n:Nat):Int.tdiv (n:Int) 10=((n / 10:Nat):Int):=by rw [Int.tdiv_eq_ediv_of_nonneg (by omega)];omega
theorem tmod10(n:Nat):Int.tmod (n:Int) 10=((n%10:Nat):Int):=by rw [Int.tmod_eq_emod_of_nonneg (by omega)];omega
theorem digit_cell(n:Nat):lwrap .u8 (lwrap .u64 (48+Int.tmod (n:Int) 10))=((digB n).toNat:Int):=by
 rw [tmod10,show (48:Int)+((n%10:Nat):Int)=((48+n%10:Nat):Int) by omega,w64 (by omega),lwrap_eq];unfold digB;rw [UInt8.toNat_ofNat'];simp only [IntKind.wrap,IntKind.signed,IntKind.bits,Bool.false_and,Bool.false_eq_true,if_false];omega
theorem wdiv{n:Nat}(h:n<=1000000000000):lwrap .u64 (Int.tdiv (n:Int) 10)=((n / 10:Nat):Int):=by rw [tdiv10,w64 (by omega)]
theorem load_b{H H':LHeap}{b:UInt8}(hp:PresX [] (H.push (.cells [.int .u8 (b.toNat:Int)] 5 1 1 .none false true)) H'):loadN H' ⟨H.next,1,0⟩ 1=some (bcs [b]):=by
 refine (hp.keep H.next (Nat.lt_succ_self _) (by simp)).loads ⟨H.next,1,0⟩ _ _ rfl ?_;unfold loadN;simp only [LHeap.get_push,if_true];rfl
theorem loop296(H0:LHeap):∀(n:Nat) (s:List UInt8) (d:Nat->LV) (H:LHeap),n<=1000000000000->(decN n).length+s.length<=1000->
  GoesT cfg 296 (Ret (.str (decN n++s)) H0) [] H0 [] (L296t_0 d (n:Int) s) (loopAt cfg 296 0) H:=by
 intro n;induction n using Nat.strongRecOn with
 |_ n ih=>
  intro s d H hn hl hin hI;refine g296t_0 _ H0 d n s H (fun H2 e2=> ?_) hin hI;rw [digit_cell] at e2;refine ⟨[digB n],H2,conv_from (load_b (e2▸.refl _ _)),by simp;omega,fun h hI=> ?_,fun h d7=> ?_⟩
  ·rw [wdiv hn] at h;rw [decN_lt (by simp at h;omega)];exact .mk hI.pres
  ·rw [wdiv hn] at h |-;have h10:10<=n:=by simp at h;omega
   rw [decN_ge h10] at hl |-;rw [List.append_assoc];exact ih (n / 10) (by omega) ([digB n]++s) d7 H2 (by omega) (by simp at hl |-;omega)
theorem q296(n:Nat)(H:LHeap)(hn:n<=1000000000000):CallL cfg 296 [.int .u64 (n:Int)] H (Ret (.str (decN n)) H):=
 e296t _ n H fun d=>by
  have:=loop296 H n [] d H hn (by have:=(decN_len 13 n (by omega) (by omega)).2;simp;omega)
  rwa [List.append_nil] at this
def ArrAt(H:LHeap)(i:Nat)(cs:List LV):Prop:=i<H.next/\H.get i=some (.cells cs 308 20 20 .none false true)/\cs.length=20
theorem over_one{α:Type}:∀(A B:List α) (a b:α),over A.length (A++a::B) [b]=some (A++b::B)
 |[],B,a,b=>by cases B<;>rfl
 |x::A,B,a,b=>by
  show (over A.length (A++a::B) [b]).map (x::·)=_;rw [over_one A B a b];rfl
theorem arr_store{H:LHeap}{i k:Nat}{cs:List LV}(h:ArrAt H i cs)(hk:k<20)(b:UInt8):
  ∃H' cs',storeT cfg.P H 5 ⟨i,20,0+k*1⟩ (.int .u8 (b.toNat:Int))=some H'/\ArrAt H' i cs'/\PresX [i] H H'/\cs'.drop k=.int .u8 (b.toNat:Int)::cs.drop (k+1):=by
 obtain ⟨h1,h2,h3⟩:=h;have hd:cs=cs.take k++cs[k]::cs.drop (k+1):=by
  rw [List.getElem_cons_drop (h:=by omega),List.take_append_drop]
 have hov:over k cs [.int .u8 (b.toNat:Int)]=some (cs.take k++ .int .u8 (b.toNat:Int)::cs.drop (k+1)):=by
  have:=over_one (cs.take k) (cs.drop (k+1)) cs[k] (LV.int .u8 (b.toNat:Int));rw [<-hd] at this
  rwa [List.length_take,Nat.min_eq_left (by omega)] at this
 refine ⟨H.put i (.cells (cs.take k++ .int .u8 (b.toNat:Int)::cs.drop (k+1)) 308 20 20 .none false true),cs.take k++ .int .u8 (b.toNat:Int)::cs.drop (k+1),?_,⟨h1,?_,?_⟩,.put _ _ _,?_⟩
 ·unfold storeT storeN;rw [show sizeOfT cfg.P 5=some 1 by kernel_rfl];simp only [LV.cells,List.length_singleton,Nat.beq_refl,if_true,h2,Nat.zero_add,Nat.mul_one,hov,FZ.apart,allCells,LV.isCell,Bool.not_false,Bool.and_self]
 ·rw [LHeap.get_put,if_pos rfl]
 ·simp only [List.length_append,List.length_take,List.length_cons,List.length_drop];omega
 ·rw [List.drop_append_of_le_length (by rw [List.length_take];omega),List.drop_eq_nil_of_le (by rw [List.length_take];omega),List.nil_append]
theorem arr_slice(i k:Nat)(hk:k<20):sliceL cfg.P 308 (.ptr (some ⟨i,20,0⟩)) (some (.int .i64 (k:Int))) none none=some (.slice (some ⟨i,20,k⟩) (20-k) (.exact (20-k))):=by
 have:∀k:Nat,k<20->sliceL cfg.P 308 (.ptr (some ⟨i,20,0⟩)) (some (.int .i64 (k:Int))) none none=some (.slice (some ⟨i,20,k⟩) (20-k) (.exact (20-k))):=by
  intro k hk;unfold sliceL;rw [show cfg.P.underlying 308=some (.array 20 5) by kernel_rfl];simp only [show sizeOfT cfg.P 5=some 1 by kernel_rfl,Option.isSome_none,Bool.false_eq_true,if_false];have:k=0\/k=1\/k=2\/k=3\/k=4\/k=5\/k=6\/k=7\/k=8\/k=9\/k=10\/k=11\/k=12\/k=13\/k=14\/k=15\/k=16\/k=17\/k=18\/k=19:=by omega
  rcases this with h |h |h |h |h |h |h |h |h |h |h |h |h |h |h |h |h |h |h |h<;>subst h<;>rfl
 exact this k hk
theorem arr_load{H:LHeap}{i k:Nat}{cs:List LV}{s:List UInt8}(h:ArrAt H i cs)(hk:k<=20)(hs:cs.drop k=bcs s):loadN H ⟨i,20,k⟩ (20-k)=some (bcs s):=by
 obtain ⟨h1,h2,h3⟩:=h;unfold loadN;rw [h2];simp only;rw [if_pos (by simp only [Bool.and_eq_true,Nat.ble_eq];omega),dropN_eq,hs];have:20-k=(bcs s).length:=by rw [<-hs,List.length_drop,h3]
 rw [this,takeN_of _ _ (Nat.le_refl _),List.take_length]
theorem loop288(H0:LHeap):∀(n k:Nat) (s:List UInt8) (d:Nat->LV) (H:LHeap) (i:Nat) (cs:List LV),n<=1000000000000->n<10 ^ k->1<=k->k<=20->ArrAt H i cs->cs.drop k=bcs s->H0.next<=i->
  GoesT cfg 288 (Ret (.str (decN n++s)) H0) [] H0 [] (L288g_0 d (some ⟨i,20,0⟩) (n:Int) (k:Int)) (loopAt cfg 288 0) H:=by
 intro n;induction n using Nat.strongRecOn with
 |_ n ih=>
  intro k s d H i cs hn hk hk1 hk20 hA hs hi hin hI;obtain ⟨k,rfl⟩:∃j,k=j+1:=⟨k-1,by omega⟩;have e1:lwrap .i64 (((k+1:Nat):Int)-1)=(k:Int):=by rw [lwrap_small (by omega) (by omega)];omega
  obtain ⟨H4,cs',st,hA',hp,hd⟩:=arr_store hA (k:=k) (by omega) (digB n);refine g288g_0 _ H0 d _ n _ H ⟨?_,fun _=>⟨H4,⟨?_,.inr hi,fun j t ht=>by simp [nth] at ht⟩,fun h=> ?_,fun h d7=> ?_⟩⟩ hin hI
  ·rw [e1];exact ⟨by omega,by omega,rfl⟩
  ·rw [e1,digit_cell,Int.toNat_natCast];exact st
  ·rw [wdiv hn] at h;have:cs'.drop k=bcs ([digB n]++s):=by rw [hd,hs];rfl
   rw [decN_lt (by simp at h;omega),e1];exact ⟨_,_,_,arr_slice i k (by omega),fun _=>⟨_,_,conv_from (arr_load hA' (by omega) this),fun hI=>.mk hI.pres⟩⟩
  ·rw [wdiv hn] at h |-;have h10:10<=n:=by simp at h;omega
   rw [decN_ge h10,List.append_assoc,e1];exact ih (n / 10) (by omega) k ([digB n]++s) d7 H4 i cs' (by omega) (by rw [Nat.pow_succ] at hk;omega) (by rcases k with _ |k<;>simp at hk |-;omega) (by omega) hA' (by rw [hd,hs];rfl) hi
theorem q288(n:Nat)(H:LHeap)(hn:n<=1000000000000):CallL cfg 288 [.int .u64 (n:Int)] H (Ret (.str (decN n)) H):=by
 refine e288g _ n H fun _=>⟨some ⟨H.next,20,0⟩,[],H.push (.cells (List.replicate 20 (.int .u8 0)) 308 20 20 .none false true),⟨?_,.push _ _ _,fun j hj=>by cases hj⟩,fun d=> ?_⟩
 ·rfl
 ·have:=loop288 H n 20 [] d (H.push (.cells (List.replicate 20 (.int .u8 0)) 308 20 20 .none false true)) H.next (List.replicate 20 (.int .u8 0)) hn (by omega) (by omega) (by omega) ⟨Nat.lt_succ_self _,by rw [LHeap.get_push,if_pos rfl],rfl⟩ rfl (Nat.le_refl _)
  rwa [List.append_nil] at this
theorem rowTB':RowT cfg.P 155 5 1 1:=⟨by kernel_rfl,by kernel_rfl,by decide,by kernel_rfl,by kernel_rfl,by kernel_rfl,⟨.int .u8 0,by kernel_rfl,rfl⟩⟩
theorem inv_box'{H:LHeap}{i:Nat}{cs:List LV}{e:TypeId}{X:List Nat}(hi:i<H.next)(hg:H.get i=some (Slot.obj ⟨i,cs,e⟩))(hX:i∈X):Inv X H [⟨i,cs,e⟩] H:=by
 refine ⟨.refl _ _,fun k s hs=> ?_,fun j k s t hs ht hjk=> ?_⟩
 ·cases k with
  |zero=>cases hs;exact ⟨hi,hg,.inl hX⟩
  |succ k=>simp [nth] at hs
 ·cases j with
  |succ j=>simp [nth] at hs
  |zero=>cases k with
   |zero=>exact absurd rfl hjk
   |succ k=>simp [nth] at ht
theorem okId_box'{X:List Nat}{H0:LHeap}{i:Nat}{cs:List LV}{e:TypeId}{j:Nat}(h:j∈X\/H0.next<=j)(hn:j≠i):okId X H0 [⟨i,cs,e⟩] j:=by
 refine ⟨h,fun k s hs=> ?_⟩;cases k with
 |zero=>cases hs;exact fun e=>hn e.symm
 |succ k=>simp [nth] at hs
def BldES(e:TypeId)(i:Nat)(a:Option LAddr)(k:Nat)(q:Cap)(H:LHeap):LV->LHeap->Prop:=fun v H'=>PresX [i] H H'/\v=.tuple []/\H'.get i=some (Slot.obj ⟨i,[.ptr (some ⟨i,2,0⟩),.slice a k q],e⟩)
theorem g244{e:TypeId}(he:e=162\/e=164)(i:Nat)(p a:Option LAddr)(k:Nat)(q:Cap)(H:LHeap)(hi:i<H.next)(hg:H.get i=some (Slot.obj ⟨i,[.ptr p,.slice a k q],e⟩))(hp:p=none\/p=some ⟨i,2,0⟩):
  CallL cfg 244 [.ptr (some ⟨i,2,0⟩)] H (BldES e i a k q H):=by
 rcases hp with rfl |rfl
 ·refine e244ga e _ [i] i a k q H (inv_box' hi hg (by simp)) fun _=>⟨some ⟨i,2,0⟩,[],H,⟨?_,.refl _ _,fun j hj=>by cases hj⟩,fun _=>⟨some ⟨i,2,0⟩,[],H,⟨?_,.refl _ _,fun j hj=>by cases hj⟩,fun H4 p4 hI=>⟨hI.pres,rfl,?_⟩⟩⟩
  ·show (match convertL cfg.P H 160 290 (.ptr (some ⟨i,2,0⟩)) with |some (x,H')=>some [(LNext.value x,H')] |none=>none)=_;have:convertL cfg.P H 160 290 (.ptr (some ⟨i,2,0⟩))=some (.ptr (some ⟨i,2,0⟩),H):=by
    unfold convertL;rw [show cfg.P.underlying 160=some (.pointer 162) by kernel_rfl,show cfg.P.underlying 290=some .unsafePointer by kernel_rfl];simp only [hg,Slot.obj,show sizeOfT cfg.P 162=some 2 by kernel_rfl];rfl
   rw [this]
  ·show (match convertL cfg.P H 290 160 (.ptr (some ⟨i,2,0⟩)) with |some (x,H')=>some [(LNext.value x,H')] |none=>none)=_;have:convertL cfg.P H 290 160 (.ptr (some ⟨i,2,0⟩))=some (.ptr (some ⟨i,2,0⟩),H):=by
    unfold convertL;rw [show cfg.P.underlying 160=some (.pointer 162) by kernel_rfl,show cfg.P.underlying 290=some .unsafePointer by kernel_rfl];simp only [hg,Slot.obj,show sizeOfT cfg.P 162=some 2 by kernel_rfl,List.length_cons,List.length_nil];rw [if_pos (show (Nat.beq 2 2&&liesAt cfg.P cfg.P.depth e (2 / cfg.P.cellsOf e) 0 162 1)=true by rcases he with rfl |rfl<;>kernel_rfl)]
   rw [this]
  ·exact (hI.slot 0 _ rfl).2.1
 ·refine e244gb e _ [i] i a k q H (inv_box' hi hg (by simp)) fun _=>⟨false,[],H,⟨?_,.refl _ _,fun j hj=>by cases hj⟩,fun h=>(by cases h),fun _ hI=>⟨hI.pres,rfl,(hI.slot 0 _ rfl).2.1⟩⟩;have he:eqL cfg.P 50 160 (.ptr (some ⟨i,2,0⟩)) (.ptr (some ⟨i,2,0⟩))=some true:=by
   unfold eqL;rw [show cfg.P.underlying 160=some (.pointer 162) by kernel_rfl];simp only [show sizeOfT cfg.P 162=some 2 by kernel_rfl,Nat.beq_refl,Bool.and_self,if_true]
  have hb:binL cfg.P .neq 160 (.ptr (some ⟨i,2,0⟩)) (.ptr (some ⟨i,2,0⟩)) false false=some (.bool false):=by
   unfold binL;simp only [he,show aggOk cfg.P 160 (.ptr (some ⟨i,2,0⟩)) (.ptr (some ⟨i,2,0⟩)) false false=true from rfl,if_true,Option.map_some,Bool.not_true]
  show (match binL cfg.P .neq 160 (.ptr (some ⟨i,2,0⟩)) (.ptr (some ⟨i,2,0⟩)) false false with |some x=>some [(LNext.value x,H)] |none=>none)=_;rw [hb]
structure BldE (e:TypeId) (H:LHeap) (i:Nat) (p a:Option LAddr) (n:Nat) (q:Cap) (s:List UInt8):Prop where
 lt:i<H.next
 get:H.get i=some (Slot.obj ⟨i,[.ptr p,.slice a n q],e⟩)
 row:RowAt H 5 1 a n q (bcs s)
 me:p=none\/p=some ⟨i,2,0⟩
 ne:∀ad,a=some ad->ad.id≠i
 pos:∀ad,a=some ad->0<n/\q=.free 1
theorem BldE.len{e:TypeId}{H:LHeap}{i:Nat}{p a:Option LAddr}{n:Nat}{q:Cap}{s:List UInt8}(h:BldE e H i p a n q s):n=s.length:=by
 have:=h.row.len;rw [bcs_len] at this;omega
def idl':Option LAddr->List Nat
 |some ad=>[ad.id]
 |none=>[]
theorem BldE.on{e:TypeId}{H H':LHeap}{i:Nat}{p a:Option LAddr}{n:Nat}{q:Cap}{s:List UInt8}(h:BldE e H i p a n q s){X:List Nat}(k:PresX X H H')(h1:i∉X)(h2:∀ad,a=some ad->ad.id∉X):BldE e H' i p a n q s:=
 ⟨Nat.lt_of_lt_of_le h.lt k.next,by rw [(k.keep i h.lt h1).get];exact h.get,
  h.row.on k.next (fun ad e=>by subst e;exact k.keep _ h.row.id (h2 _ rfl)) (fun ad e _=>by subst e;exact (k.keep _ h.row.id (h2 _ rfl)).get),h.me,h.ne,h.pos⟩
def BldEW(e:TypeId)(i:Nat)(a:Option LAddr)(t:List UInt8)(v:LV)(H:LHeap):LV->LHeap->Prop:=fun w H'=>w=v/\PresX (i::idl' a) H H'/\∃a' n' q',BldE e H' i (some ⟨i,2,0⟩) a' n' q' t/\∀ad',a'=some ad'->(∃ad,a=some ad/\ad.id=ad'.id)\/H.next<=ad'.id
theorem BldEW.use{e:TypeId}{i:Nat}{a:Option LAddr}{t:List UInt8}{v:LV}{H:LHeap}{sh:Sh}(h:hasSh sh v):∀w H',BldEW e i a t v H w H'->PresX (i::idl' a) H H'/\hasSh sh w/\∃cs,hasSh (.agg [.ptr,.slice]) (.agg cs)/\List.length cs=2/\H'.get i=some (Slot.obj ⟨i,cs,e⟩):=by
 rintro w H' ⟨rfl,hp,a',n',q',hb,_⟩;exact ⟨hp,h,_,⟨_,_,_,_,rfl⟩,rfl,hb.get⟩
theorem app_str'{H:LHeap}{a:Option LAddr}{n:Nat}{q:Cap}{t:List UInt8}{r:LV}:appendL cfg.P H [155,9] [.slice a n q,.str t]=appendL cfg.P H [155,155] [.slice a n q,.str t]:=by
 unfold appendL;simp only [show isIntT cfg.P 9=false by kernel_rfl,show isIntT cfg.P 155=false by kernel_rfl,show (cfg.P.underlying 9).isNone=false by kernel_rfl,show (cfg.P.underlying 155).isNone=false by kernel_rfl]
theorem takeN_all'{α:Type}(l:List α):takeN l.length l=some l:=by rw [takeN_of _ _ (Nat.le_refl _),List.take_length]
theorem app_nil'{H:LHeap}{a:Option LAddr}{n:Nat}{q:Cap}:appendL cfg.P H [155,155] [.slice a n q,.str []]=some (.slice a n q,H):=by
 unfold appendL;simp only [rowTB'.elem,rowTB'.sized,rowTB'.bytes,rowTB'.noInt,rowTB'.und,Bool.false_eq_true,if_false];rfl
theorem row_str'{H:LHeap}{a:Option LAddr}{n:Nat}{q:Cap}{s:List UInt8}(h:RowAt H 5 1 a n q (bcs s))(hp:∀ad,a=some ad->0<n/\q=.free 1)(t:List UInt8)(hb:n+t.length<=1000000000):
  ∃Y a' q' H',appendL cfg.P H [155,155] [.slice a n q,.str t]=some (.slice a' (n+t.length) q',H')/\PresX Y H H'/\RowAt H' 5 1 a' (n+t.length) q' (bcs (s++t))/\(∀i∈Y,∃ad,a=some ad/\ad.id=i)/\
   (∀ad',a'=some ad'->(∃ad,a=some ad/\ad.id=ad'.id)\/H.next<=ad'.id)/\(∀ad',a'=some ad'->0<n+t.length/\q'=.free 1):=by
 cases t with
 |nil=>exact ⟨[],a,q,H,app_nil',.refl _ _,by simpa using h,(fun i hi=>by cases hi),fun ad' h=>.inl ⟨ad',h,rfl⟩,fun ad h=>hp ad h⟩
 |cons b t=>
  have hnc:∀l:List UInt8,allCells (bcs l)=true:=by
   intro l;unfold bcs;induction l with
   |nil=>rfl
   |cons b l ih=>exact ih
  obtain ⟨Y,a',q',H9,e9,p9,r9,hY,ha,hq⟩:=h.append2 rowTB' (x:=.str (b::t)) (m:=(b::t).length) (new:=bcs (b::t)) rfl (by unfold firstCellsL;simp only [Nat.beq_refl,if_true,takeN_all',Option.map_some];rfl) (by rw [bcs_len];omega) (hnc _) (by omega);exact ⟨Y,a',q',H9,e9,p9,by rw [bcs_app];exact r9,hY,ha,fun _ _=>⟨by simp;omega,hq (by simp)⟩⟩
theorem g161{e:TypeId}(he:e=162\/e=164)(i:Nat){p a:Option LAddr}{n:Nat}{q:Cap}{s:List UInt8}(t:List UInt8)(H:LHeap)(h:BldE e H i p a n q s)(hl:s.length+t.length<=1000000000):
  CallL cfg 161 [.ptr (some ⟨i,2,0⟩),.str t] H (BldEW e i a (s++t) (.tuple [.int .i64 ((t.length:Nat):Int),.nilIface]) H):=by
 refine e161g e _ (i::idl' a) i p a n q t H (inv_box' h.lt h.get (by simp)) fun _=>⟨_,g244 he i p a n q H h.lt h.get h.me,fun v H' ⟨h1,h2,h3⟩=>⟨h1,by rw [h2];exact rfl,_,⟨_,_,_,_,rfl⟩,rfl,h3⟩,fun p1 a2 l3 c4 H5 ⟨p5,_,g5⟩ g5' hI5=> ?_⟩;rw [g5'] at g5;simp only [Option.some.injEq,Slot.obj,LObj.cells.injEq,List.cons.injEq,LV.ptr.injEq,LV.slice.injEq,and_true] at g5;obtain ⟨⟨rfl,rfl,rfl,rfl⟩,_⟩:=g5;have r5:RowAt H5 5 1 a2 l3 c4 (bcs s):=h.row.on p5.next (fun ad e=>by subst e;exact p5.keep _ h.row.id (by simpa using h.ne _ rfl)) (fun ad e _=>by subst e;exact (p5.keep _ h.row.id (by simpa using h.ne _ rfl)).get);have hn:=h.len;obtain ⟨Y,a',q',H9,e9,p9,r9,hY,ha,hpos⟩:=row_str' r5 h.pos t (by omega);have ne9:∀ad',a'=some ad'->ad'.id≠i:=by
  intro ad' e;rcases ha ad' e with ⟨ad,e1,e2⟩ |e1
  ·rw [<-e2];exact h.ne _ e1
  ·exact fun e=>Nat.lt_irrefl _ (Nat.lt_of_lt_of_le (by rw [e];exact Nat.lt_of_lt_of_le h.lt p5.next) e1)
 refine ⟨Y,a',l3+t.length,q',H9,⟨by rw [app_str' (r:=.undef)];exact e9,p9,fun j hj=> ?_⟩,fun H10 p10 hI=>⟨rfl,hI.pres,a',l3+t.length,q',⟨Nat.lt_of_lt_of_le h.lt hI.pres.next,(hI.slot 0 _ rfl).2.1,?_,.inr rfl,ne9,hpos⟩,fun ad' e=> ?_⟩⟩
 ·obtain ⟨ad,e1,e2⟩:=hY j hj;subst e1;exact okId_box' (.inl (by simp [idl',e2])) (by rw [<-e2];exact h.ne _ rfl)
 ·exact r9.on p10.next (fun ad e=>by subst e;exact p10.keep _ r9.id (by simpa using ne9 _ rfl)) (fun ad e _=>by subst e;exact (p10.keep _ r9.id (by simpa using ne9 _ rfl)).get)
 ·rcases ha ad' e with e1 |e1
  ·exact .inl e1
  ·exact .inr (Nat.le_trans p5.next e1)
theorem g160{e:TypeId}(he:e=162\/e=164)(i:Nat){p a:Option LAddr}{n:Nat}{q:Cap}{s:List UInt8}(c:UInt8)(H:LHeap)(h:BldE e H i p a n q s)(hl:s.length<=1000000000):
  CallL cfg 160 [.ptr (some ⟨i,2,0⟩),.int .u8 (c.toNat:Int)] H (BldEW e i a (s++[c]) .nilIface H):=by
 refine e160g e _ (i::idl' a) i p a n q _ H (inv_box' h.lt h.get (by simp)) fun _=>⟨_,g244 he i p a n q H h.lt h.get h.me,fun v H' ⟨h1,h2,h3⟩=>⟨h1,by rw [h2];exact rfl,_,⟨_,_,_,_,rfl⟩,rfl,h3⟩,fun p1 a2 l3 c4 H5 ⟨p5,_,g5⟩ g5' H6 e6 hI6=> ?_⟩;rw [g5'] at g5;simp only [Option.some.injEq,Slot.obj,LObj.cells.injEq,List.cons.injEq,LV.ptr.injEq,LV.slice.injEq,and_true] at g5;obtain ⟨⟨rfl,rfl,rfl,rfl⟩,_⟩:=g5;have p6:PresX [] H5 H6:=by rw [e6];exact .push _ _ _
 have p56:PresX [i] H H6:=p5.trans p6 (fun j hj=>by cases hj);have r5:RowAt H6 5 1 a2 l3 c4 (bcs s):=h.row.on p56.next (fun ad e=>by subst e;exact p56.keep _ h.row.id (by simpa using h.ne _ rfl)) (fun ad e _=>by subst e;exact (p56.keep _ h.row.id (by simpa using h.ne _ rfl)).get);have hn:=h.len;have hload:loadN H6 ⟨H5.next,1,0⟩ 1=some [.int .u8 (c.toNat:Int)]:=by
  unfold loadN;rw [e6,LHeap.get_push,if_pos rfl];rfl
 obtain ⟨Y,a',q',H9,e9,p9,r9,hY,ha,hq⟩:=r5.append2 rowTB' (x:=.slice (some ⟨H5.next,1,0⟩) 1 (.exact 1)) (m:=1) (new:=bcs [c]) rfl (by unfold firstCellsL;exact hload) rfl rfl (by omega);have ne9:∀ad',a'=some ad'->ad'.id≠i:=by
  intro ad' e;rcases ha ad' e with ⟨ad,e1,e2⟩ |e1
  ·rw [<-e2];exact h.ne _ e1
  ·exact fun e=>Nat.lt_irrefl _ (Nat.lt_of_lt_of_le (by rw [e];exact Nat.lt_of_lt_of_le h.lt (Nat.le_of_lt (by rw [e6];exact Nat.lt_of_le_of_lt p5.next (Nat.lt_succ_self _)))) e1)
 refine ⟨Y,a',l3+1,q',H9,⟨e9,p9,fun j hj=> ?_⟩,fun H10 p10 hI=>⟨rfl,hI.pres,a',l3+1,q',⟨Nat.lt_of_lt_of_le h.lt hI.pres.next,(hI.slot 0 _ rfl).2.1,?_,.inr rfl,ne9,fun _ _=>⟨by omega,hq (by omega)⟩⟩,fun ad' e=> ?_⟩⟩
 ·obtain ⟨ad,e1,e2⟩:=hY j hj;subst e1;exact okId_box' (.inl (by simp [idl',e2])) (by rw [<-e2];exact h.ne _ rfl)
 ·rw [bcs_app];exact r9.on p10.next (fun ad e=>by subst e;exact p10.keep _ r9.id (by simpa using ne9 _ rfl)) (fun ad e _=>by subst e;exact (p10.keep _ r9.id (by simpa using ne9 _ rfl)).get)
 ·rcases ha ad' e with e1 |e1
  ·exact .inl e1
  ·exact .inr (Nat.le_trans p56.next e1)
theorem g112{e:TypeId}(he:e=162\/e=164)(i:Nat){p a:Option LAddr}{n:Nat}{q:Cap}{s:List UInt8}(H:LHeap)(h:BldE e H i p a n q s)(hl:s.length<=1000000000):
  CallL cfg 112 [.ptr (some ⟨i,2,0⟩)] H (fun v H'=>PresX (idl' a) H H'/\v=.str s):=by
 have hn:=h.len;have hg:=h.get;have hrow:=h.row;cases a with
 |none=>
  have h0:n=0/\q=.exact 0:=by
   generalize bcs s=cs at hrow;cases hrow;exact ⟨rfl,rfl⟩
  obtain ⟨rfl,rfl⟩:=h0;have hs:s=[]:=List.eq_nil_of_length_eq_zero (by omega);subst hs;refine e112gn e _ [i] i p H (inv_box' h.lt hg (by simp)) fun _=>⟨none,[],H,⟨rfl,.refl _ _,fun j hj=>by cases hj⟩,rfl,fun _=>⟨[],[],H,⟨rfl,.refl _ _,fun j hj=>by cases hj⟩,fun hI=>⟨.refl _ _,rfl⟩⟩⟩
 |some ad=>
  obtain ⟨hpos,rfl⟩:=h.pos ad rfl;obtain ⟨k,rfl⟩:∃k,n=k+1:=⟨n-1,by omega⟩;have hload:loadN H ad (k+1)=some (bcs s):=by
   have:=hrow.loadAll;unfold firstCellsL at this;simpa using this
  have hobj:∃m,H.get ad.id=some (.cells (bcs s) 5 (k+1) m .none false false)/\ad.ver=k+1:=by
   generalize bcs s=cs at hrow;cases hrow with
   |free r n m cs hi h1 h2 h3 h4=>exact ⟨m,by simpa using h1,by simp⟩
  obtain ⟨m,hobj,hver⟩:=hobj;have hfz:freezeL H ad (k+1)=some (H.put ad.id (.cells (bcs s) 5 (k+1) m (.range ad.off (ad.off+(k+1))) false false)):=by
   unfold freezeL;simp only [hobj,hver,Nat.beq_refl,Bool.not_false,Bool.and_self,if_true]
  refine e112gs e _ [i,ad.id] i p ad k (.free 1) H (inv_box' h.lt hg (by simp)) fun _=>⟨some ad,[],H,⟨rfl,.refl _ _,fun j hj=>by cases hj⟩,rfl,fun _=>⟨s,[ad.id],H.put ad.id (.cells (bcs s) 5 (k+1) m (.range ad.off (ad.off+(k+1))) false false),⟨?_,.put _ _ _,fun j hj=> ?_⟩,fun hI=>⟨.put _ _ _,rfl⟩⟩⟩
  ·show (match builtinL cfg H .unsafeString [250,3] [.ptr (some ad),.int .i64 (Int.ofNat (k+1))] with |some x=>some [x] |none=>none)=_;have hbr:byteRow cfg.P 5 [250,3]=true:=by kernel_rfl
   have hble:Nat.ble (k+1) 9223372036854775807=true:=by rw [Nat.ble_eq];omega
   have:builtinL cfg H .unsafeString [250,3] [.ptr (some ad),.int .i64 (Int.ofNat (k+1))]=some (.value (.str s),H.put ad.id (.cells (bcs s) 5 (k+1) m (.range ad.off (ad.off+(k+1))) false false)):=by
    unfold builtinL;simp only [hobj,hbr,hble,Bool.and_self,hload,bytes_bcs,hfz]
   rw [this]
  ·rw [List.mem_singleton.1 hj];exact okId_box' (.inl (by simp)) (h.ne ad rfl)
theorem e314g(R:RR)(X:List Nat)(ii:Nat)(n:Int)(H:LHeap)(hI:Inv X H [(Sk ii [(.ptr none),(.slice none 0 (.exact 0))] 162)] H)
(h:Inv X H [Sk ii [.ptr none,.slice none 0 (.exact 0)] 162] H->∃S0,CallL cfg 244 [.ptr (some (Lk ii 2 0))] H S0/\((∀v H',S0 v H'->PresX [ii] H H'/\(hasSh (.tuple []) v/\(∃cs,hasSh (.cust Nat (fun (j:Nat)=>(.agg [.ptr (some ⟨j,2,0⟩),.slice none 0 (.exact 0)]:LV))) (.agg cs)/\(List.length cs=2/\H'.get ii=some (Slot.obj ⟨ii,cs,162⟩)))))/\(∀y1 H2,S0 (.tuple []) H2->H2.get ii=some (Slot.obj (Sk ii [.ptr (some (Lk y1 2 0)),.slice none 0 (.exact 0)] 162))->Dc (n<0) False (([.slice none 0 (.exact 0),I6 0,.slice none 0 (.exact 0),I6 0]:List LV)=[.slice none 0 (.exact 0),I6 0,.slice none 0 (.exact 0),I6 0]/\(Dc (0<n) (Inv X H [Sk ii [.ptr (some (Lk y1 2 0)),.slice none 0 (.exact 0)] 162] H2->∃S4 Y,CallL cfg 321 [.ptr (some (Lk ii 2 0)),I6 n] H2 S4/\((∀v H',S4 v H'->PresX (ii::Y) H2 H'/\(hasSh (.tuple []) v/\(∃cs,hasSh (.agg [.ptr,.slice]) (.agg cs)/\(List.length cs=2/\H'.get ii=some (Slot.obj ⟨ii,cs,162⟩)))))/\((∀i∈Y,okId X H [Sk ii [.ptr (some (Lk y1 2 0)),.slice none 0 (.exact 0)] 162] i)/\(∀p5 a6 l7 c8 H9,S4 (.tuple []) H9->H9.get ii=some (Slot.obj (Sk ii [.ptr p5,.slice a6 l7 c8] 162))->RX X H [Sk ii [.ptr p5,.slice a6 l7 c8] 162] H9 R (.tuple []))))) (RX X H [Sk ii [.ptr (some (Lk y1 2 0)),.slice none 0 (.exact 0)] 162] H2 R (.tuple []))))))):
 CallL cfg 314 [.ptr (some (Lk ii 2 0)),I6 n] H R:=call_wt (k:=(.go 3 (.facts (.callO 0 (.cust Nat (fun (j:Nat)=>(.agg [.ptr (some ⟨j,2,0⟩),.slice none 0 (.exact 0)]:LV))) (.tuple []) (.go 7 (.cases 7 (.go 3 .need) (.go 17 (.check (.go 1 (.cases 21 (.go 4 (.facts (.callOY 0 (.agg [.ptr,.slice]) (.tuple []) (.go 1 (.facts .ret))))) (.go 2 (.facts .ret)))))))))))) (kn:=[Sk ii [.ptr none,.slice none 0 (.exact 0)] 162]) (args:=[.own 0 0,.lv (I6 n)]) (by kernel_rfl) h hI (fun x hx=>List.all_eq_true.1 (show List.all [.own 0 0,.lv (I6 n)] (inR 1)=true from rfl) x hx)
theorem e321g(R:RR)(X:List Nat)(ii:Nat)(n:Int)(p:(Option LAddr))(H:LHeap)(hI:Inv X H [(Sk ii [(.ptr p),(.slice none 0 (.exact 0))] 162)] H)
(h:([.slice none 0 (.exact 0),I6 0,.slice none 0 (.exact 0),I6 0]:List LV)=[.slice none 0 (.exact 0),I6 0,.slice none 0 (.exact 0),I6 0]/\(Inv X H [Sk ii [.ptr p,.slice none 0 (.exact 0)] 162] H->∃a1 l2 c3 Y H4,(opL cfg (fun (x:Operand)=>denF [Sk ii [.ptr p,.slice none 0 (.exact 0)] 162] (viewS cfg (List.toArray [Oper.mk (some 5) (Op.move (Operand.tmp 0)) 160 "builder.go:67" (List.toArray []) none,Oper.mk (some 6) (Op.nilCheck (Operand.tmp 5)) 0 "builder.go:67" (List.toArray [Edge.mk 0 Go.Ground.data]) none,Oper.mk (some 7) (Op.fieldAddr 162 (Operand.tmp 6) 1) 0 "builder.go:67" (List.toArray [Edge.mk 1 Go.Ground.data]) none,Oper.mk (some 8) (Op.load 155 (Operand.tmp 7)) 155 "builder.go:67" (List.toArray [Edge.mk 2 Go.Ground.data]) none,Oper.mk (some 9) (Op.call (Call.mk (Callee.builtin Go.Builtin.cap) (List.toArray [Operand.tmp 8]) (List.toArray [155]))) 3 "builder.go:67" (List.toArray [Edge.mk 3 Go.Ground.data]) none,Oper.mk (some 10) (Op.binOp Go.BinOp.mul 3 (Operand.const (Value.int .i64 2)) (Operand.tmp 9) 3) 3 "builder.go:67" (List.toArray [Edge.mk 4 Go.Ground.data]) none,Oper.mk (some 11) (Op.move (Operand.tmp 1)) 3 "builder.go:67" (List.toArray []) none,Oper.mk (some 12) (Op.binOp Go.BinOp.add 3 (Operand.tmp 10) (Operand.tmp 11) 3) 3 "builder.go:67" (List.toArray [Edge.mk 5 Go.Ground.data,Edge.mk 6 Go.Ground.data]) none,Oper.mk (some 13) (Op.call (Call.mk (Callee.value (Operand.func 325)) (List.toArray [Operand.tmp 12]) (List.toArray [3]))) 155 "builder.go:67" (List.toArray [Edge.mk 7 Go.Ground.data]) none,Oper.mk (some 14) (Op.move (Operand.tmp 0)) 160 "builder.go:67" (List.toArray []) none,Oper.mk (some 15) (Op.nilCheck (Operand.tmp 14)) 0 "builder.go:67" (List.toArray [Edge.mk 9 Go.Ground.data]) none,Oper.mk (some 16) (Op.fieldAddr 162 (Operand.tmp 15) 1) 0 "builder.go:67" (List.toArray [Edge.mk 10 Go.Ground.data]) none,Oper.mk (some 17) (Op.load 155 (Operand.tmp 16)) 155 "builder.go:67" (List.toArray [Edge.mk 11 Go.Ground.data]) none,Oper.mk (some 18) (Op.call (Call.mk (Callee.builtin Go.Builtin.len) (List.toArray [Operand.tmp 17]) (List.toArray [155]))) 3 "builder.go:67" (List.toArray [Edge.mk 12 Go.Ground.data]) none,Oper.mk (some 19) (Op.slice 155 (Operand.tmp 13) none (some (Operand.tmp 18)) none) 155 "builder.go:67" (List.toArray [Edge.mk 8 Go.Ground.data,Edge.mk 13 Go.Ground.data]) none,Oper.mk (some 4) (Op.assign (Operand.tmp 19)) 155 "builder.go:67" (List.toArray [Edge.mk 14 Go.Ground.data,Edge.mk 8 Go.Ground.chain,Edge.mk 0 Go.Ground.phase,Edge.mk 1 Go.Ground.phase,Edge.mk 2 Go.Ground.phase,Edge.mk 3 Go.Ground.phase,Edge.mk 4 Go.Ground.phase,Edge.mk 5 Go.Ground.phase,Edge.mk 6 Go.Ground.phase,Edge.mk 7 Go.Ground.phase,Edge.mk 8 Go.Ground.phase,Edge.mk 9 Go.Ground.phase,Edge.mk 10 Go.Ground.phase,Edge.mk 11 Go.Ground.phase,Edge.mk 12 Go.Ground.phase,Edge.mk 13 Go.Ground.phase,Edge.mk 14 Go.Ground.phase]) none]) (befs (Array.toList (List.toArray [Oper.mk (some 5) (Op.move (Operand.tmp 0)) 160 "builder.go:67" (List.toArray []) none,Oper.mk (some 6) (Op.nilCheck (Operand.tmp 5)) 0 "builder.go:67" (List.toArray [Edge.mk 0 Go.Ground.data]) none,Oper.mk (some 7) (Op.fieldAddr 162 (Operand.tmp 6) 1) 0 "builder.go:67" (List.toArray [Edge.mk 1 Go.Ground.data]) none,Oper.mk (some 8) (Op.load 155 (Operand.tmp 7)) 155 "builder.go:67" (List.toArray [Edge.mk 2 Go.Ground.data]) none,Oper.mk (some 9) (Op.call (Call.mk (Callee.builtin Go.Builtin.cap) (List.toArray [Operand.tmp 8]) (List.toArray [155]))) 3 "builder.go:67" (List.toArray [Edge.mk 3 Go.Ground.data]) none,Oper.mk (some 10) (Op.binOp Go.BinOp.mul 3 (Operand.const (Value.int .i64 2)) (Operand.tmp 9) 3) 3 "builder.go:67" (List.toArray [Edge.mk 4 Go.Ground.data]) none,Oper.mk (some 11) (Op.move (Operand.tmp 1)) 3 "builder.go:67" (List.toArray []) none,Oper.mk (some 12) (Op.binOp Go.BinOp.add 3 (Operand.tmp 10) (Operand.tmp 11) 3) 3 "builder.go:67" (List.toArray [Edge.mk 5 Go.Ground.data,Edge.mk 6 Go.Ground.data]) none,Oper.mk (some 13) (Op.call (Call.mk (Callee.value (Operand.func 325)) (List.toArray [Operand.tmp 12]) (List.toArray [3]))) 155 "builder.go:67" (List.toArray [Edge.mk 7 Go.Ground.data]) none,Oper.mk (some 14) (Op.move (Operand.tmp 0)) 160 "builder.go:67" (List.toArray []) none,Oper.mk (some 15) (Op.nilCheck (Operand.tmp 14)) 0 "builder.go:67" (List.toArray [Edge.mk 9 Go.Ground.data]) none,Oper.mk (some 16) (Op.fieldAddr 162 (Operand.tmp 15) 1) 0 "builder.go:67" (List.toArray [Edge.mk 10 Go.Ground.data]) none,Oper.mk (some 17) (Op.load 155 (Operand.tmp 16)) 155 "builder.go:67" (List.toArray [Edge.mk 11 Go.Ground.data]) none,Oper.mk (some 18) (Op.call (Call.mk (Callee.builtin Go.Builtin.len) (List.toArray [Operand.tmp 17]) (List.toArray [155]))) 3 "builder.go:67" (List.toArray [Edge.mk 12 Go.Ground.data]) none,Oper.mk (some 19) (Op.slice 155 (Operand.tmp 13) none (some (Operand.tmp 18)) none) 155 "builder.go:67" (List.toArray [Edge.mk 8 Go.Ground.data,Edge.mk 13 Go.Ground.data]) none,Oper.mk (some 4) (Op.assign (Operand.tmp 19)) 155 "builder.go:67" (List.toArray [Edge.mk 14 Go.Ground.data,Edge.mk 8 Go.Ground.chain,Edge.mk 0 Go.Ground.phase,Edge.mk 1 Go.Ground.phase,Edge.mk 2 Go.Ground.phase,Edge.mk 3 Go.Ground.phase,Edge.mk 4 Go.Ground.phase,Edge.mk 5 Go.Ground.phase,Edge.mk 6 Go.Ground.phase,Edge.mk 7 Go.Ground.phase,Edge.mk 8 Go.Ground.phase,Edge.mk 9 Go.Ground.phase,Edge.mk 10 Go.Ground.phase,Edge.mk 11 Go.Ground.phase,Edge.mk 12 Go.Ground.phase,Edge.mk 13 Go.Ground.phase,Edge.mk 14 Go.Ground.phase]) none])) []) 8 (List.map (denF [Sk ii [.ptr p,.slice none 0 (.exact 0)] 162]) [.own 0 0,.lv (I6 n),.lv (.tuple []),.lv (.tuple []),.lv (.tuple []),.lv (.tuple []),.lv (.tuple []),.lv (.tuple []),.lv (.tuple []),.lv (.tuple []),.lv (.tuple []),.lv (.tuple []),.lv (.tuple []),.lv (.tuple []),.lv (.tuple []),.lv (.tuple []),.lv (.tuple []),.lv (.tuple []),.lv (.tuple []),.lv (.tuple []),.lv (.tuple []),.lv (.tuple []),.lv (.tuple []),.lv (.tuple []),.lv (.tuple []),.lv (.tuple []),.lv (.tuple []),.lv (.tuple []),.lv (.tuple []),.lv (.tuple [])]) [.own 0 0,.lv (I6 n),.lv (.tuple []),.lv (.tuple []),.lv (.tuple []),.own 0 0,.own 0 0,.own 0 1,.lv (.slice none 0 (.exact 0)),.lv (I6 0),.lv (I6 0),.lv (I6 n),.lv (I6 (lwrap .i64 (0+n))),.lv (.tuple []),.own 0 0,.own 0 0,.own 0 1,.lv (.slice none 0 (.exact 0)),.lv (I6 0),.lv (.tuple []),.lv (.tuple []),.lv (.tuple []),.lv (.tuple []),.lv (.tuple []),.lv (.tuple []),.lv (.tuple []),.lv (.tuple []),.lv (.tuple []),.lv (.tuple []),.lv (.tuple [])] x)) H (Oper.mk (some 13) (Op.call (Call.mk (Callee.value (Operand.func 325)) (List.toArray [Operand.tmp 12]) (List.toArray [3]))) 155 "builder.go:67" (List.toArray [Edge.mk 7 Go.Ground.data]) none)=some [(.value (.slice a1 l2 c3),H4)]/\(PresX Y H H4/\(∀i∈Y,okId X H [Sk ii [.ptr p,.slice none 0 (.exact 0)] 162] i)))/\(∃a6 l7 c8,(sliceL cfg.P 155 (.slice a1 l2 c3) none (some (I6 0)) none)=(some (.slice a6 l7 c8))/\(([.slice none 0 (.exact 0),I6 0]:List LV)=[.slice none 0 (.exact 0),I6 0]/\(Inv X H [Sk ii [.ptr p,.slice none 0 (.exact 0)] 162] H4->∃n10 Y H11,(opL cfg (fun (x:Operand)=>denF [Sk ii [.ptr p,.slice none 0 (.exact 0)] 162] (evalS cfg [.own 0 0,.lv (I6 n),.lv (.tuple []),.lv (.tuple []),.lv (.slice a6 l7 c8),.own 0 0,.own 0 0,.own 0 1,.lv (.slice none 0 (.exact 0)),.lv (I6 0),.lv (I6 0),.lv (I6 n),.lv (I6 (lwrap .i64 (0+n))),.lv (.slice a1 l2 c3),.own 0 0,.own 0 0,.own 0 1,.lv (.slice none 0 (.exact 0)),.lv (I6 0),.lv (.slice a6 l7 c8),.lv (.slice a6 l7 c8),.own 0 0,.own 0 0,.own 0 1,.lv (.slice none 0 (.exact 0)),.lv (.tuple []),.lv (.tuple []),.lv (.tuple []),.lv (.tuple []),.lv (.tuple [])] x)) H4 (Oper.mk (some 25) (Op.call (Call.mk (Callee.builtin Go.Builtin.copy) (List.toArray [Operand.tmp 20,Operand.tmp 24]) (List.toArray [155,155]))) 3 "builder.go:68" (List.toArray [Edge.mk 0 Go.Ground.data,Edge.mk 4 Go.Ground.data]) none)=some [(.value (I6 n10),H11)]/\(PresX Y H4 H11/\(∀i∈Y,okId X H [Sk ii [.ptr p,.slice none 0 (.exact 0)] 162] i)))/\(PX [ii] H11 fun H12=>RX X H [Sk ii [.ptr p,.slice a6 l7 c8] 162] H12 R (.tuple []))))))):
 CallL cfg 321 [.ptr (some (Lk ii 2 0)),I6 n] H R:=call_wt (k:=(.go 15 (.check (.facts (.any .slice (.op .slice (.go 1 (.check (.go 8 (.facts (.any (.int .i64) (.go 6 (.putP (.go 1 (.facts .ret))))))))))))))) (kn:=[Sk ii [.ptr p,.slice none 0 (.exact 0)] 162]) (args:=[.own 0 0,.lv (I6 n)]) (by kernel_rfl) h hI (fun x hx=>List.all_eq_true.1 (show List.all [.own 0 0,.lv (I6 n)] (inR 1)=true from rfl) x hx)
structure GB (H:LHeap) (i r N:Nat) (s:List UInt8):Prop where
 lt:i<H.next
 get:H.get i=some (Slot.obj ⟨i,[.ptr (some ⟨i,2,0⟩),.slice (some ⟨r,N,0⟩) s.length (.free 1)],162⟩)
 row:∃J m,H.get r=some (.cells (bcs s++J) 5 N m .none false false)/\m<=N/\s.length+J.length=N
 ne:r≠i
 rl:r<H.next
theorem repl_one(n:Nat)(z:LV):repl n [z] []=List.replicate n z:=by
 rw [repl_eq,List.append_nil];induction n with
 |zero=>rfl
 |succ n ih=>rw [List.replicate_succ,List.flatten_cons,ih];rfl
theorem allCells_junk(n:Nat):allCells (List.replicate n LV.junk)=true:=by
 induction n with
 |zero=>rfl
 |succ n ih=>rw [List.replicate_succ];simp [allCells,LV.isCell,ih]
theorem allCells_bcs(l:List UInt8):allCells (bcs l)=true:=by
 unfold bcs;induction l with
 |nil=>rfl
 |cons b l ih=>exact ih
theorem q321(i N:Nat)(p:Option LAddr)(H:LHeap)(hi:i<H.next)(hN:N<=100000)(hg:H.get i=some (Slot.obj ⟨i,[.ptr p,.slice none 0 (.exact 0)],162⟩)):
  CallL cfg 321 [.ptr (some ⟨i,2,0⟩),.int .i64 (N:Int)] H (fun v H'=>v=.tuple []/\PresX [i] H H'/\H.next<H'.next/\H'.get i=some (Slot.obj ⟨i,[.ptr p,.slice (some ⟨H.next,N,0⟩) 0 (.free 1)],162⟩)/\
   H'.get H.next=some (.cells (List.replicate N .junk) 5 N N .none false false)):=by
 have hne:H.next≠i:=by omega
 refine e321g _ [i] i N p H (inv_box' hi hg (by simp)) ⟨rfl,fun _=>⟨some ⟨H.next,N,0⟩,N,.free 1,[],H.push (.cells (List.replicate N .junk) 5 N N .none false false),⟨?_,.push _ _ _,fun j hj=>by cases hj⟩,some ⟨H.next,N,0⟩,0,.free 1,?_,rfl,fun _=>⟨0,[],H.push (.cells (List.replicate N .junk) 5 N N .none false false),⟨?_,.refl _ _,fun j hj=>by cases hj⟩,fun H13 p13 hI=>⟨rfl,hI.pres,?_,(hI.slot 0 _ rfl).2.1,?_⟩⟩⟩⟩
 ·have:extL cfg.P H (.makeNoZero 155) [.int .i64 (N:Int)]=some (.slice (some ⟨H.next,N,0⟩) N (.free 1),H.push (.cells (List.replicate N .junk) 5 N N .none false false)):=by
   show (match elemOfSlice cfg.P 155 with |some e=>if Nat.ble N 1000000 then match Go.Lm.newRow H e (repl N [.junk] []) false with |some (a,H')=>some (LV.slice (some a) N (.free 1),H') |none=>none else none |none=>none)=_;rw [show elemOfSlice cfg.P 155=some 5 by kernel_rfl];simp only [show Nat.ble N 1000000=true by rw [Nat.ble_eq];omega,if_true,repl_one,newRow_get (allCells_junk N),List.length_replicate]
  have hw:lwrap .i64 (lwrap .i64 (2*0)+(N:Int))=(N:Int):=by rw [show lwrap .i64 (2*0)=0 from rfl,lwrap_small (by omega) (by omega)];omega
  show (match (match extL cfg.P H (.makeNoZero 155) [.int .i64 (lwrap .i64 (lwrap .i64 (2*0)+(N:Int)))] with |some (x,H')=>some (LNext.value x,H') |none=>none) with |some x=>some [x] |none=>none)=_;rw [hw,this]
 ·unfold sliceL;rw [show cfg.P.underlying 155=some (.slice 5) by kernel_rfl];simp only [show sizeOfT cfg.P 5=some 1 by kernel_rfl];have:boundO (some (LV.int .i64 0)) (mostOf ⟨H.next,N,0⟩ N 1) N=some 0:=by
   show (if Nat.ble 0 (mostOf ⟨H.next,N,0⟩ N 1) then some 0 else none)=some 0;rw [show Nat.ble 0 (mostOf ⟨H.next,N,0⟩ N 1)=true by rw [Nat.ble_eq];omega];rfl
  simp only [sliceFree,sliceFree2,this];rfl
 ·have:copyL cfg.P (H.push (.cells (List.replicate N .junk) 5 N N .none false false)) [155,155] [.slice (some ⟨H.next,N,0⟩) 0 (.free 1),.slice none 0 (.exact 0)]=some (.int .i64 0,H.push (.cells (List.replicate N .junk) 5 N N .none false false)):=by
   unfold copyL;simp only [show elemOfSlice cfg.P 155=some 5 by kernel_rfl,show sizeOfT cfg.P 5=some 1 by kernel_rfl,lenL];rfl
  show (match (match copyL cfg.P (H.push (.cells (List.replicate N .junk) 5 N N .none false false)) [155,155] [.slice (some ⟨H.next,N,0⟩) 0 (.free 1),.slice none 0 (.exact 0)] with |some (x,H')=>some (LNext.value x,H') |none=>none) with |some x=>some [x] |none=>none)=_;rw [this]
 ·exact Nat.lt_of_lt_of_le (Nat.lt_succ_self _) p13.next
 ·rw [(p13.keep H.next (Nat.lt_succ_self _) (by simpa using hne)).get,LHeap.get_push,if_pos rfl]
theorem q314(i N:Nat)(H:LHeap)(hi:i<H.next)(h1:1<=N)(hN:N<=100000)(hg:H.get i=some (Slot.obj ⟨i,[.ptr none,.slice none 0 (.exact 0)],162⟩)):
  CallL cfg 314 [.ptr (some ⟨i,2,0⟩),.int .i64 (N:Int)] H (fun v H'=>v=.tuple []/\PresX [i] H H'/\∃r,H.next<=r/\GB H' i r N []):=by
 refine e314g _ [i] i N H (inv_box' hi hg (by simp)) fun _=>⟨_,g244 (.inl rfl) i none none 0 (.exact 0) H hi hg (.inl rfl),fun v H' ⟨h1,h2,h3⟩=>⟨h1,by rw [h2];exact rfl,_,⟨i,rfl⟩,rfl,h3⟩,fun y1 H2 ⟨p2,_,g2⟩ g2'=>⟨fun h=>absurd h (by simp),fun _=>⟨rfl,fun _ hI=> ?_,fun h=>absurd h (by simp;omega)⟩⟩⟩;rw [g2'] at g2;simp only [Option.some.injEq,Slot.obj,LObj.cells.injEq,List.cons.injEq,LV.ptr.injEq,LAddr.mk.injEq,and_true,true_and] at g2;obtain rfl:=g2.1;have hi2:=Nat.lt_of_lt_of_le hi p2.next;refine ⟨_,[],q321 y1 N (some ⟨y1,2,0⟩) H2 hi2 hN g2',fun v H' ⟨h1,h2,_,h3,_⟩=>⟨h2,by rw [h1];rfl,_,⟨_,_,_,_,rfl⟩,rfl,h3⟩,(fun j hj=>by cases hj),fun p5 a6 l7 c8 H9 ⟨_,p9,n9,g9,r9⟩ g9' hI=> ?_⟩;refine ⟨rfl,hI.pres,H2.next,p2.next,Nat.lt_of_lt_of_le hi2 p9.next,g9,⟨List.replicate N .junk,N,r9,Nat.le_refl _,by simp⟩,by omega,by omega⟩
theorem GB.on{H H':LHeap}{i r N:Nat}{s:List UInt8}(h:GB H i r N s){X:List Nat}(k:PresX X H H')(h1:i∉X)(h2:r∉X):GB H' i r N s:=by
 obtain ⟨J,m,hr,hm,hl⟩:=h.row;exact ⟨Nat.lt_of_lt_of_le h.lt k.next,by rw [(k.keep i h.lt h1).get];exact h.get,⟨J,m,by rw [(k.keep r h.rl h2).get];exact hr,hm,hl⟩,h.ne,Nat.lt_of_lt_of_le h.rl k.next⟩
theorem gb_app{H:LHeap}{r N:Nat}{s:List UInt8}(hr:∃J m,H.get r=some (.cells (bcs s++J) 5 N m .none false false)/\m<=N/\s.length+J.length=N)(t:List UInt8)(ht:s.length+t.length<=N)(hN:N<=100000):
  ∃H',appendL cfg.P H [155,9] [.slice (some ⟨r,N,0⟩) s.length (.free 1),.str t]=some (.slice (some ⟨r,N,0⟩) (s.length+t.length) (.free 1),H')/\PresX [r] H H'/\
   ∃J m,H'.get r=some (.cells (bcs (s++t)++J) 5 N m .none false false)/\m<=N/\(s++t).length+J.length=N:=by
 rw [app_str' (r:=.undef)];cases t with
 |nil=>exact ⟨H,app_nil',.refl _ _,by rw [List.append_nil];exact hr⟩
 |cons b t=>
  obtain ⟨J,m,hr,hm,hl⟩:=hr;have hJ:J=J.take (b::t).length++J.drop (b::t).length:=(List.take_append_drop _ _).symm;have hov:over s.length (bcs s++J) (bcs (b::t))=some (bcs s++(bcs (b::t)++J.drop (b::t).length)):=by
   have:=over_mid (bcs s) (J.take (b::t).length) (J.drop (b::t).length) (bcs (b::t)) (by rw [List.length_take,bcs_len];omega)
   rwa [<-hJ,bcs_len] at this
  refine ⟨H.put r (.cells (bcs s++(bcs (b::t)++J.drop (b::t).length)) 5 N N .none false false),?_,.put _ _ _,J.drop (b::t).length,N,?_,Nat.le_refl _,?_⟩
  ·have hst:storeN H ⟨r,N,0+s.length*1⟩ (bcs (b::t))=some (H.put r (.cells (bcs s++(bcs (b::t)++J.drop (b::t).length)) 5 N N .none false false)):=by
    have e:bcs (b::t)=.int .u8 (b.toNat:Int)::bcs t:=rfl;unfold storeN;rw [e];simp only [hr];rw [<-e];simp only [Nat.beq_refl,FZ.apart,allCells_bcs,Bool.not_false,Bool.and_self,if_true,Nat.zero_add,Nat.mul_one,hov]
   unfold appendL;simp only [show elemOfSlice cfg.P 155=some 5 by kernel_rfl,show sizeOfT cfg.P 5=some 1 by kernel_rfl,show bytesOfT cfg.P 5=some 1 by kernel_rfl,show isIntT cfg.P 155=false by kernel_rfl,show (cfg.P.underlying 155).isNone=false by kernel_rfl,Bool.false_eq_true,if_false,lenL];have hf:firstCellsL H 1 (b::t).length (.str (b::t))=some (bcs (b::t)):=by
    unfold firstCellsL;simp only [Nat.beq_refl,if_true,takeN_all',Option.map_some];rfl
   simp only [hf];unfold appendCells;obtain ⟨z,hz1,hz2⟩:=rowTB'.zero;have hb0:Nat.beq (b::t).length 0=false:=rfl;have hble:Nat.ble ((2*(s.length+(b::t).length)+1000)*(1+1)) 140737488355328=true:=by rw [Nat.ble_eq];omega
   have hle:Nat.ble (0+(s.length+(b::t).length)*1) N=true:=by rw [Nat.ble_eq];omega
   simp only [hb0,Bool.false_eq_true,if_false,hble,bcs_len,Nat.mul_one,Nat.beq_refl,Bool.and_self,Bool.not_true,hz1,hz2];simp only [Nat.mul_one,Nat.zero_add] at hle;simp only [Nat.zero_add,Nat.mul_one,Nat.beq_refl,Bool.and_self,Bool.not_true,Bool.false_eq_true,if_false,hle,if_true];unfold appendHere;simp only [Nat.mul_one,Nat.zero_add] at hst |-;rw [hst]
  ·rw [LHeap.get_put,if_pos rfl,bcs_app,List.append_assoc]
  ·rw [List.length_append,List.length_drop];omega
theorem q161(i r N:Nat){s:List UInt8}(t:List UInt8)(H:LHeap)(h:GB H i r N s)(ht:s.length+t.length<=N)(hN:N<=100000):
  CallL cfg 161 [.ptr (some ⟨i,2,0⟩),.str t] H (fun v H'=>v=.tuple [.int .i64 ((t.length:Nat):Int),.nilIface]/\PresX [i,r] H H'/\GB H' i r N (s++t)):=by
 refine e161g 162 _ [i,r] i (some ⟨i,2,0⟩) (some ⟨r,N,0⟩) s.length (.free 1) t H (inv_box' h.lt h.get (by simp)) fun _=>⟨_,g244 (.inl rfl) i (some ⟨i,2,0⟩) (some ⟨r,N,0⟩) s.length (.free 1) H h.lt h.get (.inr rfl),fun v H' ⟨h1,h2,h3⟩=>⟨h1,by rw [h2];exact rfl,_,⟨_,_,_,_,rfl⟩,rfl,h3⟩,fun p1 a2 l3 c4 H5 ⟨p5,_,g5⟩ g5' hI5=> ?_⟩;rw [g5'] at g5;simp only [Option.some.injEq,Slot.obj,LObj.cells.injEq,List.cons.injEq,LV.ptr.injEq,LV.slice.injEq,and_true] at g5;obtain ⟨⟨rfl,rfl,rfl,rfl⟩,_⟩:=g5;have hr5:∃J m,H5.get r=some (.cells (bcs s++J) 5 N m .none false false)/\m<=N/\s.length+J.length=N:=by
  obtain ⟨J,m,hr,hm⟩:=h.row;exact ⟨J,m,by rw [(p5.keep r h.rl (by simpa using h.ne)).get];exact hr,hm⟩
 obtain ⟨H9,e9,p9,J,m,hr9,hm9,hl9⟩:=gb_app hr5 t ht hN;refine ⟨[r],_,_,_,H9,⟨e9,p9,fun j hj=> ?_⟩,fun H10 p10 hI=>⟨rfl,hI.pres,⟨Nat.lt_of_lt_of_le h.lt hI.pres.next,?_,⟨J,m,?_,hm9,hl9⟩,h.ne,Nat.lt_of_lt_of_le h.rl hI.pres.next⟩⟩⟩
 ·rw [List.mem_singleton.1 hj];exact okId_box' (.inl (by simp)) h.ne
 ·rw [List.length_append];exact (hI.slot 0 _ rfl).2.1
 ·rw [(p10.keep r (Nat.lt_of_lt_of_le (Nat.lt_of_lt_of_le h.rl p5.next) p9.next) (by simpa using h.ne)).get];exact hr9
end Go.Proofs.YtjihhflffkoffaaGreatDoor.Z
