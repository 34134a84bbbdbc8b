/- Contracts of functions of the program; no condition. -/
import Derived.Test.YtjihhflffkoffaaGreatDoorZ0
import Derived.Test.YtjihhflffkoffaaGreatDoorLe
import Derived.KernelRfl
set_option linter.unusedSimpArgs false
set_option linter.unusedVariables false
set_option linter.unusedSectionVars false
set_option linter.unnecessarySimpa false
namespace Go.Proofs.YtjihhflffkoffaaGreatDoor.Z
open Go Go.Lm
set_option maxRecDepth 1000000
set_option maxHeartbeats 0
structure NameC where
 scope:List UInt8
 name:List UInt8
 text:List UInt8
def NameC.cs(x:NameC):List LV:=[.str x.scope,.str x.name,.str x.text]
def NameC.lv(x:NameC):LV:=.agg x.cs
structure ValC where
 kind:Int
 n:Int
 s:List UInt8
def ValC.cs(x:ValC):List LV:=[.int .i64 x.kind,.int .i64 x.n,.str x.s]
def ValC.lv(x:ValC):LV:=.agg x.cs
structure RefC where
 book:List UInt8
 sheet:List UInt8
 row:Int
 col:Int
 fixRow:Bool
 fixCol:Bool
def RefC.cs(x:RefC):List LV:=[.str x.book,.str x.sheet,.int .i64 x.row,.int .i64 x.col,.bool x.fixRow,.bool x.fixCol]
def RefC.lv(x:RefC):LV:=.agg x.cs
structure NdC where
 kind:Int
 s:List UInt8
 valueKind:Int
 valueN:Int
 valueS:List UInt8
 refBook:List UInt8
 refSheet:List UInt8
 refRow:Int
 refCol:Int
 refFixRow:Bool
 refFixCol:Bool
 toBook:List UInt8
 toSheet:List UInt8
 toRow:Int
 toCol:Int
 toFixRow:Bool
 toFixCol:Bool
 argsA:Option LAddr
 argsL:Nat
 argsQ:Cap
def NdC.cs(x:NdC):List LV:=[.int .i64 x.kind,.str x.s,.int .i64 x.valueKind,.int .i64 x.valueN,.str x.valueS,.str x.refBook,.str x.refSheet,.int .i64 x.refRow,.int .i64 x.refCol,.bool x.refFixRow,.bool x.refFixCol,.str x.toBook,.str x.toSheet,.int .i64 x.toRow,.int .i64 x.toCol,.bool x.toFixRow,.bool x.toFixCol,.slice x.argsA x.argsL x.argsQ]
def NdC.lv(x:NdC):LV:=.agg x.cs
structure PlaceC where
 book:List UInt8
 sheet:List UInt8
 row:Int
 col:Int
def PlaceC.cs(x:PlaceC):List LV:=[.str x.book,.str x.sheet,.int .i64 x.row,.int .i64 x.col]
def PlaceC.lv(x:PlaceC):LV:=.agg x.cs
structure ShiftC where
 at_:Int
 n:Int
 most:Int
def ShiftC.cs(x:ShiftC):List LV:=[.int .i64 x.at_,.int .i64 x.n,.int .i64 x.most]
def ShiftC.lv(x:ShiftC):LV:=.agg x.cs
structure ChangeC where
 book:List UInt8
 sheet:List UInt8
 drop:Bool
 cols:Bool
 shiftAt:Int
 shiftN:Int
 shiftMost:Int
def ChangeC.cs(x:ChangeC):List LV:=[.str x.book,.str x.sheet,.bool x.drop,.bool x.cols,.int .i64 x.shiftAt,.int .i64 x.shiftN,.int .i64 x.shiftMost]
def ChangeC.lv(x:ChangeC):LV:=.agg x.cs
structure TokC where
 kind:Int
 n:Int
 s:List UInt8
 refBook:List UInt8
 refSheet:List UInt8
 refRow:Int
 refCol:Int
 refFixRow:Bool
 refFixCol:Bool
def TokC.cs(x:TokC):List LV:=[.int .i64 x.kind,.int .i64 x.n,.str x.s,.str x.refBook,.str x.refSheet,.int .i64 x.refRow,.int .i64 x.refCol,.bool x.refFixRow,.bool x.refFixCol]
def TokC.lv(x:TokC):LV:=.agg x.cs
structure CellC where
 row:Int
 col:Int
 text:List UInt8
def CellC.cs(x:CellC):List LV:=[.int .i64 x.row,.int .i64 x.col,.str x.text]
def CellC.lv(x:CellC):LV:=.agg x.cs
structure SheetC where
 name:List UInt8
 cellsA:Option LAddr
 cellsL:Nat
 cellsQ:Cap
def SheetC.cs(x:SheetC):List LV:=[.str x.name,.slice x.cellsA x.cellsL x.cellsQ]
def SheetC.lv(x:SheetC):LV:=.agg x.cs
structure BookC where
 sheetsA:Option LAddr
 sheetsL:Nat
 sheetsQ:Cap
 namesA:Option LAddr
 namesL:Nat
 namesQ:Cap
 linksA:Option LAddr
 linksL:Nat
 linksQ:Cap
def BookC.cs(x:BookC):List LV:=[.slice x.sheetsA x.sheetsL x.sheetsQ,.slice x.namesA x.namesL x.namesQ,.slice x.linksA x.linksL x.linksQ]
def BookC.lv(x:BookC):LV:=.agg x.cs
structure LinkC where
 book:List UInt8
 sheet:List UInt8
 row:Int
 col:Int
 valueKind:Int
 valueN:Int
 valueS:List UInt8
def LinkC.cs(x:LinkC):List LV:=[.str x.book,.str x.sheet,.int .i64 x.row,.int .i64 x.col,.int .i64 x.valueKind,.int .i64 x.valueN,.str x.valueS]
def LinkC.lv(x:LinkC):LV:=.agg x.cs
structure PutC where
 sheet:List UInt8
 row:Int
 col:Int
 text:List UInt8
 at_:Int
 cellsA:Option LAddr
 cellsL:Nat
 cellsQ:Cap
def PutC.cs(x:PutC):List LV:=[.str x.sheet,.int .i64 x.row,.int .i64 x.col,.str x.text,.int .i64 x.at_,.slice x.cellsA x.cellsL x.cellsQ]
def PutC.lv(x:PutC):LV:=.agg x.cs
structure TurnC where
 homeBook:List UInt8
 homeSheet:List UInt8
 homeRow:Int
 homeCol:Int
 cBook:List UInt8
 cSheet:List UInt8
 cDrop:Bool
 cCols:Bool
 cShiftAt:Int
 cShiftN:Int
 cShiftMost:Int
 line:LV
 lines:LV
 any:Bool
def TurnC.cs(x:TurnC):List LV:=[.str x.homeBook,.str x.homeSheet,.int .i64 x.homeRow,.int .i64 x.homeCol,.str x.cBook,.str x.cSheet,.bool x.cDrop,.bool x.cCols,.int .i64 x.cShiftAt,.int .i64 x.cShiftN,.int .i64 x.cShiftMost,x.line,x.lines,.bool x.any]
def TurnC.lv(x:TurnC):LV:=.agg x.cs
abbrev RR:=LV->LHeap->Prop
abbrev I6(n:Int):LV:=.int .i64 n
abbrev Sk:=Slot.mk
abbrev Lk:=LAddr.mk
def dl(d:Nat->LV):Nat->Nat->List SV
 |_,0=>[]
 |i,n+1=>.lv (d i)::dl d (i+1) n
abbrev Cd(c:Bool)(P Q:Prop):Prop:=(c=true->P)/\(c=false->Q)
abbrev Dc(p:Prop)[Decidable p](P Q:Prop):Prop:=(decide p=true->P)/\(decide p=false->Q)
abbrev PX(l:List Nat)(H:LHeap)(K:LHeap->Prop):Prop:=∀H',PresX l H H'->K H'
abbrev NX(H:LHeap)(K:Nat->LHeap->Prop):Prop:=∀n H',H.next<=n->PresX [] H H'->K n H'
abbrev CL(f:Nat)(a:List LV)(H:LHeap)(sh:Sh)(K:RR->Prop):Prop:=∃S,CallL cfg f a H S/\(∀v H',S v H'->PresX [] H H'/\hasSh sh v)/\K S
abbrev R0(H:LHeap)(kn:List Slot)(H':LHeap)(R:RR)(v:LV):Prop:=Inv [] H kn H'->R v H'
abbrev RX(X:List Nat)(H:LHeap)(kn:List Slot)(H':LHeap)(R:RR)(v:LV):Prop:=Inv X H kn H'->R v H'
abbrev Ka(f:Nat)(a:List LV)(H:LHeap)(K:Bool->LHeap->Prop):Prop:=∃S,CallL cfg f a H S/\(∀v H',S v H'->PresX [] H H'/\hasSh .bool v)/\∀x0 H',S (.bool x0) H'->K x0 H'
abbrev Kb(f:Nat)(a:List LV)(H:LHeap)(K:(List UInt8)->LHeap->Prop):Prop:=∃S,CallL cfg f a H S/\(∀v H',S v H'->PresX [] H H'/\hasSh .str v)/\∀x0 H',S (.str x0) H'->K x0 H'
abbrev Kc(f:Nat)(a:List LV)(H:LHeap)(K:Int->LHeap->Prop):Prop:=∃S,CallL cfg f a H S/\(∀v H',S v H'->PresX [] H H'/\hasSh (.int .i64) v)/\∀x0 H',S (I6 x0) H'->K x0 H'
abbrev Kd(f:Nat)(a:List LV)(H:LHeap)(K:RefC->Bool->LHeap->Prop):Prop:=∃S,CallL cfg f a H S/\(∀v H',S v H'->PresX [] H H'/\hasSh (.tuple [.cust RefC RefC.lv,.bool]) v)/\∀x0 x1 H',S (.tuple [RefC.lv x0,.bool x1]) H'->K x0 x1 H'
abbrev Ke(f:Nat)(a:List LV)(H:LHeap)(K:TokC->Int->LHeap->Prop):Prop:=∃S,CallL cfg f a H S/\(∀v H',S v H'->PresX [] H H'/\hasSh (.tuple [.cust TokC TokC.lv,.int .i64]) v)/\∀x0 x1 H',S (.tuple [TokC.lv x0,I6 x1]) H'->K x0 x1 H'
abbrev Kf(f:Nat)(a:List LV)(H:LHeap)(K:Int->Bool->LHeap->Prop):Prop:=∃S,CallL cfg f a H S/\(∀v H',S v H'->PresX [] H H'/\hasSh (.tuple [.int .i64,.bool]) v)/\∀x0 x1 H',S (.tuple [I6 x0,.bool x1]) H'->K x0 x1 H'
abbrev Kg(f:Nat)(a:List LV)(H:LHeap)(K:ValC->LHeap->Prop):Prop:=∃S,CallL cfg f a H S/\(∀v H',S v H'->PresX [] H H'/\hasSh (.cust ValC ValC.lv) v)/\∀x0 H',S (ValC.lv x0) H'->K x0 H'
abbrev Kh(f:Nat)(a:List LV)(H:LHeap)(K:NdC->LHeap->Prop):Prop:=∃S,CallL cfg f a H S/\(∀v H',S v H'->PresX [] H H'/\hasSh (.cust NdC NdC.lv) v)/\∀x0 H',S (NdC.lv x0) H'->K x0 H'
abbrev Ki(f:Nat)(a:List LV)(H:LHeap)(K:(List UInt8)->(List UInt8)->Bool->LHeap->Prop):Prop:=∃S,CallL cfg f a H S/\(∀v H',S v H'->PresX [] H H'/\hasSh (.tuple [.str,.str,.bool]) v)/\∀x0 x1 x2 H',S (.tuple [.str x0,.str x1,.bool x2]) H'->K x0 x1 x2 H'
abbrev Kj(f:Nat)(a:List LV)(H:LHeap)(K:(List UInt8)->Bool->LHeap->Prop):Prop:=∃S,CallL cfg f a H S/\(∀v H',S v H'->PresX [] H H'/\hasSh (.tuple [.str,.bool]) v)/\∀x0 x1 H',S (.tuple [.str x0,.bool x1]) H'->K x0 x1 H'
theorem cmp_trans:∀{a b c:List UInt8},cmpBytes a b= -1->cmpBytes b c= -1->cmpBytes a c= -1
 |[],[],_,h,_=>by simp [cmpBytes] at h
 |_::_,[],_,h,_=>by simp [cmpBytes] at h
 |[],_::_,[],_,h=>by simp [cmpBytes] at h
 |[],_::_,_::_,_,_=>by simp [cmpBytes]
 |_::_,_::_,[],_,h=>by simp [cmpBytes] at h
 |a::x,b::y,c::z,h,k=>by
  unfold cmpBytes at h k |-;by_cases hab:a=b
  ·subst hab;by_cases hac:a=c
   ·subst hac;simp at h k |-;exact cmp_trans h k
   ·simp [hac] at k |-;exact k
  ·simp [hab] at h;by_cases hbc:b=c
   ·subst hbc;simp [hab];exact h
   ·simp [hbc] at k;have h1:=UInt8.lt_iff_toNat_lt.1 h;have h2:=UInt8.lt_iff_toNat_lt.1 k;have h3:a≠c:=by rintro rfl;omega
    have h4:a<c:=UInt8.lt_iff_toNat_lt.2 (by omega);simp [h3,h4]
def ncmp(a b:NameC):Int:=if cmpBytes a.scope b.scope=0 then cmpBytes a.name b.name else cmpBytes a.scope b.scope
theorem ncmp_vals(a b:NameC):ncmp a b= -1\/ncmp a b=0\/ncmp a b=1:=by
 unfold ncmp;split<;>exact cmp_vals _ _
theorem ncmp_neg(a b:NameC):ncmp b a= -ncmp a b:=by
 unfold ncmp;have h:=cmp_neg a.scope b.scope;have k:=cmp_neg a.name b.name;have:=cmp_vals a.scope b.scope;by_cases e:cmpBytes a.scope b.scope=0
 ·rw [if_pos e,if_pos (by omega)];exact k
 ·rw [if_neg e,if_neg (by omega)];exact h
theorem ncmp_zero{a b:NameC}:ncmp a b=0↔a.scope=b.scope/\a.name=b.name:=by
 unfold ncmp;constructor
 ·intro h;split at h
  ·rename_i e;exact ⟨cmp_zero e,cmp_zero h⟩
  ·rename_i e;exact absurd h e
 ·rintro ⟨h,k⟩;rw [h,k,cmp_self,if_pos rfl,cmp_self]
theorem ncmp_trans{a b c:NameC}(h:ncmp a b= -1)(k:ncmp b c= -1):ncmp a c= -1:=by
 unfold ncmp at h k |-;by_cases e:cmpBytes a.scope b.scope=0
 ·rw [if_pos e] at h;rw [cmp_zero e];by_cases e':cmpBytes b.scope c.scope=0
  ·rw [if_pos e'] at k |-;exact cmp_trans h k
  ·rw [if_neg e'] at k |-;exact k
 ·rw [if_neg e] at h;by_cases e':cmpBytes b.scope c.scope=0
  ·rw [<-cmp_zero e',if_neg e];exact h
  ·rw [if_neg e'] at k;have:=cmp_trans h k;rw [if_neg (by omega)];exact this
theorem ncmp_eq{a b c:NameC}(h:ncmp a b=0):ncmp a c=ncmp b c:=by
 obtain ⟨h1,h2⟩:=ncmp_zero.1 h;unfold ncmp;rw [h1,h2]
def isN(sc n:List UInt8)(x:NameC):Bool:=x.scope==sc&&x.name==n
def idxF(p:NameC->Bool):List NameC->Nat->Int
 |[],_=> -1
 |x::l,i=>if p x then i else idxF p l (i+1)
theorem idxF_neg{p:NameC->Bool}:∀{l:List NameC} {i:Nat},idxF p l i= -1↔∀x∈l,p x=false
 |[],i=>by simp [idxF]
 |x::l,i=>by
  unfold idxF;by_cases h:p x=true
  ·rw [if_pos h];simp [h]
  ·rw [if_neg h,idxF_neg];simp [h]
theorem idxF_at{p:NameC->Bool}:∀{l:List NameC} {i:Nat},idxF p l i≠-1->∃j x,l[j]? =some x/\p x=true/\idxF p l i=((i+j:Nat):Int)/\∀y∈l.take j,p y=false
 |[],i,h=>absurd rfl h
 |x::l,i,h=>by
  unfold idxF at h |-;by_cases hp:p x=true
  ·rw [if_pos hp] at h |-;exact ⟨0,x,rfl,hp,rfl,fun y hy=>by simp at hy⟩
  ·rw [if_neg hp] at h |-;obtain ⟨j,y,h1,h2,h3,h4⟩:=idxF_at h;refine ⟨j+1,y,by simpa using h1,h2,by rw [h3];omega,fun z hz=> ?_⟩;rw [List.take_succ_cons] at hz;rcases List.mem_cons.1 hz with rfl |hz
   ·simpa using hp
   ·exact h4 z hz
def placeF(x:NameC):List NameC->Nat->Nat
 |[],i=>i
 |y::l,i=>if 0<=ncmp y x then i else placeF x l (i+1)
theorem placeF_spec(x:NameC):∀(l:List NameC) (i:Nat),∃j,placeF x l i=i+j/\j<=l.length/\(∀y∈l.take j,ncmp y x= -1)/\∀y,l[j]? =some y->0<=ncmp y x
 |[],i=>⟨0,rfl,Nat.le_refl _,fun y h=>by simp at h,fun y h=>by simp at h⟩
 |y::l,i=>by
  unfold placeF;by_cases h:0<=ncmp y x
  ·rw [if_pos h];exact ⟨0,rfl,by omega,fun y h=>by simp at h,fun z hz=>by simp at hz;subst hz;exact h⟩
  ·rw [if_neg h];obtain ⟨j,h1,h2,h3,h4⟩:=placeF_spec x l (i+1);refine ⟨j+1,by omega,by simp;omega,fun z hz=> ?_,fun z hz=>h4 z (by simpa using hz)⟩;rw [List.take_succ_cons] at hz;rcases List.mem_cons.1 hz with rfl |hz
   ·have:=ncmp_vals z x;omega
   ·exact h3 z hz
def Sorted(l:List NameC):Prop:=l.Pairwise fun a b=>ncmp a b= -1
def putF(l:List NameC)(x:NameC):List NameC:=l.take (placeF x l 0)++x::(l.drop (placeF x l 0)).filter fun y=> !(ncmp x y==0)
theorem put_sorted{l:List NameC}(h:Sorted l)(x:NameC):Sorted (putF l x)/\(∀y∈l.take (placeF x l 0),ncmp y x= -1)/\(∀y∈(l.drop (placeF x l 0)).filter (fun y=> !(ncmp x y==0)),ncmp x y= -1):=by
 obtain ⟨j,h1,h2,h3,h4⟩:=placeF_spec x l 0;rw [Nat.zero_add] at h1;have hd:∀y∈(l.drop j).filter (fun y=> !(ncmp x y==0)),ncmp x y= -1:=by
  intro y hy;obtain ⟨hy1,hy2⟩:=List.mem_filter.1 hy;have hne:ncmp x y≠0:=by simpa using hy2
  cases hd:l.drop j with
  |nil=>rw [hd] at hy1;cases hy1
  |cons z m=>
   have hz:l[j]? =some z:=by
    have:=congrArg (fun l=>l[0]?) hd;simpa [List.getElem?_drop] using this
   have hz0:=h4 z hz;rw [hd] at hy1;have hs:Sorted (z::m):=by rw [<-hd];exact List.Pairwise.sublist (List.drop_sublist _ _) h
   rcases List.mem_cons.1 hy1 with rfl |hm
   ·have:=ncmp_neg x y;have:=ncmp_vals x y;omega
   ·have hzy:=(List.pairwise_cons.1 hs).1 y hm;rcases ncmp_vals z x with e |e |e
    ·omega
    ·rw [<-ncmp_eq (a:=z) (b:=x) e];exact hzy
    ·refine ncmp_trans (b:=z) ?_ hzy;have:=ncmp_neg z x;omega
 rw [h1];unfold putF;rw [h1];refine ⟨?_,h3,hd⟩;refine List.pairwise_append.2 ⟨List.Pairwise.sublist (List.take_sublist _ _) h,List.pairwise_cons.2 ⟨hd,List.Pairwise.sublist ((List.filter_sublist).trans (List.drop_sublist _ _)) h⟩,fun a ha b hb=> ?_⟩;rcases List.mem_cons.1 hb with rfl |hb
 ·exact h3 a ha
 ·exact ncmp_trans (h3 a ha) (hd b hb)
theorem put_mem{l:List NameC}{x y:NameC}(h:y∈putF l x):y=x\/y∈l:=by
 unfold putF at h;rcases List.mem_append.1 h with h |h
 ·exact .inr (List.mem_of_mem_take h)
 ·rcases List.mem_cons.1 h with h |h
  ·exact .inl h
  ·exact .inr (List.mem_of_mem_drop (List.mem_filter.1 h).1)
theorem put_len{l:List NameC}(x:NameC)(hx:l.length<32\/∃y∈l,ncmp x y=0)(hl:l.length<=32):(putF l x).length<=32:=by
 obtain ⟨j,h1,h2,h3,h4⟩:=placeF_spec x l 0;rw [Nat.zero_add] at h1;unfold putF;rw [h1,List.length_append,List.length_cons,List.length_take];have hf:((l.drop j).filter fun y=> !(ncmp x y==0)).length<=(l.drop j).length:=List.length_filter_le _ _;rw [List.length_drop] at hf;rcases hx with hx |⟨y,hy,e⟩
 ·omega
 ·have hyd:y∈l.drop j:=by
   rw [<-List.take_append_drop j l] at hy;rcases List.mem_append.1 hy with hy |hy
   ·have:=h3 y hy;have:=ncmp_neg x y;omega
   ·exact hy
  have hlt:((l.drop j).filter fun y=> !(ncmp x y==0)).length<(l.drop j).length:=by
   rcases Nat.lt_or_ge ((l.drop j).filter fun y=> !(ncmp x y==0)).length (l.drop j).length with h |h
   ·exact h
   ·exfalso;have hall:=List.length_filter_eq_length_iff.1 (Nat.le_antisymm (List.length_filter_le _ _) h) y hyd;simp [e] at hall
  rw [List.length_drop] at hlt;omega
theorem put_find{l:List NameC}(h:Sorted l)(x:NameC):idxF (isN x.scope x.name) (putF l x) 0≠-1/\∀y,y∈putF l x->isN x.scope x.name y=true->y=x:=by
 obtain ⟨_,h3,hd⟩:=put_sorted h x;refine ⟨fun e=> ?_,fun y hy hn=> ?_⟩
 ·have:=idxF_neg.1 e x (by unfold putF;simp);simp [isN] at this
 ·have he:ncmp y x=0:=by
   simp only [isN,Bool.and_eq_true,beq_iff_eq] at hn;exact ncmp_zero.2 hn
  unfold putF at hy;rcases List.mem_append.1 hy with hy |hy
  ·have:=h3 y hy;omega
  ·rcases List.mem_cons.1 hy with hy |hy
   ·exact hy
   ·have:=hd y hy;have:=ncmp_neg x y;omega
theorem e163(R:LV->LHeap->Prop)(s0:List UInt8)(s1:List UInt8)(H:LHeap)
 (h:(Inv [] H [] H->R (.int Go.IntKind.i64 (cmpBytes s0 s1)) H)):
 CallL cfg 163 [(.str s0),(.str s1)] H R:=
  call_wt0 (k:=(.go 11 (.facts .ret))) (by kernel_rfl) h
theorem e79(R:LV->LHeap->Prop)(s0:List UInt8)(s1:List UInt8)(H:LHeap)
 (h:(Inv [] H [] H->∃S2:LV->LHeap->Prop,CallL cfg 163 [(.str s0),(.str s1)] H S2/\(∀v H',S2 v H'->PresX [] H H'/\hasSh (.int .i64) v)/\
  (∀(n3:Int),∀H4:LHeap,S2 (.int Go.IntKind.i64 n3) H4->(Inv [] H [] H4->R (.int Go.IntKind.i64 n3) H4)))):
 CallL cfg 79 [(.str s0),(.str s1)] H R:=
  call_wt0 (k:=(.go 8 (.facts (.call (.int .i64) (.go 2 (.facts .ret)))))) (by kernel_rfl) h
theorem e22t(R:LV->LHeap->Prop)(x0:NameC)(x1:NameC)(H:LHeap)
 (h:(∀(i2:Nat) (H3:LHeap),H.next<=i2->PresX [] H H3->(∀(i4:Nat) (H5:LHeap),H3.next<=i4->PresX [] H3 H5->(Inv [] H [(Slot.mk i2 (NameC.cs x0) 33),(Slot.mk i4 (NameC.cs x1) 33)] H5->∃S6:LV->LHeap->Prop,CallL cfg 79 [(.str x0.scope),(.str x1.scope)] H5 S6/\(∀v H',S6 v H'->PresX [] H5 H'/\hasSh (.int .i64) v)/\
  (∀(n7:Int),∀H8:LHeap,S6 (.int Go.IntKind.i64 n7) H8->(((n7 != (0:Int))=true->(Inv [] H [(Slot.mk i2 (NameC.cs x0) 33),(Slot.mk i4 (NameC.cs x1) 33)] H8->R (.int Go.IntKind.i64 n7) H8))
 /\ ((n7 != (0:Int))=false->(Inv [] H [(Slot.mk i2 (NameC.cs x0) 33),(Slot.mk i4 (NameC.cs x1) 33)] H8->∃S9:LV->LHeap->Prop,CallL cfg 79 [(.str x0.name),(.str x1.name)] H8 S9/\(∀v H',S9 v H'->PresX [] H8 H'/\hasSh (.int .i64) v)/\
  (∀(n10:Int),∀H11:LHeap,S9 (.int Go.IntKind.i64 n10) H11->(Inv [] H [(Slot.mk i2 (NameC.cs x0) 33),(Slot.mk i4 (NameC.cs x1) 33)] H11->R (.int Go.IntKind.i64 n10) H11)))))))))):
 CallL cfg 22 [(NameC.lv x0),(NameC.lv x1)] H R:=
  call_wt0 (k:=(.go 2 (.boxP (.boxP (.go 9 (.facts (.call (.int .i64) (.go 7 (.cases 12 (.go 6 (.facts .ret)) (.go 8 (.facts (.call (.int .i64) (.go 2 (.facts .ret)))))))))))))) (by kernel_rfl) h
theorem e165t(R:LV->LHeap->Prop)(x:Go.Proofs.YtjihhflffkoffaaGreatDoor.Z.NameC)(p:Go.Lm.LAddr)(q:Go.Lm.LAddr)(H:LHeap)
 (h:(∀(i0:Nat) (H1:LHeap),H.next<=i0->PresX [] H H1->(Inv [] H [(Slot.mk i0 (NameC.cs x) 33)] H1->(∃s3:(List UInt8),((loadT (cfg).P H1 9 p=some (.str s3))/\(((x.scope==s3)=true->(Inv [] H [(Slot.mk i0 (NameC.cs x) 33)] H1->(∃s5:(List UInt8),((loadT (cfg).P H1 9 q=some (.str s5))/\(Inv [] H [(Slot.mk i0 (NameC.cs x) 33)] H1->R (.bool (x.name==s5)) H1)))))
 /\ ((x.scope==s3)=false->(Inv [] H [(Slot.mk i0 (NameC.cs x) 33)] H1->R (.bool Bool.false) H1)))))))):
 CallL cfg 165 [(NameC.lv x),(.ptr (some p)),(.ptr (some q))] H R:=
  call_wt0 (k:=(.go 2 (.boxP (.go 6 (.facts (.op .str (.go 2 (.cases 9 (.go 2 (.facts (.op .str (.go 4 (.facts .ret))))) (.go 7 (.facts .ret)))))))))) (by kernel_rfl) h
theorem e83t(R:LV->LHeap->Prop)(x:Go.Proofs.YtjihhflffkoffaaGreatDoor.Z.NameC)(p:Go.Lm.LAddr)(q:Go.Lm.LAddr)(H:LHeap)
 (h:(∀(i0:Nat) (H1:LHeap),H.next<=i0->PresX [] H H1->(Inv [] H [(Slot.mk i0 (NameC.cs x) 33)] H1->(∃s3:(List UInt8),((loadT (cfg).P H1 9 p=some (.str s3))/\(((x.scope==s3)=true->(Inv [] H [(Slot.mk i0 (NameC.cs x) 33)] H1->(∃s5:(List UInt8),((loadT (cfg).P H1 9 q=some (.str s5))/\(Inv [] H [(Slot.mk i0 (NameC.cs x) 33)] H1->R (.bool (x.name==s5)) H1)))))
 /\ ((x.scope==s3)=false->(Inv [] H [(Slot.mk i0 (NameC.cs x) 33)] H1->R (.bool Bool.false) H1)))))))):
 CallL cfg 83 [(NameC.lv x),(.ptr (some p)),(.ptr (some q))] H R:=
  call_wt0 (k:=(.go 2 (.boxP (.go 6 (.facts (.op .str (.go 2 (.cases 9 (.go 2 (.facts (.op .str (.go 4 (.facts .ret))))) (.go 7 (.facts .ret)))))))))) (by kernel_rfl) h
theorem e87t(R:LV->LHeap->Prop)(x:Go.Proofs.YtjihhflffkoffaaGreatDoor.Z.NameC)(p:Go.Lm.LAddr)(H:LHeap)
 (h:(∀(i0:Nat) (H1:LHeap),H.next<=i0->PresX [] H H1->(Inv [] H [(Slot.mk i0 (NameC.cs x) 33)] H1->(∃x3:Go.Proofs.YtjihhflffkoffaaGreatDoor.Z.NameC,((loadT (cfg).P H1 33 p=some (NameC.lv x3))/\(Inv [] H [(Slot.mk i0 (NameC.cs x) 33)] H1->∃S4:LV->LHeap->Prop,CallL cfg 22 [(NameC.lv x3),(NameC.lv x)] H1 S4/\(∀v H',S4 v H'->PresX [] H1 H'/\hasSh (.int .i64) v)/\
  (∀(n5:Int),∀H6:LHeap,S4 (.int Go.IntKind.i64 n5) H6->(Inv [] H [(Slot.mk i0 (NameC.cs x) 33)] H6->R (.bool (n5==(0:Int))) H6)))))))):
 CallL cfg 87 [(NameC.lv x),(.ptr (some p))] H R:=
  call_wt0 (k:=(.go 2 (.boxP (.go 4 (.facts (.op (.cust NameC NameC.lv) (.go 1 (.facts (.call (.int .i64) (.go 3 (.facts .ret))))))))))) (by kernel_rfl) h
theorem e88t(R:LV->LHeap->Prop)(x:Go.Proofs.YtjihhflffkoffaaGreatDoor.Z.NameC)(p:Go.Lm.LAddr)(H:LHeap)
 (h:(∀(i0:Nat) (H1:LHeap),H.next<=i0->PresX [] H H1->(Inv [] H [(Slot.mk i0 (NameC.cs x) 33)] H1->(∃x3:Go.Proofs.YtjihhflffkoffaaGreatDoor.Z.NameC,((loadT (cfg).P H1 33 p=some (NameC.lv x3))/\(Inv [] H [(Slot.mk i0 (NameC.cs x) 33)] H1->∃S4:LV->LHeap->Prop,CallL cfg 22 [(NameC.lv x3),(NameC.lv x)] H1 S4/\(∀v H',S4 v H'->PresX [] H1 H'/\hasSh (.int .i64) v)/\
  (∀(n5:Int),∀H6:LHeap,S4 (.int Go.IntKind.i64 n5) H6->(Inv [] H [(Slot.mk i0 (NameC.cs x) 33)] H6->R (.bool (n5==(0:Int))) H6)))))))):
 CallL cfg 88 [(NameC.lv x),(.ptr (some p))] H R:=
  call_wt0 (k:=(.go 2 (.boxP (.go 4 (.facts (.op (.cust NameC NameC.lv) (.go 1 (.facts (.call (.int .i64) (.go 3 (.facts .ret))))))))))) (by kernel_rfl) h
def L164a_0(d:Nat->LV)(n0:Int)(f1:Go.Lm.LAddr)(f2:Go.Lm.LAddr)(a3:Option LAddr)(l4:Nat)(c5:Cap)(n6:Int):List SV:=[(.lv (.slice a3 l4 c5)),(.lv (.func (Fn.func 165) [] [(.ptr (some f1)),(.ptr (some f2))])),(.lv (d 2)),(.lv (d 3)),(.lv (d 4)),(.lv (d 5)),(.lv (d 6)),(.lv (.int Go.IntKind.i64 n6)),(.lv (.int Go.IntKind.i64 n0)),(.lv (d 9)),(.lv (d 10)),(.lv (d 11)),(.lv (d 12)),(.lv (d 13)),(.lv (d 14)),(.lv (d 15)),(.lv (d 16)),(.lv (d 17)),(.lv (d 18))]
theorem g164a_0(R:LV->LHeap->Prop)(H0:LHeap)(d:Nat->LV)(n0:Int)(f1:Go.Lm.LAddr)(f2:Go.Lm.LAddr)(a3:Option LAddr)(l4:Nat)(c5:Cap)(n6:Int) (H:LHeap)
 (h:(((decide (n0<n6))=true->((((0:Int)<=n0)/\((n0<((l4:Nat):Int))/\((Option.isSome a3)=Bool.true)))/\(Inv [] H0 [] H->(∃x9:Go.Proofs.YtjihhflffkoffaaGreatDoor.Z.NameC,((loadT (cfg).P H 33 (LAddr.mk (LAddr.id (adr a3)) (LAddr.ver (adr a3)) ((LAddr.off (adr a3))+((Int.toNat n0)*3)))=some (NameC.lv x9))/\(Inv [] H0 [] H->∃S10:LV->LHeap->Prop,CallL cfg 165 [(NameC.lv x9),(.ptr (some f1)),(.ptr (some f2))] H S10/\(∀v H',S10 v H'->PresX [] H H'/\hasSh .bool v)/\
  (∀(b11:Bool),∀H12:LHeap,S10 (.bool b11) H12->((b11=true->(Inv [] H0 [] H12->R (.int Go.IntKind.i64 n0) H12))
 /\ (b11=false->(∀d13:Nat->LV,GoesT cfg 164 R [] H0 [] (L164a_0 d13 (lwrap Go.IntKind.i64 (n0+(1:Int))) f1 f2 a3 l4 c5 n6) (loopAt cfg 164 0) H12))))))))))
 /\ ((decide (n0<n6))=false->(Inv [] H0 [] H->R (.int Go.IntKind.i64 (-1:Int)) H)))):
 GoesT cfg 164 R [] H0 [] (L164a_0 d n0 f1 f2 a3 l4 c5 n6) (loopAt cfg 164 0) H:=
  seg_wt (k:=(.go 5 (.cases 9 (.go 14 (.op (.tuple []) (.facts (.op (.cust NameC NameC.lv) (.facts (.call .bool (.go 1 (.cases 16 (.go 6 (.facts .ret)) (.go 8 (.stop [8,1,0,7] 0)))))))))) (.go 6 (.facts .ret))))) (by kernel_rfl) h
theorem e164a(R:LV->LHeap->Prop)(a:(Option Go.Lm.LAddr))(l:Nat)(c:Go.Lm.Cap)(p:Go.Lm.LAddr)(q:Go.Lm.LAddr)(H:LHeap)
 (h:(∀d0:Nat->LV,GoesT cfg 164 R [] H [] (L164a_0 d0 (0:Int) p q a l c ((l:Nat):Int)) (loopAt cfg 164 0) H)):
 CallL cfg 164 [(.slice a l c),(.func (Fn.func 165) [] [(.ptr (some p)),(.ptr (some q))])] H R:=
  call_wt0 (k:=(.go 13 (.stop [8,1,0,7] 0))) (by kernel_rfl) h
def L164b_0(d:Nat->LV)(n0:Int)(f1:Go.Lm.LAddr)(f2:Go.Lm.LAddr)(a3:Option LAddr)(l4:Nat)(c5:Cap)(n6:Int):List SV:=[(.lv (.slice a3 l4 c5)),(.lv (.func (Fn.func 83) [] [(.ptr (some f1)),(.ptr (some f2))])),(.lv (d 2)),(.lv (d 3)),(.lv (d 4)),(.lv (d 5)),(.lv (d 6)),(.lv (.int Go.IntKind.i64 n6)),(.lv (.int Go.IntKind.i64 n0)),(.lv (d 9)),(.lv (d 10)),(.lv (d 11)),(.lv (d 12)),(.lv (d 13)),(.lv (d 14)),(.lv (d 15)),(.lv (d 16)),(.lv (d 17)),(.lv (d 18))]
theorem g164b_0(R:LV->LHeap->Prop)(H0:LHeap)(d:Nat->LV)(n0:Int)(f1:Go.Lm.LAddr)(f2:Go.Lm.LAddr)(a3:Option LAddr)(l4:Nat)(c5:Cap)(n6:Int) (H:LHeap)
 (h:(((decide (n0<n6))=true->((((0:Int)<=n0)/\((n0<((l4:Nat):Int))/\((Option.isSome a3)=Bool.true)))/\(Inv [] H0 [] H->(∃x9:Go.Proofs.YtjihhflffkoffaaGreatDoor.Z.NameC,((loadT (cfg).P H 33 (LAddr.mk (LAddr.id (adr a3)) (LAddr.ver (adr a3)) ((LAddr.off (adr a3))+((Int.toNat n0)*3)))=some (NameC.lv x9))/\(Inv [] H0 [] H->∃S10:LV->LHeap->Prop,CallL cfg 83 [(NameC.lv x9),(.ptr (some f1)),(.ptr (some f2))] H S10/\(∀v H',S10 v H'->PresX [] H H'/\hasSh .bool v)/\
  (∀(b11:Bool),∀H12:LHeap,S10 (.bool b11) H12->((b11=true->(Inv [] H0 [] H12->R (.int Go.IntKind.i64 n0) H12))
 /\ (b11=false->(∀d13:Nat->LV,GoesT cfg 164 R [] H0 [] (L164b_0 d13 (lwrap Go.IntKind.i64 (n0+(1:Int))) f1 f2 a3 l4 c5 n6) (loopAt cfg 164 0) H12))))))))))
 /\ ((decide (n0<n6))=false->(Inv [] H0 [] H->R (.int Go.IntKind.i64 (-1:Int)) H)))):
 GoesT cfg 164 R [] H0 [] (L164b_0 d n0 f1 f2 a3 l4 c5 n6) (loopAt cfg 164 0) H:=
  seg_wt (k:=(.go 5 (.cases 9 (.go 14 (.op (.tuple []) (.facts (.op (.cust NameC NameC.lv) (.facts (.call .bool (.go 1 (.cases 16 (.go 6 (.facts .ret)) (.go 8 (.stop [8,1,0,7] 0)))))))))) (.go 6 (.facts .ret))))) (by kernel_rfl) h
theorem e164b(R:LV->LHeap->Prop)(a:(Option Go.Lm.LAddr))(l:Nat)(c:Go.Lm.Cap)(p:Go.Lm.LAddr)(q:Go.Lm.LAddr)(H:LHeap)
 (h:(∀d0:Nat->LV,GoesT cfg 164 R [] H [] (L164b_0 d0 (0:Int) p q a l c ((l:Nat):Int)) (loopAt cfg 164 0) H)):
 CallL cfg 164 [(.slice a l c),(.func (Fn.func 83) [] [(.ptr (some p)),(.ptr (some q))])] H R:=
  call_wt0 (k:=(.go 13 (.stop [8,1,0,7] 0))) (by kernel_rfl) h
def L164c_0(d:Nat->LV)(n0:Int)(f1:Go.Lm.LAddr)(a2:Option LAddr)(l3:Nat)(c4:Cap)(n5:Int):List SV:=[(.lv (.slice a2 l3 c4)),(.lv (.func (Fn.func 87) [] [(.ptr (some f1))])),(.lv (d 2)),(.lv (d 3)),(.lv (d 4)),(.lv (d 5)),(.lv (d 6)),(.lv (.int Go.IntKind.i64 n5)),(.lv (.int Go.IntKind.i64 n0)),(.lv (d 9)),(.lv (d 10)),(.lv (d 11)),(.lv (d 12)),(.lv (d 13)),(.lv (d 14)),(.lv (d 15)),(.lv (d 16)),(.lv (d 17)),(.lv (d 18))]
theorem g164c_0(R:LV->LHeap->Prop)(H0:LHeap)(d:Nat->LV)(n0:Int)(f1:Go.Lm.LAddr)(a2:Option LAddr)(l3:Nat)(c4:Cap)(n5:Int) (H:LHeap)
 (h:(((decide (n0<n5))=true->((((0:Int)<=n0)/\((n0<((l3:Nat):Int))/\((Option.isSome a2)=Bool.true)))/\(Inv [] H0 [] H->(∃x8:Go.Proofs.YtjihhflffkoffaaGreatDoor.Z.NameC,((loadT (cfg).P H 33 (LAddr.mk (LAddr.id (adr a2)) (LAddr.ver (adr a2)) ((LAddr.off (adr a2))+((Int.toNat n0)*3)))=some (NameC.lv x8))/\(Inv [] H0 [] H->∃S9:LV->LHeap->Prop,CallL cfg 87 [(NameC.lv x8),(.ptr (some f1))] H S9/\(∀v H',S9 v H'->PresX [] H H'/\hasSh .bool v)/\
  (∀(b10:Bool),∀H11:LHeap,S9 (.bool b10) H11->((b10=true->(Inv [] H0 [] H11->R (.int Go.IntKind.i64 n0) H11))
 /\ (b10=false->(∀d12:Nat->LV,GoesT cfg 164 R [] H0 [] (L164c_0 d12 (lwrap Go.IntKind.i64 (n0+(1:Int))) f1 a2 l3 c4 n5) (loopAt cfg 164 0) H11))))))))))
 /\ ((decide (n0<n5))=false->(Inv [] H0 [] H->R (.int Go.IntKind.i64 (-1:Int)) H)))):
 GoesT cfg 164 R [] H0 [] (L164c_0 d n0 f1 a2 l3 c4 n5) (loopAt cfg 164 0) H:=
  seg_wt (k:=(.go 5 (.cases 9 (.go 14 (.op (.tuple []) (.facts (.op (.cust NameC NameC.lv) (.facts (.call .bool (.go 1 (.cases 16 (.go 6 (.facts .ret)) (.go 8 (.stop [8,1,0,7] 0)))))))))) (.go 6 (.facts .ret))))) (by kernel_rfl) h
theorem e164c(R:LV->LHeap->Prop)(a:(Option Go.Lm.LAddr))(l:Nat)(c:Go.Lm.Cap)(p:Go.Lm.LAddr)(H:LHeap)
 (h:(∀d0:Nat->LV,GoesT cfg 164 R [] H [] (L164c_0 d0 (0:Int) p a l c ((l:Nat):Int)) (loopAt cfg 164 0) H)):
 CallL cfg 164 [(.slice a l c),(.func (Fn.func 87) [] [(.ptr (some p))])] H R:=
  call_wt0 (k:=(.go 13 (.stop [8,1,0,7] 0))) (by kernel_rfl) h
def L164d_0(d:Nat->LV)(n0:Int)(f1:Go.Lm.LAddr)(a2:Option LAddr)(l3:Nat)(c4:Cap)(n5:Int):List SV:=[(.lv (.slice a2 l3 c4)),(.lv (.func (Fn.func 88) [] [(.ptr (some f1))])),(.lv (d 2)),(.lv (d 3)),(.lv (d 4)),(.lv (d 5)),(.lv (d 6)),(.lv (.int Go.IntKind.i64 n5)),(.lv (.int Go.IntKind.i64 n0)),(.lv (d 9)),(.lv (d 10)),(.lv (d 11)),(.lv (d 12)),(.lv (d 13)),(.lv (d 14)),(.lv (d 15)),(.lv (d 16)),(.lv (d 17)),(.lv (d 18))]
theorem g164d_0(R:LV->LHeap->Prop)(H0:LHeap)(d:Nat->LV)(n0:Int)(f1:Go.Lm.LAddr)(a2:Option LAddr)(l3:Nat)(c4:Cap)(n5:Int) (H:LHeap)
 (h:(((decide (n0<n5))=true->((((0:Int)<=n0)/\((n0<((l3:Nat):Int))/\((Option.isSome a2)=Bool.true)))/\(Inv [] H0 [] H->(∃x8:Go.Proofs.YtjihhflffkoffaaGreatDoor.Z.NameC,((loadT (cfg).P H 33 (LAddr.mk (LAddr.id (adr a2)) (LAddr.ver (adr a2)) ((LAddr.off (adr a2))+((Int.toNat n0)*3)))=some (NameC.lv x8))/\(Inv [] H0 [] H->∃S9:LV->LHeap->Prop,CallL cfg 88 [(NameC.lv x8),(.ptr (some f1))] H S9/\(∀v H',S9 v H'->PresX [] H H'/\hasSh .bool v)/\
  (∀(b10:Bool),∀H11:LHeap,S9 (.bool b10) H11->((b10=true->(Inv [] H0 [] H11->R (.int Go.IntKind.i64 n0) H11))
 /\ (b10=false->(∀d12:Nat->LV,GoesT cfg 164 R [] H0 [] (L164d_0 d12 (lwrap Go.IntKind.i64 (n0+(1:Int))) f1 a2 l3 c4 n5) (loopAt cfg 164 0) H11))))))))))
 /\ ((decide (n0<n5))=false->(Inv [] H0 [] H->R (.int Go.IntKind.i64 (-1:Int)) H)))):
 GoesT cfg 164 R [] H0 [] (L164d_0 d n0 f1 a2 l3 c4 n5) (loopAt cfg 164 0) H:=
  seg_wt (k:=(.go 5 (.cases 9 (.go 14 (.op (.tuple []) (.facts (.op (.cust NameC NameC.lv) (.facts (.call .bool (.go 1 (.cases 16 (.go 6 (.facts .ret)) (.go 8 (.stop [8,1,0,7] 0)))))))))) (.go 6 (.facts .ret))))) (by kernel_rfl) h
theorem e164d(R:LV->LHeap->Prop)(a:(Option Go.Lm.LAddr))(l:Nat)(c:Go.Lm.Cap)(p:Go.Lm.LAddr)(H:LHeap)
 (h:(∀d0:Nat->LV,GoesT cfg 164 R [] H [] (L164d_0 d0 (0:Int) p a l c ((l:Nat):Int)) (loopAt cfg 164 0) H)):
 CallL cfg 164 [(.slice a l c),(.func (Fn.func 88) [] [(.ptr (some p))])] H R:=
  call_wt0 (k:=(.go 13 (.stop [8,1,0,7] 0))) (by kernel_rfl) h
theorem e80t(R:LV->LHeap->Prop)(a0:Option LAddr)(l1:Nat)(c2:Cap)(s3:List UInt8)(s4:List UInt8)(H:LHeap)
 (h:(∀(i5:Nat) (H6:LHeap),H.next<=i5->PresX [] H H6->(∀(i7:Nat) (H8:LHeap),H6.next<=i7->PresX [] H6 H8->(Inv [] H [(Slot.mk i5 [(.str s3)] 9),(Slot.mk i7 [(.str s4)] 9)] H8->∃S9:LV->LHeap->Prop,CallL cfg 164 [(.slice a0 l1 c2),(.func (Fn.func 165) [] [(.ptr (some (LAddr.mk i5 1 0))),(.ptr (some (LAddr.mk i7 1 0)))])] H8 S9/\(∀v H',S9 v H'->PresX [] H8 H'/\hasSh (.int .i64) v)/\
  (∀(n10:Int),∀H11:LHeap,S9 (.int Go.IntKind.i64 n10) H11->(Inv [] H [(Slot.mk i5 [(.str s3)] 9),(Slot.mk i7 [(.str s4)] 9)] H11->R (.int Go.IntKind.i64 n10) H11)))))):
 CallL cfg 80 [(.slice a0 l1 c2),(.str s3),(.str s4)] H R:=
  call_wt0 (k:=(.go 2 (.boxP (.boxP (.go 6 (.facts (.call (.int .i64) (.go 2 (.facts .ret))))))))) (by kernel_rfl) h
theorem e25t(R:LV->LHeap->Prop)(a0:Option LAddr)(l1:Nat)(c2:Cap)(s3:List UInt8)(s4:List UInt8)(H:LHeap)
 (h:(∀(i5:Nat) (H6:LHeap),H.next<=i5->PresX [] H H6->(Inv [] H [(Slot.mk i5 [(.str []),(.str []),(.str [])] 33)] H6->∃S7:LV->LHeap->Prop,CallL cfg 80 [(.slice a0 l1 c2),(.str s3),(.str s4)] H6 S7/\(∀v H',S7 v H'->PresX [] H6 H'/\hasSh (.int .i64) v)/\
  (∀(n8:Int),∀H9:LHeap,S7 (.int Go.IntKind.i64 n8) H9->(((decide (n8<0))=true->(∀H10:LHeap,PresX [i5] H9 H10->(Inv [] H [(Slot.mk i5 [(.str []),(.str []),(.str [])] 33)] H10->R (.tuple [(.agg [(.str []),(.str []),(.str [])]),(.bool Bool.false)]) H10)))
 /\ ((decide (n8<0))=false->((((0:Int)<=n8)/\((n8<((l1:Nat):Int))/\((Option.isSome a0)=Bool.true)))/\(Inv [] H [(Slot.mk i5 [(.str []),(.str []),(.str [])] 33)] H9->(∃x13:Go.Proofs.YtjihhflffkoffaaGreatDoor.Z.NameC,((loadT (cfg).P H9 33 (LAddr.mk (LAddr.id (adr a0)) (LAddr.ver (adr a0)) ((LAddr.off (adr a0))+((Int.toNat n8)*3)))=some (NameC.lv x13))/\(∀H14:LHeap,PresX [i5] H9 H14->(Inv [] H [(Slot.mk i5 (NameC.cs x13) 33)] H14->R (.tuple [(NameC.lv x13),(.bool Bool.true)]) H14)))))))))))):
 CallL cfg 25 [(.slice a0 l1 c2),(.str s3),(.str s4)] H R:=
  call_wt0 (k:=(.go 2 (.boxP (.go 7 (.facts (.call (.int .i64) (.go 8 (.cases 14 (.go 4 (.putP (.go 2 (.facts .ret)))) (.go 6 (.op (.tuple []) (.facts (.op (.cust NameC NameC.lv) (.putP (.go 2 (.facts .ret))))))))))))))) (by kernel_rfl) h
theorem e82t(R:LV->LHeap->Prop)(a0:Option LAddr)(l1:Nat)(c2:Cap)(H:LHeap)
 (h:(((Option.isNone a0)=true->(Inv [] H [] H->R (.slice none 0 (Cap.exact 0)) H))
 /\ ((Option.isNone a0)=false->(∀H4:LHeap,H4=(LHeap.push H (LObj.cells [] 33 0 0 Go.Lm.FZ.none Bool.false Bool.true))->(Inv [] H [] H4->∃Y:List Nat,∃(a5:Option LAddr),∃(l6:Nat),∃(c7:Cap),∃H8:LHeap,(appendL cfg.P H4 [36,36] [(.slice (some (LAddr.mk (LHeap.next H) 0 0)) 0 (Cap.exact 0)),(.slice a0 l1 c2)]=some ((.slice a5 l6 c7),H8)/\PresX Y H4 H8/\∀i∈Y,okId [] H [] i)/\(Inv [] H [] H8->R (.slice a5 l6 c7) H8)))))):
 CallL cfg 82 [(.slice a0 l1 c2)] H R:=
  call_wt0 (k:=(.go 8 (.op .bool (.go 1 (.cases 4 (.go 5 (.facts .ret)) (.go 4 (.row (.go 1 (.facts (.app (.go 2 (.facts .ret)))))))))))) (by kernel_rfl) h
def L85t_0(d:Nat->LV)(n0:Int)(a1:Option LAddr)(l2:Nat)(c3:Cap)(a4:Option LAddr)(l5:Nat)(c6:Cap)(n7:Int):List SV:=[(.lv (.slice a4 l5 c6)),(.lv (d 1)),(.lv (.func (Fn.func 22) [] [])),(.lv (d 3)),(.own 0 0),(.lv (d 5)),(.lv (d 6)),(.lv (d 7)),(.lv (d 8)),(.lv (.slice a1 l2 c3)),(.lv (.int Go.IntKind.i64 n7)),(.lv (.int Go.IntKind.i64 n0)),(.lv (d 12)),(.lv (d 13)),(.lv (d 14)),(.lv (d 15)),(.lv (d 16)),(.lv (d 17)),(.lv (d 18)),(.lv (d 19)),(.lv (d 20)),(.lv (d 21)),(.lv (d 22)),(.lv (d 23)),(.lv (d 24))]
theorem g85t_0(R:LV->LHeap->Prop)(H0:LHeap)(d:Nat->LV)(n0:Int)(a1:Option LAddr)(l2:Nat)(c3:Cap)(a4:Option LAddr)(l5:Nat)(c6:Cap)(n7:Int)(i8:Nat)(x9:NameC)(H:LHeap)
 (h:(((decide (n0<n7))=true->((((0:Int)<=n0)/\((n0<((l2:Nat):Int))/\((Option.isSome a1)=Bool.true)))/\(Inv [] H0 [(Slot.mk i8 (NameC.cs x9) 33)] H->(∃x12:Go.Proofs.YtjihhflffkoffaaGreatDoor.Z.NameC,((loadT (cfg).P H 33 (LAddr.mk (LAddr.id (adr a1)) (LAddr.ver (adr a1)) ((LAddr.off (adr a1))+((Int.toNat n0)*3)))=some (NameC.lv x12))/\(∀(i13:Nat) (H14:LHeap),H.next<=i13->PresX [] H H14->(∀H15:LHeap,PresX [i13] H14 H15->(Inv [] H0 [(Slot.mk i8 (NameC.cs x9) 33),(Slot.mk i13 (NameC.cs x12) 33)] H15->∃S16:LV->LHeap->Prop,CallL cfg 22 [(NameC.lv x12),(NameC.lv x9)] H15 S16/\(∀v H',S16 v H'->PresX [] H15 H'/\hasSh (.int .i64) v)/\
  (∀(n17:Int),∀H18:LHeap,S16 (.int Go.IntKind.i64 n17) H18->(((decide (n17>=0))=true->(Inv [] H0 [(Slot.mk i8 (NameC.cs x9) 33),(Slot.mk i13 (NameC.cs x12) 33)] H18->R (.int Go.IntKind.i64 n0) H18))
 /\ ((decide (n17>=0))=false->(∀d19:Nat->LV,GoesT cfg 85 R [] H0 [(Slot.mk i8 (NameC.cs x9) 33)] (L85t_0 d19 (lwrap Go.IntKind.i64 (n0+(1:Int))) a1 l2 c3 a4 l5 c6 n7) (loopAt cfg 85 0) H18))))))))))))
 /\ ((decide (n0<n7))=false->(Inv [] H0 [(Slot.mk i8 (NameC.cs x9) 33)] H->R (.int Go.IntKind.i64 ((l5:Nat):Int)) H)))):
 GoesT cfg 85 R [] H0 [(Slot.mk i8 (NameC.cs x9) 33)] (L85t_0 d n0 a1 l2 c3 a4 l5 c6 n7) (loopAt cfg 85 0) H:=
  seg_wt (k:=(.go 5 (.cases 12 (.go 7 (.op (.tuple []) (.facts (.op (.cust NameC NameC.lv) (.boxP (.go 1 (.putP (.go 6 (.facts (.call (.int .i64) (.go 2 (.cases 20 (.go 6 (.facts .ret)) (.go 8 (.stop [11,2,4,9,0,10] 1)))))))))))))) (.go 8 (.facts .ret))))) (by kernel_rfl) h
theorem e85t(R:LV->LHeap->Prop)(a:(Option Go.Lm.LAddr))(l:Nat)(c:Go.Lm.Cap)(x:Go.Proofs.YtjihhflffkoffaaGreatDoor.Z.NameC)(H:LHeap)
 (h:(∀(i0:Nat) (H1:LHeap),H.next<=i0->PresX [] H H1->(∀d2:Nat->LV,GoesT cfg 85 R [] H [(Slot.mk i0 (NameC.cs x) 33)] (L85t_0 d2 (0:Int) a l c a l c ((l:Nat):Int)) (loopAt cfg 85 0) H1))):
 CallL cfg 85 [(.slice a l c),(NameC.lv x),(.func (Fn.func 22) [] [])] H R:=
  call_wt0 (k:=(.go 2 (.boxP (.go 11 (.stop [11,2,4,9,0,10] 1))))) (by kernel_rfl) h
def cellsN(l:List NameC):List LV:=l.flatMap NameC.cs
theorem cellsN_len:∀l:List NameC,(cellsN l).length=l.length*3
 |[]=>rfl
 |x::l=>by
  have:=cellsN_len l;unfold cellsN at this |-;rw [List.flatMap_cons,List.length_append,this,List.length_cons,Nat.add_mul];simp only [NameC.cs,List.length_cons,List.length_nil];omega
theorem cellsN_app(l m:List NameC):cellsN (l++m)=cellsN l++cellsN m:=by unfold cellsN;exact List.flatMap_append
theorem cellsN_one(x:NameC):cellsN [x]=x.cs:=by simp [cellsN]
theorem cellsN_all:∀l:List NameC,allCells (cellsN l)=true
 |[]=>rfl
 |x::l=>by
  have:=cellsN_all l;unfold cellsN at this |-;rw [List.flatMap_cons];exact allCells_app rfl this
theorem cellsN_split{l:List NameC}{i:Nat}{x:NameC}(h:l[i]? =some x):cellsN l=cellsN (l.take i)++(x.cs++cellsN (l.drop (i+1)))/\(cellsN (l.take i)).length=i*3:=by
 obtain ⟨h1,h2⟩:=List.getElem?_eq_some_iff.1 h;refine ⟨?_,by rw [cellsN_len,List.length_take,Nat.min_eq_left (Nat.le_of_lt h1)]⟩;rw [<-cellsN_one,<-cellsN_app,<-cellsN_app,List.singleton_append,<-h2,<-List.drop_eq_getElem_cons h1,List.take_append_drop]
theorem loadN_mid{H:LHeap}{a:LAddr}{A B C:List LV}{k:Nat}(h:loadN H a k=some (A++(B++C))):loadN H ⟨a.id,a.ver,a.off+A.length⟩ B.length=some B:=by
 unfold loadN at h |-;split at h
 ·rename_i cs e v m fz ro wh hg;split at h
  ·rename_i hb;simp only [Bool.and_eq_true,Nat.ble_eq] at hb;obtain ⟨h1,h2⟩:=takeN_some _ _ _ h;have hl:=congrArg List.length h2;rw [dropN_eq] at h1 h2 hl;simp only [List.length_take,List.length_drop,List.length_append] at hl h1;simp only [hg];rw [if_pos (by simp only [Bool.and_eq_true,Nat.ble_eq];omega),dropN_eq,takeN_of _ _ (by rw [List.length_drop];omega)];have h3:=congrArg (fun l=>(l.drop A.length).take B.length) h2;simp only [List.drop_left,List.take_left] at h3;refine congrArg some (Eq.trans ?_ h3.symm);rw [List.drop_take,List.take_take,List.drop_drop,Nat.min_eq_left (by omega)]
  ·cases h
 ·cases h
structure NmAt (H:LHeap) (a:Option LAddr) (n:Nat) (q:Cap) (l:List NameC):Prop where
 len:l.length=n
 small:n<=1000
 cells:firstCellsL H 3 n (.slice a n q)=some (cellsN l)
 id:∀ad,a=some ad->ad.id<H.next
theorem NmAt.load{H:LHeap}{ad:LAddr}{n:Nat}{q:Cap}{l:List NameC}(h:NmAt H (some ad) n q l):loadN H ad (n*3)=some (cellsN l):=by
 have:=h.cells;simp only [firstCellsL,Nat.ble_eq,Nat.le_refl,if_true] at this;exact this
theorem NmAt.on{H H':LHeap}{a:Option LAddr}{n:Nat}{q:Cap}{l:List NameC}(h:NmAt H a n q l){X:List Nat}(p:PresX X H H')(hx:∀ad,a=some ad->ad.id∉X):NmAt H' a n q l:=by
 refine ⟨h.len,h.small,?_,fun ad e=>Nat.lt_of_lt_of_le (h.id ad e) p.next⟩;cases a with
 |none=>exact h.cells
 |some ad=>
  simp only [firstCellsL,Nat.ble_eq,Nat.le_refl,if_true];exact (p.keep ad.id (h.id ad rfl) (hx ad rfl)).loads ad _ _ rfl h.load
theorem NmAt.on0{H H':LHeap}{a:Option LAddr}{n:Nat}{q:Cap}{l:List NameC}(h:NmAt H a n q l)(p:PresX [] H H'):NmAt H' a n q l:=h.on p fun _ _=>by simp
theorem NmAt.at{H:LHeap}{a:Option LAddr}{n:Nat}{q:Cap}{l:List NameC}(h:NmAt H a n q l){i:Nat}{x:NameC}(hx:l[i]? =some x):
  a.isSome=true/\(adr a).id<H.next/\loadT cfg.P H 33 ⟨(adr a).id,(adr a).ver,(adr a).off+i*3⟩=some x.lv:=by
 have hi:=(List.getElem?_eq_some_iff.1 hx).1;cases a with
 |none=>
  have:=h.cells;simp only [firstCellsL] at this;split at this
  ·rename_i hn;have:=Nat.eq_of_beq_eq_true hn;have:=h.len;omega
  ·cases this
 |some ad=>
  refine ⟨rfl,h.id ad rfl,?_⟩;have hl:=h.load;obtain ⟨h1,h2⟩:=cellsN_split hx;rw [h1] at hl;have:=loadN_mid hl;rw [h2] at this;exact load_agg (by kernel_rfl) (by kernel_rfl) this
theorem s163(a b:List UInt8)(H:LHeap):CallL cfg 163 [.str a,.str b] H (Ret (.int .i64 (cmpBytes a b)) H):=
 e163 _ a b H fun hI=>.mk hI.pres
theorem s79(a b:List UInt8)(H:LHeap):CallL cfg 79 [.str a,.str b] H (Ret (.int .i64 (cmpBytes a b)) H):=by
 refine e79 _ a b H fun hI=>⟨_,s163 a b H,Ret.use ⟨_,rfl⟩,fun n H1 ⟨e,p⟩ hI=> ?_⟩;cases e;exact .mk hI.pres
theorem s22(x y:NameC)(H:LHeap):CallL cfg 22 [x.lv,y.lv] H (Ret (.int .i64 (ncmp x y)) H):=by
 refine e22t _ x y H fun i H1 _ _ j H2 _ _ hI=>⟨_,s79 _ _ H2,Ret.use ⟨_,rfl⟩,fun n H3 ⟨e,p⟩=>⟨fun hn hI=> ?_,fun hn hI=>⟨_,s79 _ _ H3,Ret.use ⟨_,rfl⟩,fun m H4 ⟨e',p'⟩ hI=> ?_⟩⟩⟩
 ·cases e;have:ncmp x y=cmpBytes x.scope y.scope:=by
   unfold ncmp;rw [if_neg];simpa using hn
  rw [<-this];exact .mk hI.pres
 ·cases e;cases e';have:ncmp x y=cmpBytes x.name y.name:=by
   unfold ncmp;rw [if_pos];simpa using hn
  rw [<-this];exact .mk hI.pres
theorem s165(x:NameC)(sc n:List UInt8)(p q:LAddr)(H:LHeap)(hp:p.id<H.next)(hq:q.id<H.next)(lp:loadT cfg.P H 9 p=some (.str sc))(lq:loadT cfg.P H 9 q=some (.str n)):
  CallL cfg 165 [x.lv,.ptr (some p),.ptr (some q)] H (Ret (.bool (isN sc n x)) H):=by
 refine e165t _ x p q H fun i H1 _ k1 hI=>⟨sc,k1.load0 hp lp,fun h hI=>⟨n,k1.load0 hq lq,fun hI=> ?_⟩,fun h hI=> ?_⟩
 ·have:isN sc n x=(x.name==n):=by simp only [isN];rw [h,Bool.true_and]
  rw [this];exact .mk hI.pres
 ·have:isN sc n x=false:=by simp only [isN];rw [h,Bool.false_and]
  rw [this];exact .mk hI.pres
theorem s83(x:NameC)(sc n:List UInt8)(p q:LAddr)(H:LHeap)(hp:p.id<H.next)(hq:q.id<H.next)(lp:loadT cfg.P H 9 p=some (.str sc))(lq:loadT cfg.P H 9 q=some (.str n)):
  CallL cfg 83 [x.lv,.ptr (some p),.ptr (some q)] H (Ret (.bool (isN sc n x)) H):=by
 refine e83t _ x p q H fun i H1 _ k1 hI=>⟨sc,k1.load0 hp lp,fun h hI=>⟨n,k1.load0 hq lq,fun hI=> ?_⟩,fun h hI=> ?_⟩
 ·have:isN sc n x=(x.name==n):=by simp only [isN];rw [h,Bool.true_and]
  rw [this];exact .mk hI.pres
 ·have:isN sc n x=false:=by simp only [isN];rw [h,Bool.false_and]
  rw [this];exact .mk hI.pres
theorem s87(x y:NameC)(p:LAddr)(H:LHeap)(hp:p.id<H.next)(lp:loadT cfg.P H 33 p=some x.lv):CallL cfg 87 [y.lv,.ptr (some p)] H (Ret (.bool (ncmp x y==0)) H):=by
 refine e87t _ y p H fun i H1 _ k1 hI=>⟨x,k1.load0 hp lp,fun hI=>⟨_,s22 x y H1,Ret.use ⟨_,rfl⟩,fun n H2 ⟨e,p2⟩ hI=> ?_⟩⟩;cases e;exact .mk hI.pres
theorem s88(x y:NameC)(p:LAddr)(H:LHeap)(hp:p.id<H.next)(lp:loadT cfg.P H 33 p=some x.lv):CallL cfg 88 [y.lv,.ptr (some p)] H (Ret (.bool (ncmp x y==0)) H):=by
 refine e88t _ y p H fun i H1 _ k1 hI=>⟨x,k1.load0 hp lp,fun hI=>⟨_,s22 x y H1,Ret.use ⟨_,rfl⟩,fun n H2 ⟨e,p2⟩ hI=> ?_⟩⟩;cases e;exact .mk hI.pres
theorem loop164a(a:Option LAddr)(l:Nat)(c:Cap)(nm:List NameC)(P:NameC->Bool)(p q:LAddr)(H0:LHeap)(hN:NmAt H0 a l c nm)(hcl:∀(y:NameC) (H:LHeap),PresX [] H0 H->CallL cfg 165 [y.lv,.ptr (some p),.ptr (some q)] H (Ret (.bool (P y)) H)):
  ∀(m i:Nat),i+m=l->∀(d:Nat->LV) (H:LHeap),GoesT cfg 164 (Ret (.int .i64 (idxF P (nm.drop i) i)) H0) [] H0 [] (L164a_0 d (i:Int) p q a l c (l:Int)) (loopAt cfg 164 0) H
 |0,i,hi,d,H=>by
  intro hin hI;refine g164a_0 _ H0 d i p q a l c l H ⟨fun h=> ?_,fun h hI=> ?_⟩ hin hI
  ·simp at h;omega
  ·rw [List.drop_eq_nil_of_le (by rw [hN.len];omega)];exact .mk hI.pres
 |m+1,i,hi,d,H=>by
  intro hin hI;have hil:i<nm.length:=by rw [hN.len];omega
  obtain ⟨hs,_,hld⟩:=(hN.on0 hI.pres).at (List.getElem?_eq_getElem hil);have hdrop:nm.drop i=nm[i]::nm.drop (i+1):=List.drop_eq_getElem_cons hil;refine g164a_0 _ H0 d i p q a l c l H ⟨fun h=>⟨⟨by omega,by omega,hs⟩,fun _=>⟨nm[i],by simpa using hld,fun hI=>⟨_,hcl nm[i] H hI.pres,Ret.use ⟨_,rfl⟩,fun b H1 ⟨e,p1⟩=>⟨fun hb hI=> ?yes,fun hb d1=> ?no⟩⟩⟩⟩,fun h=> ?ge⟩ hin hI
  case ge=>simp at h;omega
  case yes=>
   cases e;rw [hdrop];unfold idxF;rw [if_pos hb];exact .mk hI.pres
  case no=>
   cases e;rw [hdrop];unfold idxF;rw [hb];have:=hN.small;rw [lwrap_small (by omega) (by omega)];exact loop164a a l c nm P p q H0 hN hcl m (i+1) (by omega) d1 H1
theorem s164a(a:Option LAddr)(l:Nat)(c:Cap)(nm:List NameC)(P:NameC->Bool)(p q:LAddr)(H0:LHeap)(hN:NmAt H0 a l c nm)(hcl:∀(y:NameC) (H:LHeap),PresX [] H0 H->CallL cfg 165 [y.lv,.ptr (some p),.ptr (some q)] H (Ret (.bool (P y)) H)):
  CallL cfg 164 [.slice a l c,.func (.func 165) [] [.ptr (some p),.ptr (some q)]] H0 (Ret (.int .i64 (idxF P nm 0)) H0):=
 e164a _ a l c p q H0 fun d=>loop164a a l c nm P p q H0 hN hcl l 0 (by omega) d H0
theorem loop164b(a:Option LAddr)(l:Nat)(c:Cap)(nm:List NameC)(P:NameC->Bool)(p q:LAddr)(H0:LHeap)(hN:NmAt H0 a l c nm)(hcl:∀(y:NameC) (H:LHeap),PresX [] H0 H->CallL cfg 83 [y.lv,.ptr (some p),.ptr (some q)] H (Ret (.bool (P y)) H)):
  ∀(m i:Nat),i+m=l->∀(d:Nat->LV) (H:LHeap),GoesT cfg 164 (Ret (.int .i64 (idxF P (nm.drop i) i)) H0) [] H0 [] (L164b_0 d (i:Int) p q a l c (l:Int)) (loopAt cfg 164 0) H
 |0,i,hi,d,H=>by
  intro hin hI;refine g164b_0 _ H0 d i p q a l c l H ⟨fun h=> ?_,fun h hI=> ?_⟩ hin hI
  ·simp at h;omega
  ·rw [List.drop_eq_nil_of_le (by rw [hN.len];omega)];exact .mk hI.pres
 |m+1,i,hi,d,H=>by
  intro hin hI;have hil:i<nm.length:=by rw [hN.len];omega
  obtain ⟨hs,_,hld⟩:=(hN.on0 hI.pres).at (List.getElem?_eq_getElem hil);have hdrop:nm.drop i=nm[i]::nm.drop (i+1):=List.drop_eq_getElem_cons hil;refine g164b_0 _ H0 d i p q a l c l H ⟨fun h=>⟨⟨by omega,by omega,hs⟩,fun _=>⟨nm[i],by simpa using hld,fun hI=>⟨_,hcl nm[i] H hI.pres,Ret.use ⟨_,rfl⟩,fun b H1 ⟨e,p1⟩=>⟨fun hb hI=> ?yes,fun hb d1=> ?no⟩⟩⟩⟩,fun h=> ?ge⟩ hin hI
  case ge=>simp at h;omega
  case yes=>
   cases e;rw [hdrop];unfold idxF;rw [if_pos hb];exact .mk hI.pres
  case no=>
   cases e;rw [hdrop];unfold idxF;rw [hb];have:=hN.small;rw [lwrap_small (by omega) (by omega)];exact loop164b a l c nm P p q H0 hN hcl m (i+1) (by omega) d1 H1
theorem s164b(a:Option LAddr)(l:Nat)(c:Cap)(nm:List NameC)(P:NameC->Bool)(p q:LAddr)(H0:LHeap)(hN:NmAt H0 a l c nm)(hcl:∀(y:NameC) (H:LHeap),PresX [] H0 H->CallL cfg 83 [y.lv,.ptr (some p),.ptr (some q)] H (Ret (.bool (P y)) H)):
  CallL cfg 164 [.slice a l c,.func (.func 83) [] [.ptr (some p),.ptr (some q)]] H0 (Ret (.int .i64 (idxF P nm 0)) H0):=
 e164b _ a l c p q H0 fun d=>loop164b a l c nm P p q H0 hN hcl l 0 (by omega) d H0
theorem loop164c(a:Option LAddr)(l:Nat)(c:Cap)(nm:List NameC)(P:NameC->Bool)(p:LAddr)(H0:LHeap)(hN:NmAt H0 a l c nm)(hcl:∀(y:NameC) (H:LHeap),PresX [] H0 H->CallL cfg 87 [y.lv,.ptr (some p)] H (Ret (.bool (P y)) H)):
  ∀(m i:Nat),i+m=l->∀(d:Nat->LV) (H:LHeap),GoesT cfg 164 (Ret (.int .i64 (idxF P (nm.drop i) i)) H0) [] H0 [] (L164c_0 d (i:Int) p a l c (l:Int)) (loopAt cfg 164 0) H
 |0,i,hi,d,H=>by
  intro hin hI;refine g164c_0 _ H0 d i p a l c l H ⟨fun h=> ?_,fun h hI=> ?_⟩ hin hI
  ·simp at h;omega
  ·rw [List.drop_eq_nil_of_le (by rw [hN.len];omega)];exact .mk hI.pres
 |m+1,i,hi,d,H=>by
  intro hin hI;have hil:i<nm.length:=by rw [hN.len];omega
  obtain ⟨hs,_,hld⟩:=(hN.on0 hI.pres).at (List.getElem?_eq_getElem hil);have hdrop:nm.drop i=nm[i]::nm.drop (i+1):=List.drop_eq_getElem_cons hil;refine g164c_0 _ H0 d i p a l c l H ⟨fun h=>⟨⟨by omega,by omega,hs⟩,fun _=>⟨nm[i],by simpa using hld,fun hI=>⟨_,hcl nm[i] H hI.pres,Ret.use ⟨_,rfl⟩,fun b H1 ⟨e,p1⟩=>⟨fun hb hI=> ?yes,fun hb d1=> ?no⟩⟩⟩⟩,fun h=> ?ge⟩ hin hI
  case ge=>simp at h;omega
  case yes=>
   cases e;rw [hdrop];unfold idxF;rw [if_pos hb];exact .mk hI.pres
  case no=>
   cases e;rw [hdrop];unfold idxF;rw [hb];have:=hN.small;rw [lwrap_small (by omega) (by omega)];exact loop164c a l c nm P p H0 hN hcl m (i+1) (by omega) d1 H1
theorem s164c(a:Option LAddr)(l:Nat)(c:Cap)(nm:List NameC)(P:NameC->Bool)(p:LAddr)(H0:LHeap)(hN:NmAt H0 a l c nm)(hcl:∀(y:NameC) (H:LHeap),PresX [] H0 H->CallL cfg 87 [y.lv,.ptr (some p)] H (Ret (.bool (P y)) H)):
  CallL cfg 164 [.slice a l c,.func (.func 87) [] [.ptr (some p)]] H0 (Ret (.int .i64 (idxF P nm 0)) H0):=
 e164c _ a l c p H0 fun d=>loop164c a l c nm P p H0 hN hcl l 0 (by omega) d H0
theorem loop164d(a:Option LAddr)(l:Nat)(c:Cap)(nm:List NameC)(P:NameC->Bool)(p:LAddr)(H0:LHeap)(hN:NmAt H0 a l c nm)(hcl:∀(y:NameC) (H:LHeap),PresX [] H0 H->CallL cfg 88 [y.lv,.ptr (some p)] H (Ret (.bool (P y)) H)):
  ∀(m i:Nat),i+m=l->∀(d:Nat->LV) (H:LHeap),GoesT cfg 164 (Ret (.int .i64 (idxF P (nm.drop i) i)) H0) [] H0 [] (L164d_0 d (i:Int) p a l c (l:Int)) (loopAt cfg 164 0) H
 |0,i,hi,d,H=>by
  intro hin hI;refine g164d_0 _ H0 d i p a l c l H ⟨fun h=> ?_,fun h hI=> ?_⟩ hin hI
  ·simp at h;omega
  ·rw [List.drop_eq_nil_of_le (by rw [hN.len];omega)];exact .mk hI.pres
 |m+1,i,hi,d,H=>by
  intro hin hI;have hil:i<nm.length:=by rw [hN.len];omega
  obtain ⟨hs,_,hld⟩:=(hN.on0 hI.pres).at (List.getElem?_eq_getElem hil);have hdrop:nm.drop i=nm[i]::nm.drop (i+1):=List.drop_eq_getElem_cons hil;refine g164d_0 _ H0 d i p a l c l H ⟨fun h=>⟨⟨by omega,by omega,hs⟩,fun _=>⟨nm[i],by simpa using hld,fun hI=>⟨_,hcl nm[i] H hI.pres,Ret.use ⟨_,rfl⟩,fun b H1 ⟨e,p1⟩=>⟨fun hb hI=> ?yes,fun hb d1=> ?no⟩⟩⟩⟩,fun h=> ?ge⟩ hin hI
  case ge=>simp at h;omega
  case yes=>
   cases e;rw [hdrop];unfold idxF;rw [if_pos hb];exact .mk hI.pres
  case no=>
   cases e;rw [hdrop];unfold idxF;rw [hb];have:=hN.small;rw [lwrap_small (by omega) (by omega)];exact loop164d a l c nm P p H0 hN hcl m (i+1) (by omega) d1 H1
theorem s164d(a:Option LAddr)(l:Nat)(c:Cap)(nm:List NameC)(P:NameC->Bool)(p:LAddr)(H0:LHeap)(hN:NmAt H0 a l c nm)(hcl:∀(y:NameC) (H:LHeap),PresX [] H0 H->CallL cfg 88 [y.lv,.ptr (some p)] H (Ret (.bool (P y)) H)):
  CallL cfg 164 [.slice a l c,.func (.func 88) [] [.ptr (some p)]] H0 (Ret (.int .i64 (idxF P nm 0)) H0):=
 e164d _ a l c p H0 fun d=>loop164d a l c nm P p H0 hN hcl l 0 (by omega) d H0
theorem boxed{X:List Nat}{H0 H:LHeap}{kn:List Slot}(h:Inv X H0 kn H){k:Nat}{s:Slot}(hs:nth kn k=some s){c:LV}(hc:s.cs=[c]){t:TypeId}(ht:isAggT cfg.P t=some false):loadT cfg.P H t ⟨s.id,1,0⟩=some c:=by
 obtain ⟨_,h2,_⟩:=h.slot k s hs;unfold loadT load1;rw [ht,h2];simp only [Slot.obj,hc];rfl
theorem s80(a:Option LAddr)(l:Nat)(c:Cap)(nm:List NameC)(sc n:List UInt8)(H:LHeap)(hN:NmAt H a l c nm):
  CallL cfg 80 [.slice a l c,.str sc,.str n] H (Ret (.int .i64 (idxF (isN sc n) nm 0)) H):=by
 refine e80t _ a l c sc n H fun i H1 g1 p1 j H2 g2 p2 hI=>⟨_,s164a a l c nm (isN sc n) ⟨i,1,0⟩ ⟨j,1,0⟩ H2 (hN.on0 hI.pres) fun y H3 p3=> ?_,Ret.use ⟨_,rfl⟩,fun m H3 ⟨e,p⟩ hI=> ?_⟩
 ·have hi:=(hI.slot 0 _ rfl).1;have hj:=(hI.slot 1 _ rfl).1;exact s165 y sc n ⟨i,1,0⟩ ⟨j,1,0⟩ H3 (Nat.lt_of_lt_of_le hi p3.next) (Nat.lt_of_lt_of_le hj p3.next) (p3.load0 hi (boxed hI (k:=0) rfl rfl (by kernel_rfl))) (p3.load0 hj (boxed hI (k:=1) rfl rfl (by kernel_rfl)))
 ·cases e;exact .mk hI.pres
def findN(sc n:List UInt8)(nm:List NameC):Option NameC:=nm.find? (isN sc n)
def nilName:NameC:=⟨[],[],[]⟩
def optN:Option NameC->LV
 |some x=>.tuple [x.lv,.bool true]
 |none=>.tuple [nilName.lv,.bool false]
theorem find_none{sc n:List UInt8}{nm:List NameC}:findN sc n nm=none↔idxF (isN sc n) nm 0= -1:=by
 rw [idxF_neg];simp [findN,List.find?_eq_none]
theorem find_at{sc n:List UInt8}:∀{nm:List NameC} {j:Nat} {x:NameC},nm[j]? =some x->isN sc n x=true->(∀y∈nm.take j,isN sc n y=false)->findN sc n nm=some x
 |[],j,x,h,_,_=>by simp at h
 |y::nm,0,x,h,hp,_=>by
  simp at h;subst h;simp [findN,hp]
 |y::nm,j+1,x,h,hp,ht=>by
  have hy:=ht y (by simp);have:findN sc n (y::nm)=findN sc n nm:=by simp [findN,hy]
  rw [this];exact find_at (by simpa using h) hp fun z hz=>ht z (by rw [List.take_succ_cons];exact List.mem_cons_of_mem _ hz)
theorem s25(a:Option LAddr)(l:Nat)(c:Cap)(nm:List NameC)(sc n:List UInt8)(H:LHeap)(hN:NmAt H a l c nm):
  CallL cfg 25 [.slice a l c,.str sc,.str n] H (Ret (optN (findN sc n nm)) H):=by
 refine e25t _ a l c sc n H fun i H1 g1 p1 hI=>⟨_,s80 a l c nm sc n H1 (hN.on0 hI.pres),Ret.use ⟨_,rfl⟩,fun m H2 ⟨e,p⟩=> ?_⟩;cases e;by_cases h0:idxF (isN sc n) nm 0= -1
 ·rw [find_none.2 h0,h0];exact ⟨fun _ H3 p3 hI=>.mk hI.pres,fun h=>by simp at h⟩
 ·obtain ⟨j,x,h1,h2,h3,h4⟩:=idxF_at h0;rw [find_at h1 h2 h4,h3];refine ⟨fun h=>by simp at h;omega,fun h=> ?_⟩;obtain ⟨hs,_,hld⟩:=((hN.on0 p1).on0 p).at h1;have hj:j<l:=by have:=(List.getElem?_eq_some_iff.1 h1).1;rw [hN.len] at this;exact this
  refine ⟨⟨by omega,by omega,hs⟩,fun hI=>⟨x,by simpa using hld,fun H3 p3 hI=>.mk hI.pres⟩⟩
theorem loop85(a:Option LAddr)(l:Nat)(c:Cap)(nm:List NameC)(x:NameC)(H0:LHeap)(hN:NmAt H0 a l c nm)(k:Nat)(hk:H0.next<=k):
  ∀(m i:Nat),i+m=l->∀(d:Nat->LV) (H:LHeap),GoesT cfg 85 (Ret (.int .i64 ((placeF x (nm.drop i) i:Nat):Int)) H0) [] H0 [⟨k,x.cs,33⟩] (L85t_0 d (i:Int) a l c a l c (l:Int)) (loopAt cfg 85 0) H
 |0,i,hi,d,H=>by
  intro hin hI;refine g85t_0 _ H0 d i a l c a l c l k x H ⟨fun h=> ?_,fun h hI=> ?_⟩ hin hI
  ·simp at h;omega
  ·rw [List.drop_eq_nil_of_le (by rw [hN.len];omega)];unfold placeF;rw [show i=l by omega];exact .mk hI.pres
 |m+1,i,hi,d,H=>by
  intro hin hI;have hil:i<nm.length:=by rw [hN.len];omega
  obtain ⟨hs,_,hld⟩:=(hN.on0 hI.pres).at (List.getElem?_eq_getElem hil);have hdrop:nm.drop i=nm[i]::nm.drop (i+1):=List.drop_eq_getElem_cons hil;refine g85t_0 _ H0 d i a l c a l c l k x H ⟨fun h=>⟨⟨by omega,by omega,hs⟩,fun _=>⟨nm[i],by simpa using hld,fun j H1 g1 p1 H2 p2 hI=>⟨_,s22 nm[i] x H2,Ret.use ⟨_,rfl⟩,fun b H3 ⟨e,p3⟩=>⟨fun hb hI=> ?yes,fun hb d1=> ?no⟩⟩⟩⟩,fun h=> ?ge⟩ hin hI
  case ge=>simp at h;omega
  case yes=>
   cases e;rw [hdrop];unfold placeF;rw [if_pos (by simpa using hb)];exact .mk hI.pres
  case no=>
   cases e;rw [hdrop];unfold placeF;rw [if_neg (by simpa using hb)];have:=hN.small;rw [lwrap_small (by omega) (by omega)];exact loop85 a l c nm x H0 hN k hk m (i+1) (by omega) d1 H3
theorem s85(a:Option LAddr)(l:Nat)(c:Cap)(nm:List NameC)(x:NameC)(H:LHeap)(hN:NmAt H a l c nm):
  CallL cfg 85 [.slice a l c,x.lv,.func (.func 22) [] []] H (Ret (.int .i64 ((placeF x nm 0:Nat):Int)) H):=
 e85t _ a l c x H fun k H1 hk p1 d=>loop85 a l c nm x H hN k hk l 0 (by omega) d H1
theorem rowT33:RowT cfg.P 36 33 3 48:=⟨by kernel_rfl,by kernel_rfl,by decide,by kernel_rfl,by kernel_rfl,by kernel_rfl,⟨nilName.lv,by kernel_rfl,rfl⟩⟩
theorem app_nilN{t e:TypeId}{size bytes:Nat}(hT:RowT cfg.P t e size bytes){H:LHeap}{a:Option LAddr}{n:Nat}{q:Cap}{x:LV}(hx:lenL x=some 0){cs:List LV}(hc:firstCellsL H size 0 x=some cs):appendL cfg.P H [t,t] [.slice a n q,x]=some (.slice a n q,H):=by
 obtain ⟨s,rfl⟩:∃s,size=s+1:=⟨size-1,by have:=hT.pos;omega⟩;unfold appendL;simp only [hT.elem,hT.sized,hT.bytes,hT.noInt,hT.und,hx,hc,Bool.false_eq_true,if_false];rfl
def CloneS(n:Nat)(l:List NameC)(H:LHeap):LV->LHeap->Prop:=fun v H'=>PresX [] H H'/\∃a q,v=.slice a n q/\RowAt H' 33 3 a n q (cellsN l)/\(∀ad,a=some ad->H.next<=ad.id)/\(0<n->q=.free 3)/\(n=0->q=.exact 0)
theorem s82(a:Option LAddr)(l:Nat)(c:Cap)(nm:List NameC)(H:LHeap)(hN:NmAt H a l c nm):CallL cfg 82 [.slice a l c] H (CloneS l nm H):=by
 refine e82t _ a l c H ⟨fun h hI=> ?_,fun h H4 e4 hI=> ?_⟩
 ·cases a with
  |some a=>cases h
  |none=>
   have:=hN.cells;simp only [firstCellsL] at this;split at this
   ·rename_i hn;have h0:=Nat.eq_of_beq_eq_true hn;subst h0;have:nm=[]:=List.eq_nil_of_length_eq_zero hN.len;subst this;exact ⟨hI.pres,none,.exact 0,rfl,.nil,(fun ad e=>by cases e),fun h=>absurd h (Nat.lt_irrefl _),fun _=>rfl⟩
   ·cases this
 ·have hp4:PresX [] H H4:=hI.pres;have hrow0:RowAt H4 33 3 (some ⟨H.next,0,0⟩) 0 (.exact 0) []:=by
   refine .full _ 0 [] (by rw [e4];exact Nat.lt_succ_self _) ?_ rfl rfl;unfold loadN;rw [e4,LHeap.get_push,if_pos rfl];rfl
  have hc:=(hN.on0 hp4).cells;by_cases hl0:l=0
  ·subst hl0;have:nm=[]:=List.eq_nil_of_length_eq_zero hN.len;subst this;exact ⟨[],_,0,_,H4,⟨app_nilN rowT33 rfl hc,.refl _ _,fun i hi=>by cases hi⟩,fun hI2=>⟨hI2.pres,_,_,rfl,hrow0,(fun ad e=>by cases e;exact Nat.le_refl _),fun h=>absurd h (Nat.lt_irrefl _),fun _=>rfl⟩⟩
  obtain ⟨Y,a',q',H',h1,h2,h3,h4,h5,h6⟩:=hrow0.append2 rowT33 (x:=.slice a l c) (m:=l) (new:=cellsN nm) rfl hc (by rw [cellsN_len,hN.len]) (cellsN_all nm) (by have:=hN.small;omega);rw [Nat.zero_add] at h1 h3;rw [List.nil_append] at h3;refine ⟨Y,a',l,q',H',⟨h1,h2,fun i hi=> ?_⟩,fun hI2=>⟨hI2.pres,a',q',rfl,h3,fun ad e=> ?_,h6,fun h0=>absurd h0 hl0⟩⟩
  ·obtain ⟨ad,e,rfl⟩:=h4 i hi;cases e;exact ⟨.inr (Nat.le_refl _),fun k s hs=>by simp [nth] at hs⟩
  ·rcases h5 ad e with ⟨ad',e',e''⟩ |hge
   ·cases e';rw [<-e''];exact Nat.le_refl _
   ·exact Nat.le_trans hp4.next hge
end Go.Proofs.YtjihhflffkoffaaGreatDoor.Z
