/- Contracts of functions of the program; no condition. -/
import Derived.Test.YtjihhflffkoffaaGreatDoorZ0
import Derived.Test.YtjihhflffkoffaaGreatDoorLe
import Derived.KernelRfl
set_option linter.unusedSimpArgs false
set_option linter.unusedVariables false
set_option linter.unusedSectionVars false
set_option linter.unnecessarySimpa false
namespace Go.Proofs.YtjihhflffkoffaaGreatDoor.Z
open Go Go.Lm
set_option maxRecDepth 1000000
set_option maxHeartbeats 0
structure NameC where
 scope:List UInt8
 name:List UInt8
 text:List UInt8
def NameC.cs(x:NameC):List LV:=[.str x.scope,.str x.name,.str x.text]
def NameC.lv(x:NameC):LV:=.agg x.cs
structure ValC where
 kind:Int
 n:Int
 s:List UInt8
def ValC.cs(x:ValC):List LV:=[.int .i64 x.kind,.int .i64 x.n,.str x.s]
def ValC.lv(x:ValC):LV:=.agg x.cs
structure RefC where
 book:List UInt8
 sheet:List UInt8
 row:Int
 col:Int
 fixRow:Bool
 fixCol:Bool
def RefC.cs(x:RefC):List LV:=[.str x.book,.str x.sheet,.int .i64 x.row,.int .i64 x.col,.bool x.fixRow,.bool x.fixCol]
def RefC.lv(x:RefC):LV:=.agg x.cs
structure NdC where
 kind:Int
 s:List UInt8
 valueKind:Int
 valueN:Int
 valueS:List UInt8
 refBook:List UInt8
 refSheet:List UInt8
 refRow:Int
 refCol:Int
 refFixRow:Bool
 refFixCol:Bool
 toBook:List UInt8
 toSheet:List UInt8
 toRow:Int
 toCol:Int
 toFixRow:Bool
 toFixCol:Bool
 argsA:Option LAddr
 argsL:Nat
 argsQ:Cap
def NdC.cs(x:NdC):List LV:=[.int .i64 x.kind,.str x.s,.int .i64 x.valueKind,.int .i64 x.valueN,.str x.valueS,.str x.refBook,.str x.refSheet,.int .i64 x.refRow,.int .i64 x.refCol,.bool x.refFixRow,.bool x.refFixCol,.str x.toBook,.str x.toSheet,.int .i64 x.toRow,.int .i64 x.toCol,.bool x.toFixRow,.bool x.toFixCol,.slice x.argsA x.argsL x.argsQ]
def NdC.lv(x:NdC):LV:=.agg x.cs
structure PlaceC where
 book:List UInt8
 sheet:List UInt8
 row:Int
 col:Int
def PlaceC.cs(x:PlaceC):List LV:=[.str x.book,.str x.sheet,.int .i64 x.row,.int .i64 x.col]
def PlaceC.lv(x:PlaceC):LV:=.agg x.cs
structure ShiftC where
 at_:Int
 n:Int
 most:Int
def ShiftC.cs(x:ShiftC):List LV:=[.int .i64 x.at_,.int .i64 x.n,.int .i64 x.most]
def ShiftC.lv(x:ShiftC):LV:=.agg x.cs
structure ChangeC where
 book:List UInt8
 sheet:List UInt8
 drop:Bool
 cols:Bool
 shiftAt:Int
 shiftN:Int
 shiftMost:Int
def ChangeC.cs(x:ChangeC):List LV:=[.str x.book,.str x.sheet,.bool x.drop,.bool x.cols,.int .i64 x.shiftAt,.int .i64 x.shiftN,.int .i64 x.shiftMost]
def ChangeC.lv(x:ChangeC):LV:=.agg x.cs
structure TokC where
 kind:Int
 n:Int
 s:List UInt8
 refBook:List UInt8
 refSheet:List UInt8
 refRow:Int
 refCol:Int
 refFixRow:Bool
 refFixCol:Bool
def TokC.cs(x:TokC):List LV:=[.int .i64 x.kind,.int .i64 x.n,.str x.s,.str x.refBook,.str x.refSheet,.int .i64 x.refRow,.int .i64 x.refCol,.bool x.refFixRow,.bool x.refFixCol]
def TokC.lv(x:TokC):LV:=.agg x.cs
structure CellC where
 row:Int
 col:Int
 text:List UInt8
def CellC.cs(x:CellC):List LV:=[.int .i64 x.row,.int .i64 x.col,.str x.text]
def CellC.lv(x:CellC):LV:=.agg x.cs
structure SheetC where
 name:List UInt8
 cellsA:Option LAddr
 cellsL:Nat
 cellsQ:Cap
def SheetC.cs(x:SheetC):List LV:=[.str x.name,.slice x.cellsA x.cellsL x.cellsQ]
def SheetC.lv(x:SheetC):LV:=.agg x.cs
structure BookC where
 sheetsA:Option LAddr
 sheetsL:Nat
 sheetsQ:Cap
 namesA:Option LAddr
 namesL:Nat
 namesQ:Cap
 linksA:Option LAddr
 linksL:Nat
 linksQ:Cap
def BookC.cs(x:BookC):List LV:=[.slice x.sheetsA x.sheetsL x.sheetsQ,.slice x.namesA x.namesL x.namesQ,.slice x.linksA x.linksL x.linksQ]
def BookC.lv(x:BookC):LV:=.agg x.cs
structure LinkC where
 book:List UInt8
 sheet:List UInt8
 row:Int
 col:Int
 valueKind:Int
 valueN:Int
 valueS:List UInt8
def LinkC.cs(x:LinkC):List LV:=[.str x.book,.str x.sheet,.int .i64 x.row,.int .i64 x.col,.int .i64 x.valueKind,.int .i64 x.valueN,.str x.valueS]
def LinkC.lv(x:LinkC):LV:=.agg x.cs
structure PutC where
 sheet:List UInt8
 row:Int
 col:Int
 text:List UInt8
 at_:Int
 cellsA:Option LAddr
 cellsL:Nat
 cellsQ:Cap
def PutC.cs(x:PutC):List LV:=[.str x.sheet,.int .i64 x.row,.int .i64 x.col,.str x.text,.int .i64 x.at_,.slice x.cellsA x.cellsL x.cellsQ]
def PutC.lv(x:PutC):LV:=.agg x.cs
structure TurnC where
 homeBook:List UInt8
 homeSheet:List UInt8
 homeRow:Int
 homeCol:Int
 cBook:List UInt8
 cSheet:List UInt8
 cDrop:Bool
 cCols:Bool
 cShiftAt:Int
 cShiftN:Int
 cShiftMost:Int
 line:LV
 lines:LV
 any:Bool
def TurnC.cs(x:TurnC):List LV:=[.str x.homeBook,.str x.homeSheet,.int .i64 x.homeRow,.int .i64 x.homeCol,.str x.cBook,.str x.cSheet,.bool x.cDrop,.bool x.cCols,.int .i64 x.cShiftAt,.int .i64 x.cShiftN,.int .i64 x.cShiftMost,x.line,x.lines,.bool x.any]
def TurnC.lv(x:TurnC):LV:=.agg x.cs
abbrev RR:=LV->LHeap->Prop
abbrev I6(n:Int):LV:=.int .i64 n
abbrev Sk:=Slot.mk
abbrev Lk:=LAddr.mk
def dl(d:Nat->LV):Nat->Nat->List SV
 |_,0=>[]
 |i,n+1=>.lv (d i)::dl d (i+1) n
abbrev Cd(c:Bool)(P Q:Prop):Prop:=(c=true->P)/\(c=false->Q)
abbrev Dc(p:Prop)[Decidable p](P Q:Prop):Prop:=(decide p=true->P)/\(decide p=false->Q)
abbrev PX(l:List Nat)(H:LHeap)(K:LHeap->Prop):Prop:=∀H',PresX l H H'->K H'
abbrev NX(H:LHeap)(K:Nat->LHeap->Prop):Prop:=∀n H',H.next<=n->PresX [] H H'->K n H'
abbrev CL(f:Nat)(a:List LV)(H:LHeap)(sh:Sh)(K:RR->Prop):Prop:=∃S,CallL cfg f a H S/\(∀v H',S v H'->PresX [] H H'/\hasSh sh v)/\K S
abbrev R0(H:LHeap)(kn:List Slot)(H':LHeap)(R:RR)(v:LV):Prop:=Inv [] H kn H'->R v H'
abbrev RX(X:List Nat)(H:LHeap)(kn:List Slot)(H':LHeap)(R:RR)(v:LV):Prop:=Inv X H kn H'->R v H'
abbrev Ka(f:Nat)(a:List LV)(H:LHeap)(K:Bool->LHeap->Prop):Prop:=∃S,CallL cfg f a H S/\(∀v H',S v H'->PresX [] H H'/\hasSh .bool v)/\∀x0 H',S (.bool x0) H'->K x0 H'
abbrev Kb(f:Nat)(a:List LV)(H:LHeap)(K:(List UInt8)->LHeap->Prop):Prop:=∃S,CallL cfg f a H S/\(∀v H',S v H'->PresX [] H H'/\hasSh .str v)/\∀x0 H',S (.str x0) H'->K x0 H'
abbrev Kc(f:Nat)(a:List LV)(H:LHeap)(K:Int->LHeap->Prop):Prop:=∃S,CallL cfg f a H S/\(∀v H',S v H'->PresX [] H H'/\hasSh (.int .i64) v)/\∀x0 H',S (I6 x0) H'->K x0 H'
abbrev Kf(f:Nat)(a:List LV)(H:LHeap)(K:Int->Bool->LHeap->Prop):Prop:=∃S,CallL cfg f a H S/\(∀v H',S v H'->PresX [] H H'/\hasSh (.tuple [.int .i64,.bool]) v)/\∀x0 x1 H',S (.tuple [I6 x0,.bool x1]) H'->K x0 x1 H'
def L53_0(d:Nat->LV)(n0:Int)(n1:Int):List SV:=[.lv (d 0),.lv (d 1),.own 0 0,.own 1 0]++dl d 4 46++[.lv (I6 n1),.lv (I6 n0)]++dl d 52 15
abbrev qC1_1(H0:LHeap)(i2:Nat)(x3:NdC)(i4:Nat)(x5:NdC)(H15:LHeap)(R:RR):Prop:=R0 H0 [Sk i2 (NdC.cs x3) 72,Sk i4 (NdC.cs x5) 72] H15 R (.bool false)
theorem g53_0(R:RR)(H0:LHeap)(d:Nat->LV)(n0:Int)(n1:Int)(i2:Nat)(x3:NdC)(i4:Nat)(x5:NdC)(H:LHeap)
(h:Dc (n0<n1) ((0<=n0/\(n0<((x3.argsL:Nat):Int)/\(Option.isSome x3.argsA)=true))/\(Inv [] H0 [Sk i2 (NdC.cs x3) 72,Sk i4 (NdC.cs x5) 72] H->∃x8,loadT cfg.P H 72 (Lk (LAddr.id (adr x3.argsA)) (LAddr.ver (adr x3.argsA)) ((LAddr.off (adr x3.argsA))+((Int.toNat n0)*18)))=some (NdC.lv x8)/\((0<=n0/\(n0<((x5.argsL:Nat):Int)/\(Option.isSome x5.argsA)=true))/\(Inv [] H0 [Sk i2 (NdC.cs x3) 72,Sk i4 (NdC.cs x5) 72] H->∃x11,loadT cfg.P H 72 (Lk (LAddr.id (adr x5.argsA)) (LAddr.ver (adr x5.argsA)) ((LAddr.off (adr x5.argsA))+((Int.toNat n0)*18)))=some (NdC.lv x11)/\(Inv [] H0 [Sk i2 (NdC.cs x3) 72,Sk i4 (NdC.cs x5) 72] H->loadT cfg.P H 72 (Lk (LAddr.id (adr x5.argsA)) (LAddr.ver (adr x5.argsA)) ((LAddr.off (adr x5.argsA))+((Int.toNat n0)*18)))=some (NdC.lv x11)/\(loadT cfg.P H 72 (Lk (LAddr.id (adr x3.argsA)) (LAddr.ver (adr x3.argsA)) ((LAddr.off (adr x3.argsA))+((Int.toNat n0)*18)))=some (NdC.lv x8)/\(([.slice x3.argsA x3.argsL x3.argsQ,.slice x5.argsA x5.argsL x5.argsQ]:List LV)=[.slice x3.argsA x3.argsL x3.argsQ,.slice x5.argsA x5.argsL x5.argsQ]/\(Inv [] H0 [Sk i2 (NdC.cs x3) 72,Sk i4 (NdC.cs x5) 72] H->Ka 53 [NdC.lv x8,NdC.lv x11] H fun b14 H15=>Inv [] H0 [Sk i2 (NdC.cs x3) 72,Sk i4 (NdC.cs x5) 72] H15->Cd (!b14) (qC1_1 H0 i2 x3 i4 x5 H15 R) (∀d17,GoesT cfg 53 R [] H0 [Sk i2 (NdC.cs x3) 72,Sk i4 (NdC.cs x5) 72] (L53_0 d17 (lwrap .i64 (n0+1)) n1) (loopAt cfg 53 0) H15))))))))) (R0 H0 [Sk i2 (NdC.cs x3) 72,Sk i4 (NdC.cs x5) 72] H R (.bool true))):
 GoesT cfg 53 R [] H0 [Sk i2 (NdC.cs x3) 72,Sk i4 (NdC.cs x5) 72] (L53_0 d n0 n1) (loopAt cfg 53 0) H:=seg_wt (k:=(.go 5 (.cases 52 (.go 14 (.op (.tuple []) (.facts (.op (.cust NdC NdC.lv) (.go 3 (.op (.tuple []) (.facts (.op (.cust NdC NdC.lv) (.facts (.check (.facts (.call .bool (.go 1 (.facts (.check (.go 1 (.cases 65 (.go 5 (.facts .ret)) (.go 8 (.stop [51,2,3,50] 2))))))))))))))))))) (.go 6 (.facts .ret))))) (by kernel_rfl) h
theorem e53(R:RR)(x0:NdC)(x1:NdC)(H:LHeap)
(h:∀i2 (H3:LHeap) i4 H5,Cd (x0.kind !=x1.kind) (qC1_1 H i2 x0 i4 x1 H5 R) (Cd (!(x0.s==x1.s)) (qC1_1 H i2 x0 i4 x1 H5 R) (Cd (!((x0.valueKind==x1.valueKind)&&((x0.valueN==x1.valueN)&&(x0.valueS==x1.valueS)))) (qC1_1 H i2 x0 i4 x1 H5 R) (Cd (!((x0.refBook==x1.refBook)&&((x0.refSheet==x1.refSheet)&&((x0.refRow==x1.refRow)&&((x0.refCol==x1.refCol)&&((x0.refFixRow==x1.refFixRow)&&(x0.refFixCol==x1.refFixCol))))))) (qC1_1 H i2 x0 i4 x1 H5 R) (Cd (!((x0.toBook==x1.toBook)&&((x0.toSheet==x1.toSheet)&&((x0.toRow==x1.toRow)&&((x0.toCol==x1.toCol)&&((x0.toFixRow==x1.toFixRow)&&(x0.toFixCol==x1.toFixCol))))))) (qC1_1 H i2 x0 i4 x1 H5 R) (Cd (((x0.argsL:Nat):Int)!=((x1.argsL:Nat):Int)) (qC1_1 H i2 x0 i4 x1 H5 R) (∀d9,GoesT cfg 53 R [] H [Sk i2 (NdC.cs x0) 72,Sk i4 (NdC.cs x1) 72] (L53_0 d9 0 ((x0.argsL:Nat):Int)) (loopAt cfg 53 0) H5))))))):
 CallL cfg 53 [NdC.lv x0,NdC.lv x1] H R:=call_wt0 (k:=(.go 2 (.box (.box (.go 11 (.cases 11 (.go 42 (.facts .ret)) (.go 7 (.cases 18 (.go 35 (.facts .ret)) (.go 4 (.op .bool (.go 2 (.cases 25 (.go 28 (.facts .ret)) (.go 4 (.op .bool (.go 2 (.cases 32 (.go 21 (.facts .ret)) (.go 4 (.op .bool (.go 2 (.cases 39 (.go 14 (.facts .ret)) (.go 9 (.cases 47 (.go 5 (.facts .ret)) (.go 12 (.stop [51,2,3,50] 2)))))))))))))))))))))))) (by kernel_rfl) h
def L105_0(d:Nat->LV)(n0:Int)(n1:Int)(a2:Option LAddr)(l3:Nat)(c4:Cap)(n5:Int):List SV:=[(.lv (d 0)),(.lv (.int .i64 n1)),(.lv (d 2)),(.lv (d 3)),(.lv (d 4)),(.lv (d 5)),(.lv (d 6)),(.lv (d 7)),(.lv (d 8)),(.lv (d 9)),(.lv (.slice a2 l3 c4)),(.lv (.int .i64 n5)),(.lv (.int .i64 n0)),(.lv (d 13)),(.lv (d 14)),(.lv (d 15)),(.lv (d 16)),(.lv (d 17)),(.lv (d 18)),(.lv (d 19)),(.lv (d 20)),(.lv (d 21)),(.lv (d 22))]
theorem g105_0(R:LV->LHeap->Prop)(H0:LHeap)(d:Nat->LV)(n0:Int)(n1:Int)(a2:Option LAddr)(l3:Nat)(c4:Cap)(n5:Int) (H:LHeap)
 (h:(((decide (n0<n5))=true->((((0:Int)<=n0)/\((n0<((l3:Nat):Int))/\((Option.isSome a2)=true)))/\(Inv [] H0 [] H->(∃x8:NdC,((loadT (cfg).P H 72 (LAddr.mk (LAddr.id (adr a2)) (LAddr.ver (adr a2)) ((LAddr.off (adr a2))+((Int.toNat n0)*18)))=some (NdC.lv x8))/\(∀(i9:Nat) (H10:LHeap),(∀H11:LHeap,(((decide (n1<=0))=true->(Inv [] H0 [(Slot.mk i9 (NdC.cs x8) 72)] H11->R (.int .i64 (0:Int)) H11))
 /\ ((decide (n1<=0))=false->(Inv [] H0 [(Slot.mk i9 (NdC.cs x8) 72)] H11->∃S12:LV->LHeap->Prop,CallL cfg 105 [(NdC.lv x8),(.int .i64 n1)] H11 S12/\(∀v H',S12 v H'->PresX [] H11 H'/\hasSh (.int .i64) v)/\
  (∀(n13:Int),∀H14:LHeap,S12 (.int .i64 n13) H14->(∀d15:Nat->LV,GoesT cfg 105 R [] H0 [] (L105_0 d15 (lwrap .i64 (n0+(1:Int))) n13 a2 l3 c4 n5) (loopAt cfg 105 0) H14))))))))))))
 /\ ((decide (n0<n5))=false->(Inv [] H0 [] H->R (.int .i64 n1) H)))):
 GoesT cfg 105 R [] H0 [] (L105_0 d n0 n1 a2 l3 c4 n5) (loopAt cfg 105 0) H:=
  seg_wt (k:=(.go 5 (.cases 13 (.go 6 (.op (.tuple []) (.facts (.op (.cust NdC NdC.lv) (.box (.put (.go 7 (.cases 17 (.go 5 (.facts .ret)) (.go 5 (.facts (.call (.int .i64) (.go 8 (.stop [12,1,10,11] 0))))))))))))) (.go 7 (.facts .ret))))) (by kernel_rfl) h
theorem e105(R:LV->LHeap->Prop)(x0:NdC)(n1:Int)(H:LHeap)
 (h:(∀(i2:Nat) (H3:LHeap),(∀d4:Nat->LV,GoesT cfg 105 R [] H [] (L105_0 d4 (0:Int) (lwrap .i64 (n1-(1:Int))) x0.argsA x0.argsL x0.argsQ ((x0.argsL:Nat):Int)) (loopAt cfg 105 0) H3))):
 CallL cfg 105 [(NdC.lv x0),(.int .i64 n1)] H R:=
  call_wt0 (k:=(.go 2 (.box (.go 18 (.stop [12,1,10,11] 0))))) (by kernel_rfl) h
theorem e42(R:LV->LHeap->Prop)(x0:NdC)(n1:Int)(H:LHeap)
 (h:(∀(i2:Nat) (H3:LHeap),(Inv [] H [(Slot.mk i2 (NdC.cs x0) 72)] H3->∃S4:LV->LHeap->Prop,CallL cfg 105 [(NdC.lv x0),(.int .i64 n1)] H3 S4/\(∀v H',S4 v H'->PresX [] H3 H'/\hasSh (.int .i64) v)/\
  (∀(n5:Int),∀H6:LHeap,S4 (.int .i64 n5) H6->(Inv [] H [(Slot.mk i2 (NdC.cs x0) 72)] H6->R (.bool (decide (n5<=0))) H6))))):
 CallL cfg 42 [(NdC.lv x0),(.int .i64 n1)] H R:=
  call_wt0 (k:=(.go 2 (.box (.go 6 (.facts (.call (.int .i64) (.go 3 (.facts .ret)))))))) (by kernel_rfl) h
inductive Nd where
 |mk (x:NdC) (args:List Nd)
def Nd.root:Nd->NdC
 | .mk x _=>x
mutual
def NdAt(H:LHeap):Nd->Prop
 | .mk x args=>args.length=x.argsL/\x.argsL<=maxLen/\NdsAt H args x.argsA 0
def NdsAt(H:LHeap):List Nd->Option LAddr->Nat->Prop
 |[],_,_=>True
 |n::l,a,i=>(a.isSome=true/\(adr a).id<H.next/\loadT cfg.P H 72 ⟨(adr a).id,(adr a).ver,(adr a).off+i*18⟩=some n.root.lv)/\NdAt H n/\NdsAt H l a (i+1)
end
mutual
theorem NdAt.on{H H':LHeap}(p:PresX [] H H'):∀{n:Nd},NdAt H n->NdAt H' n
 | .mk x args,h=>by
  unfold NdAt at h |-;exact ⟨h.1,h.2.1,NdsAt.on p h.2.2⟩
theorem NdsAt.on{H H':LHeap}(p:PresX [] H H'):∀{l:List Nd} {a:Option LAddr} {i:Nat},NdsAt H l a i->NdsAt H' l a i
 |[],_,_,_=>by unfold NdsAt;trivial
 |n::l,a,i,h=>by
  unfold NdsAt at h |-;obtain ⟨⟨h1,h2,h3⟩,h4,h5⟩:=h;exact ⟨⟨h1,Nat.lt_of_lt_of_le h2 p.next,p.load0 (a:=⟨(adr a).id,(adr a).ver,(adr a).off+i*18⟩) h2 h3⟩,NdAt.on p h4,NdsAt.on p h5⟩
end
theorem NdsAt.len{H:LHeap}:∀{l m:List Nd} {a:Option LAddr} {i:Nat},NdsAt H (l++m) a i->NdsAt H m a (i+l.length)
 |[],m,a,i,h=>h
 |n::l,m,a,i,h=>by
  rw [List.cons_append] at h;unfold NdsAt at h;have:=NdsAt.len h.2.2;rw [List.length_cons]
  rwa [show i+(l.length+1)=i+1+l.length by omega]
mutual
def leftT:Nd->Int->Int
 | .mk _ l,b=>leftTs l (b-1)
def leftTs:List Nd->Int->Int
 |[],b=>b
 |n::l,b=>if b<=0 then 0 else leftTs l (leftT n b)
end
mutual
theorem leftT_range:∀(n:Nd) (b:Int),1<=b->0<=leftT n b/\leftT n b<=b-1
 | .mk x l,b,h=>by
  unfold leftT;have:=leftTs_range l (b-1) (by omega);omega
theorem leftTs_range:∀(l:List Nd) (b:Int),0<=b->0<=leftTs l b/\leftTs l b<=b
 |[],b,h=>by unfold leftTs;omega
 |n::l,b,h=>by
  unfold leftTs;split
  ·omega
  ·have h1:=leftT_range n b (by omega);have h2:=leftTs_range l (leftT n b) h1.1;omega
end
theorem toNat_mul(i:Nat)(k:Nat):((i:Int)).toNat*k=i*k:=by simp
mutual
theorem s105:∀(n:Nd) (b:Int) (H:LHeap),1<=b->b<=1000->NdAt H n->CallL cfg 105 [n.root.lv,.int .i64 b] H (Ret (.int .i64 (leftT n b)) H)
 | .mk x l,b,H,h1,h2,hN=>by
  unfold NdAt at hN;refine e105 _ x b H fun i H1 d=> ?_;rw [lwrap_small (by omega) (by omega)];unfold leftT;have:=loop105 l x.argsA x.argsQ x.argsL H hN.2.1 0 (by omega) hN.2.2 (b-1) (by omega) (by omega) (leftTs l (b-1)) rfl d H1;simpa using this
theorem loop105:∀(l:List Nd) (a:Option LAddr) (q:Cap) (k:Nat) (H0:LHeap),k<=maxLen->∀(i:Nat),i+l.length=k->NdsAt H0 l a i->∀(b:Int),0<=b->b<=1000->∀(r:Int),leftTs l b=r->∀(d:Nat->LV) (H:LHeap),
  GoesT cfg 105 (Ret (.int .i64 r) H0) [] H0 [] (L105_0 d (i:Int) b a k q (k:Int)) (loopAt cfg 105 0) H
 |[],a,q,k,H0,hk,i,hi,hN,b,hb,hb',r,hr,d,H=>by
  intro hin hI;refine g105_0 _ H0 d i b a k q k H ⟨fun h=> ?_,fun h hI=> ?_⟩ hin hI
  ·simp at h hi;omega
  ·unfold leftTs at hr;rw [hr];exact .mk hI.pres
 |n::l,a,q,k,H0,hk,i,hi,hN,b,hb,hb',r,hr,d,H=>by
  intro hin hI;rw [List.length_cons] at hi;unfold NdsAt at hN;obtain ⟨⟨n1,n2,n3⟩,n4,n5⟩:=hN;unfold maxLen at hk;unfold leftTs at hr;refine g105_0 _ H0 d i b a k q k H ⟨fun h=>⟨⟨by omega,by omega,n1⟩,fun hI=>⟨n.root,by rw [toNat_mul];exact hI.pres.load0 (a:=⟨(adr a).id,(adr a).ver,(adr a).off+i*18⟩) n2 n3,fun j H1 H2=>⟨fun hc hI=> ?z,fun hc hI=>⟨_,s105 n b H2 (by simp at hc;omega) hb' (n4.on hI.pres),Ret.use ⟨_,rfl⟩,fun m H3 ⟨e,p⟩ d1=> ?s⟩⟩⟩⟩,fun h=> ?ge⟩ hin hI
  case ge=>simp at h;omega
  case z=>
   have:b<=0:=by simpa using hc
   rw [if_pos this] at hr;rw [<-hr];exact .mk hI.pres
  case s=>
   cases e;have hc':¬b<=0:=by simpa using hc
   rw [if_neg hc'] at hr;have hrg:=leftT_range n b (by omega);rw [lwrap_small (by omega) (by omega)];exact loop105 l a q k H0 (by unfold maxLen;omega) (i+1) (by omega) n5 (leftT n b) hrg.1 (by omega) r hr d1 H3
end
theorem s42(n:Nd)(H:LHeap)(b:Int)(h1:1<=b)(h2:b<=1000)(hN:NdAt H n):CallL cfg 42 [n.root.lv,.int .i64 b] H (Ret (.bool (decide (leftT n b<=0))) H):=by
 refine e42 _ n.root b H fun i H1 hI=>⟨_,s105 n b H1 h1 h2 (hN.on hI.pres),Ret.use ⟨_,rfl⟩,fun m H2 ⟨e,p⟩ hI=> ?_⟩;cases e;exact .mk hI.pres
theorem rowT:RowT cfg.P 70 72 18 192:=⟨by kernel_rfl,by kernel_rfl,by decide,by kernel_rfl,by kernel_rfl,by kernel_rfl,⟨(⟨0,[],0,0,[],[],[],0,0,false,false,[],[],0,0,false,false,none,0,.exact 0⟩:NdC).lv,by kernel_rfl,rfl⟩⟩
mutual
def NdIds(P:Nat->Prop):Nd->Prop
 | .mk x args=>(args=[]\/P (adr x.argsA).id)/\NdsIds P args
def NdsIds(P:Nat->Prop):List Nd->Prop
 |[]=>True
 |n::l=>NdIds P n/\NdsIds P l
end
mutual
theorem NdIds.mono{P Q:Nat->Prop}(h:∀i,P i->Q i):∀{n:Nd},NdIds P n->NdIds Q n
 | .mk x args,k=>by
  unfold NdIds at k |-;exact ⟨k.1.imp id (h _),NdsIds.mono h k.2⟩
theorem NdsIds.mono{P Q:Nat->Prop}(h:∀i,P i->Q i):∀{l:List Nd},NdsIds P l->NdsIds Q l
 |[],_=>by unfold NdsIds;trivial
 |n::l,k=>by
  unfold NdsIds at k |-;exact ⟨NdIds.mono h k.1,NdsIds.mono h k.2⟩
end
mutual
theorem NdAt.ids{H:LHeap}:∀{n:Nd},NdAt H n->NdIds (·<H.next) n
 | .mk x args,h=>by
  unfold NdAt at h;unfold NdIds;obtain ⟨h1,h2,h3⟩:=h;refine ⟨?_,NdsAt.ids h3⟩;cases args with
  |nil=>exact .inl rfl
  |cons n l=>unfold NdsAt at h3;exact .inr h3.1.2.1
theorem NdsAt.ids{H:LHeap}:∀{l:List Nd} {a:Option LAddr} {i:Nat},NdsAt H l a i->NdsIds (·<H.next) l
 |[],_,_,_=>by unfold NdsIds;trivial
 |n::l,a,i,h=>by
  unfold NdsAt at h;unfold NdsIds;exact ⟨NdAt.ids h.2.1,NdsAt.ids h.2.2⟩
end
mutual
theorem NdAt.onY{H H':LHeap}{Y:List Nat}(p:PresX Y H H'):∀{n:Nd},NdIds (·∉Y) n->NdAt H n->NdAt H' n
 | .mk x args,k,h=>by
  unfold NdAt at h |-;unfold NdIds at k;refine ⟨h.1,h.2.1,?_⟩;rcases k.1 with e |e
  ·subst e;unfold NdsAt;trivial
  ·exact NdsAt.onY p e k.2 h.2.2
theorem NdsAt.onY{H H':LHeap}{Y:List Nat}(p:PresX Y H H'):∀{l:List Nd} {a:Option LAddr} {i:Nat},(adr a).id∉Y->NdsIds (·∉Y) l->NdsAt H l a i->NdsAt H' l a i
 |[],_,_,_,_,_=>by unfold NdsAt;trivial
 |n::l,a,i,ha,k,h=>by
  unfold NdsAt at h |-;unfold NdsIds at k;obtain ⟨⟨h1,h2,h3⟩,h4,h5⟩:=h;exact ⟨⟨h1,Nat.lt_of_lt_of_le h2 p.next,p.load (a:=⟨(adr a).id,(adr a).ver,(adr a).off+i*18⟩) h2 ha h3⟩,NdAt.onY p k.1 h4,NdsAt.onY p ha k.2 h5⟩
end
theorem ndc_len(x:NdC):x.cs.length=18:=rfl
theorem ndc_cells(x:NdC):allCells x.cs=true:=rfl
def cellsOf:List Nd->List LV
 |[]=>[]
 |n::l=>n.root.cs++cellsOf l
theorem cellsOf_len:∀l:List Nd,(cellsOf l).length=l.length*18
 |[]=>rfl
 |n::l=>by rw [cellsOf,List.length_append,cellsOf_len l,ndc_len,List.length_cons];omega
theorem cellsOf_app:∀(l:List Nd) (n:Nd),cellsOf (l++[n])=cellsOf l++n.root.cs
 |[],n=>by simp [cellsOf]
 |m::l,n=>by simp only [List.cons_append,cellsOf,cellsOf_app l n,List.append_assoc]
theorem cellsOf_drop:∀(l:List Nd) (i:Nat) (n:Nd),l[i]? =some n->((cellsOf l).drop (i*18)).take 18=n.root.cs
 |[],i,n,h=>by simp at h
 |m::l,0,n,h=>by
  simp only [List.getElem?_cons_zero,Option.some.injEq] at h;subst h;rw [Nat.zero_mul,List.drop_zero,cellsOf,List.take_append_of_le_length (by rw [ndc_len];omega),List.take_of_length_le (by rw [ndc_len];omega)]
 |m::l,i+1,n,h=>by
  rw [cellsOf,show (i+1)*18=18+i*18 by omega,<-List.drop_drop];rw [show (m.root.cs++cellsOf l).drop 18=cellsOf l by rw [List.drop_append_of_le_length (by rw [ndc_len];omega),List.drop_of_length_le (by rw [ndc_len];omega)];rfl];exact cellsOf_drop l i n (by simpa using h)
theorem nds_row{H:LHeap}{a:Option LAddr}{q:Cap}(ms:List Nd)(hr:RowAt H 72 18 a ms.length q (cellsOf ms))(hm:∀m∈ms,NdAt H m):∀(l:List Nd) (i:Nat),(∀(j:Nat) (n:Nd),l[j]? =some n->ms[i+j]? =some n)->NdsAt H l a i
 |[],i,_=>by unfold NdsAt;trivial
 |n::l,i,h=>by
  have h0:ms[i]? =some n:=h 0 n rfl;have hi:i<ms.length:=(List.getElem?_eq_some_iff.1 h0).1;obtain ⟨h1,h2,h3⟩:=hr.load hi;unfold NdsAt;refine ⟨⟨h1,h2,?_⟩,hm n (List.mem_of_getElem? h0),nds_row ms hr hm l (i+1) fun j m hj=>by
   have:=h (j+1) m (by simpa using hj)
   rwa [show i+1+j=i+(j+1) by omega]⟩
  rw [cellsOf_drop ms i n h0] at h3;exact load_agg (by kernel_rfl) (by kernel_rfl) h3
def NdC.bare(x:NdC):NdC:={ x with argsA:=none,argsL:=0,argsQ:=.exact 0 }
theorem NdC.lv_cs{a b:NdC}(h:a.lv=b.lv):a.cs=b.cs:=by
 unfold NdC.lv at h;exact LV.agg.inj h
mutual
def NdSm:Nd->Prop
 | .mk x l=>x.argsL<=1000000000/\NdsSm l
def NdsSm:List Nd->Prop
 |[]=>True
 |n::l=>NdSm n/\NdsSm l
end
mutual
def preT:Nd->List NdC
 | .mk x l=>x::preTs l
def preTs:List Nd->List NdC
 |[]=>[]
 |n::l=>preT n++preTs l
end
theorem preTs_snoc:∀(l:List Nd) (n:Nd),preTs (l++[n])=preTs l++preT n
 |[],n=>by simp [preTs]
 |m::l,n=>by simp only [List.cons_append,preTs,preTs_snoc l n,List.append_assoc]
theorem preTs_app:∀(l m:List Nd),preTs (l++m)=preTs l++preTs m
 |[],m=>by simp [preTs]
 |n::l,m=>by simp only [List.cons_append,preTs,preTs_app l m,List.append_assoc]
def cellsC:List NdC->List LV
 |[]=>[]
 |x::l=>x.cs++cellsC l
theorem cellsC_app:∀(l m:List NdC),cellsC (l++m)=cellsC l++cellsC m
 |[],m=>rfl
 |x::l,m=>by simp only [List.cons_append,cellsC,cellsC_app l m,List.append_assoc]
theorem cellsC_len:∀l:List NdC,(cellsC l).length=l.length*18
 |[]=>rfl
 |x::l=>by rw [cellsC,List.length_append,cellsC_len l,ndc_len,List.length_cons];omega
theorem leftTs_pos:∀{l:List Nd} {b:Int},0<leftTs l b->0<b
 |[],b,h=>by unfold leftTs at h;exact h
 |n::l,b,h=>by
  unfold leftTs at h;split at h
  ·omega
  ·omega
mutual
theorem leftT_size:∀(n:Nd) (b:Int),0<leftT n b->leftT n b=b-(preT n).length
 | .mk x l,b,h=>by
  unfold leftT at h |-;rw [leftTs_size l (b-1) h,preT,List.length_cons];omega
theorem leftTs_size:∀(l:List Nd) (b:Int),0<leftTs l b->leftTs l b=b-(preTs l).length
 |[],b,h=>by unfold leftTs preTs;simp
 |n::l,b,h=>by
  unfold leftTs at h |-;split at h
  ·omega
  ·rename_i hb;rw [if_neg hb];have h1:=leftTs_pos h;rw [leftTs_size l _ h,leftT_size n b h1,preTs,List.length_append];omega
end
theorem preTs_len:∀l:List Nd,l.length<=(preTs l).length
 |[]=>by simp
 | .mk x m::l=>by
  have:=preTs_len l;simp only [preTs,preT,List.length_cons,List.length_append];omega
mutual
theorem ndSm:∀(n:Nd) (H:LHeap),NdAt H n->(preT n).length<=1000000->NdSm n
 | .mk x l,H,h,hs=>by
  unfold NdAt at h;unfold NdSm;rw [preT,List.length_cons] at hs;have:=preTs_len l;exact ⟨by omega,ndsSm l H _ _ h.2.2 (by omega)⟩
theorem ndsSm:∀(l:List Nd) (H:LHeap) (a:Option LAddr) (i:Nat),NdsAt H l a i->(preTs l).length<=1000000->NdsSm l
 |[],_,_,_,_,_=>by unfold NdsSm;trivial
 |n::l,H,a,i,h,hs=>by
  unfold NdsAt at h;unfold NdsSm;rw [preTs,List.length_append] at hs;exact ⟨ndSm n H h.2.1 (by omega),ndsSm l H a (i+1) h.2.2 (by omega)⟩
end
mutual
def NdStr:Nd->Prop
 | .mk x l=>x.s.length<=maxLen/\NdsStr l
def NdsStr:List Nd->Prop
 |[]=>True
 |n::l=>NdStr n/\NdsStr l
end
theorem NdsStr.all:∀{l:List Nd},(∀m∈l,NdStr m)->NdsStr l
 |[],_=>by unfold NdsStr;trivial
 |n::l,h=>by
  unfold NdsStr;exact ⟨h n List.mem_cons_self,NdsStr.all fun m hm=>h m (List.mem_cons_of_mem _ hm)⟩
theorem NdsStr.mem:∀{l:List Nd},NdsStr l->∀m∈l,NdStr m
 |[],h,m,hm=>by cases hm
 |n::l,h,m,hm=>by
  unfold NdsStr at h;rcases List.mem_cons.1 hm with rfl |hm
  ·exact h.1
  ·exact NdsStr.mem h.2 m hm
mutual
def NdE(H:LHeap)(P:Nat->Prop):Nd->Prop
 | .mk x l=>(∀a,x.argsA=some a->P a.id/\a.id<H.next/\loadN H a 0=some [])/\NdsE H P l
def NdsE(H:LHeap)(P:Nat->Prop):List Nd->Prop
 |[]=>True
 |n::l=>NdE H P n/\NdsE H P l
end
mutual
theorem NdE.onY{H H':LHeap}{P Q:Nat->Prop}{Y:List Nat}(p:PresX Y H H')(hP:∀i,P i->i<H.next->i∉Y/\Q i):∀{n:Nd},NdE H P n->NdE H' Q n
 | .mk x l,h=>by
  unfold NdE at h |-;refine ⟨fun a e=> ?_,NdsE.onY p hP h.2⟩;obtain ⟨h1,h2,h3⟩:=h.1 a e;obtain ⟨h4,h5⟩:=hP _ h1 h2;exact ⟨h5,Nat.lt_of_lt_of_le h2 p.next,(p.keep _ h2 h4).loads a _ _ rfl h3⟩
theorem NdsE.onY{H H':LHeap}{P Q:Nat->Prop}{Y:List Nat}(p:PresX Y H H')(hP:∀i,P i->i<H.next->i∉Y/\Q i):∀{l:List Nd},NdsE H P l->NdsE H' Q l
 |[],_=>by unfold NdsE;trivial
 |n::l,h=>by
  unfold NdsE at h |-;exact ⟨NdE.onY p hP h.1,NdsE.onY p hP h.2⟩
end
theorem NdE.on{H H':LHeap}{P:Nat->Prop}(p:PresX [] H H'){n:Nd}(h:NdE H P n):NdE H' P n:=NdE.onY p (fun i hi _=>⟨by simp,hi⟩) h
theorem NdsE.on{H H':LHeap}{P:Nat->Prop}(p:PresX [] H H'){l:List Nd}(h:NdsE H P l):NdsE H' P l:=NdsE.onY p (fun i hi _=>⟨by simp,hi⟩) h
theorem NdE.mono{H:LHeap}{P Q:Nat->Prop}(hP:∀i,P i->i<H.next->Q i){n:Nd}(h:NdE H P n):NdE H Q n:=NdE.onY (.refl [] H) (fun i hi hl=>⟨by simp,hP i hi hl⟩) h
theorem NdsE.all{H:LHeap}{P:Nat->Prop}:∀{l:List Nd},(∀m∈l,NdE H P m)->NdsE H P l
 |[],_=>by unfold NdsE;trivial
 |n::l,h=>by
  unfold NdsE;exact ⟨h n List.mem_cons_self,NdsE.all fun m hm=>h m (List.mem_cons_of_mem _ hm)⟩
theorem NdsE.mem{H:LHeap}{P:Nat->Prop}:∀{l:List Nd},NdsE H P l->∀m∈l,NdE H P m
 |[],_,m,hm=>by cases hm
 |n::l,h,m,hm=>by
  unfold NdsE at h;rcases List.mem_cons.1 hm with rfl |hm
  ·exact h.1
  ·exact NdsE.mem h.2 m hm
def L106t_0(d:Nat->LV)(n0:Int)(a1:Option LAddr)(l2:Nat)(c3:Cap)(n4:Int):List SV:=[(.lv (d 0)),(.own 0 0),(.own 1 0),(.lv (.slice a1 l2 c3)),(.lv (d 4)),(.lv (d 5)),(.lv (d 6)),(.lv (d 7)),(.lv (d 8)),(.lv (.int .i64 n4)),(.lv (.int .i64 n0)),(.lv (d 11)),(.lv (d 12)),(.lv (d 13)),(.lv (d 14)),(.lv (d 15)),(.lv (d 16)),(.lv (d 17)),(.lv (d 18)),(.lv (d 19)),(.lv (d 20)),(.lv (d 21)),(.lv (d 22)),(.lv (d 23)),(.lv (d 24))]
theorem g106t_0(R:LV->LHeap->Prop)(H0:LHeap)(d:Nat->LV)(n0:Int)(a1:Option LAddr)(l2:Nat)(c3:Cap)(n4:Int)(i5:Nat)(x6:NdC)(i7:Nat)(x8:NdC)(H:LHeap)
 (h:(((decide (n0<n4))=true->((((0:Int)<=n0)/\((n0<((l2:Nat):Int))/\((Option.isSome a1)=true)))/\(Inv [] H0 [(Slot.mk i5 (NdC.cs x6) 72),(Slot.mk i7 (NdC.cs x8) 72)] H->(∃x11:NdC,((loadT (cfg).P H 72 (LAddr.mk (LAddr.id (adr a1)) (LAddr.ver (adr a1)) ((LAddr.off (adr a1))+((Int.toNat n0)*18)))=some (NdC.lv x11))/\(Inv [] H0 [(Slot.mk i5 (NdC.cs x6) 72),(Slot.mk i7 (NdC.cs x8) 72)] H->∃S12:LV->LHeap->Prop,CallL cfg 106 [(NdC.lv x11)] H S12/\(∀v H',S12 v H'->PresX [] H H'/\hasSh (.cust NdC NdC.lv) v)/\
  (∀(x13:NdC),∀H14:LHeap,S12 (NdC.lv x13) H14->((((0:Int)<=n0)/\((n0<((l2:Nat):Int))/\((Option.isSome a1)=true)))/\(Inv [] H0 [(Slot.mk i5 (NdC.cs x6) 72),(Slot.mk i7 (NdC.cs x8) 72)] H14->∃H16:LHeap,(storeT cfg.P H14 72 (LAddr.mk (LAddr.id (adr a1)) (LAddr.ver (adr a1)) ((LAddr.off (adr a1))+((Int.toNat n0)*18))) (NdC.lv x13)=some H16/\okId [] H0 [(Slot.mk i5 (NdC.cs x6) 72),(Slot.mk i7 (NdC.cs x8) 72)] (LAddr.id (adr a1)))/\(∀d17:Nat->LV,GoesT cfg 106 R [] H0 [(Slot.mk i5 (NdC.cs x6) 72),(Slot.mk i7 (NdC.cs x8) 72)] (L106t_0 d17 (lwrap .i64 (n0+(1:Int))) a1 l2 c3 n4) (loopAt cfg 106 0) H16))))))))))
 /\ ((decide (n0<n4))=false->(∀H18:LHeap,PresX [i5] H H18->(∀H19:LHeap,PresX [i7] H18 H19->(Inv [] H0 [(Slot.mk i5 [(.int .i64 x6.kind),(.str x6.s),(.int .i64 x6.valueKind),(.int .i64 x6.valueN),(.str x6.valueS),(.str x6.refBook),(.str x6.refSheet),(.int .i64 x6.refRow),(.int .i64 x6.refCol),(.bool x6.refFixRow),(.bool x6.refFixCol),(.str x6.toBook),(.str x6.toSheet),(.int .i64 x6.toRow),(.int .i64 x6.toCol),(.bool x6.toFixRow),(.bool x6.toFixCol),(.slice a1 l2 c3)] 72),(Slot.mk i7 [(.int .i64 x6.kind),(.str x6.s),(.int .i64 x6.valueKind),(.int .i64 x6.valueN),(.str x6.valueS),(.str x6.refBook),(.str x6.refSheet),(.int .i64 x6.refRow),(.int .i64 x6.refCol),(.bool x6.refFixRow),(.bool x6.refFixCol),(.str x6.toBook),(.str x6.toSheet),(.int .i64 x6.toRow),(.int .i64 x6.toCol),(.bool x6.toFixRow),(.bool x6.toFixCol),(.slice a1 l2 c3)] 72)] H19->R (.agg [(.int .i64 x6.kind),(.str x6.s),(.int .i64 x6.valueKind),(.int .i64 x6.valueN),(.str x6.valueS),(.str x6.refBook),(.str x6.refSheet),(.int .i64 x6.refRow),(.int .i64 x6.refCol),(.bool x6.refFixRow),(.bool x6.refFixCol),(.str x6.toBook),(.str x6.toSheet),(.int .i64 x6.toRow),(.int .i64 x6.toCol),(.bool x6.toFixRow),(.bool x6.toFixCol),(.slice a1 l2 c3)]) H19)))))):
 GoesT cfg 106 R [] H0 [(Slot.mk i5 (NdC.cs x6) 72),(Slot.mk i7 (NdC.cs x8) 72)] (L106t_0 d n0 a1 l2 c3 n4) (loopAt cfg 106 0) H:=
  seg_wt (k:=(.go 5 (.cases 11 (.go 14 (.op (.tuple []) (.facts (.op (.cust NdC NdC.lv) (.facts (.call (.cust NdC NdC.lv) (.op (.tuple []) (.facts (.store (.go 7 (.stop [10,3,2,1,9] 2))))))))))) (.go 6 (.putP (.go 4 (.putP (.go 1 (.facts .ret))))))))) (by kernel_rfl) h
theorem e106t(R:LV->LHeap->Prop)(x0:NdC)(H:LHeap)
 (h:(∀(i1:Nat) (H2:LHeap),H.next<=i1->PresX [] H H2->(∀(i3:Nat) (H4:LHeap),H2.next<=i3->PresX [] H2 H4->(Inv [] H [(Slot.mk i1 (NdC.cs x0) 72),(Slot.mk i3 [(.int .i64 (0:Int)),(.str []),(.int .i64 (0:Int)),(.int .i64 (0:Int)),(.str []),(.str []),(.str []),(.int .i64 (0:Int)),(.int .i64 (0:Int)),(.bool false),(.bool false),(.str []),(.str []),(.int .i64 (0:Int)),(.int .i64 (0:Int)),(.bool false),(.bool false),(.slice none 0 (Cap.exact 0))] 72)] H4->∃S5:LV->LHeap->Prop,CallL cfg 191 [(.slice x0.argsA x0.argsL x0.argsQ)] H4 S5/\(∀v H',S5 v H'->PresX [] H4 H'/\hasSh .slice v)/\
  (∀(a6:Option LAddr),∀(l7:Nat),∀(c8:Cap),∀H9:LHeap,S5 (.slice a6 l7 c8) H9->(∀d10:Nat->LV,GoesT cfg 106 R [] H [(Slot.mk i1 (NdC.cs x0) 72),(Slot.mk i3 [(.int .i64 (0:Int)),(.str []),(.int .i64 (0:Int)),(.int .i64 (0:Int)),(.str []),(.str []),(.str []),(.int .i64 (0:Int)),(.int .i64 (0:Int)),(.bool false),(.bool false),(.str []),(.str []),(.int .i64 (0:Int)),(.int .i64 (0:Int)),(.bool false),(.bool false),(.slice none 0 (Cap.exact 0))] 72)] (L106t_0 d10 (0:Int) a6 l7 c8 ((l7:Nat):Int)) (loopAt cfg 106 0) H9)))))):
 CallL cfg 106 [(NdC.lv x0)] H R:=
  call_wt0 (k:=(.go 2 (.boxP (.boxP (.go 5 (.facts (.call .slice (.go 11 (.stop [10,3,2,1,9] 2))))))))) (by kernel_rfl) h
theorem e191t(R:LV->LHeap->Prop)(a0:Option LAddr)(l1:Nat)(c2:Cap)(H:LHeap)
 (h:(((Option.isNone a0)=true->(Inv [] H [] H->R (.slice none 0 (Cap.exact 0)) H))
 /\ ((Option.isNone a0)=false->(∀H4:LHeap,H4=(LHeap.push H (LObj.cells [] 72 0 0 FZ.none false true))->(Inv [] H [] H4->∃Y:List Nat,∃(a5:Option LAddr),∃(l6:Nat),∃(c7:Cap),∃H8:LHeap,(appendL cfg.P H4 [70,70] [(.slice (some (LAddr.mk (LHeap.next H) 0 0)) 0 (Cap.exact 0)),(.slice a0 l1 c2)]=some ((.slice a5 l6 c7),H8)/\PresX Y H4 H8/\∀i∈Y,okId [] H [] i)/\(Inv [] H [] H8->R (.slice a5 l6 c7) H8)))))):
 CallL cfg 191 [(.slice a0 l1 c2)] H R:=
  call_wt0 (k:=(.go 8 (.op .bool (.go 1 (.cases 4 (.go 5 (.facts .ret)) (.go 4 (.row (.go 1 (.facts (.app (.go 2 (.facts .ret)))))))))))) (by kernel_rfl) h
theorem e45t(R:LV->LHeap->Prop)(x0:NdC)(H:LHeap)
 (h:(∀(i1:Nat) (H2:LHeap),H.next<=i1->PresX [] H H2->(Inv [] H [(Slot.mk i1 (NdC.cs x0) 72)] H2->∃S3:LV->LHeap->Prop,CallL cfg 106 [(NdC.lv x0)] H2 S3/\(∀v H',S3 v H'->PresX [] H2 H'/\hasSh (.cust NdC NdC.lv) v)/\
  (∀(x4:NdC),∀H5:LHeap,S3 (NdC.lv x4) H5->(∀H6:LHeap,PresX [i1] H5 H6->(Inv [] H [(Slot.mk i1 (NdC.cs x4) 72)] H6->R (.func (Fn.func 107) [] [(.ptr (some (LAddr.mk i1 18 0)))]) H6)))))):
 CallL cfg 45 [(NdC.lv x0)] H R:=
  call_wt0 (k:=(.go 2 (.boxP (.go 5 (.facts (.call (.cust NdC NdC.lv) (.putP (.go 6 (.facts .ret))))))))) (by kernel_rfl) h
mutual
def Cp:Nd->Nd->Prop
 | .mk x l,.mk y m=>y.bare=x.bare/\Cps l m
def Cps:List Nd->List Nd->Prop
 |[],[]=>True
 |n::l,k::m=>Cp n k/\Cps l m
 |[],_::_=>False
 |_::_,[]=>False
end
theorem Cps.snoc{n k:Nd}:∀{l m:List Nd},Cps l m->Cp n k->Cps (l++[n]) (m++[k])
 |[],[],_,h=>by simp only [List.nil_append,Cps];exact ⟨h,trivial⟩
 |a::l,b::m,h,k=>by simp only [List.cons_append,Cps] at h |-;exact ⟨h.1,h.2.snoc k⟩
 |[],_::_,h,_=>by simp only [Cps] at h
 |_::_,[],h,_=>by simp only [Cps] at h
theorem ndc_load{H:LHeap}{a:Option LAddr}:∀{l:List Nd} {i:Nat},NdsAt H l a i->∀(j:Nat) (n:Nd),l[j]? =some n->loadN H ⟨(adr a).id,(adr a).ver,(adr a).off+(i+j)*18⟩ 18=some n.root.cs
 |[],i,h,j,n,hj=>by simp at hj
 |n::l,i,h,0,m,hj=>by
  cases hj;unfold NdsAt at h;have h3:=h.1.2.2;unfold loadT at h3;rw [show isAggT cfg.P 72=some true by kernel_rfl,show sizeOfT cfg.P 72=some 18 by kernel_rfl] at h3;simp only [Option.map_eq_some_iff] at h3;obtain ⟨cs,h4,h5⟩:=h3;rw [Nat.add_zero,h4];unfold NdC.lv at h5;rw [LV.agg.inj h5]
 |n::l,i,h,j+1,m,hj=>by
  unfold NdsAt at h;have:=ndc_load h.2.2 j m (by simpa using hj)
  rwa [show i+1+j=i+(j+1) by omega] at this
theorem cellsOf_range:∀(l:List Nd) (f:Nat->List LV),(∀(j:Nat) (n:Nd),l[j]? =some n->f j=n.root.cs)->(List.range l.length).flatMap f=cellsOf l
 |[],f,_=>rfl
 |n::l,f,h=>by
  rw [List.length_cons,List.range_succ_eq_map,List.flatMap_cons,h 0 n rfl,cellsOf,List.flatMap_map];congr 1;exact cellsOf_range l _ fun j m hj=>h (j+1) m (by simpa using hj)
theorem cellsOf_cells:∀l:List Nd,allCells (cellsOf l)=true
 |[]=>rfl
 |n::l=>by rw [cellsOf];exact allCells_app (ndc_cells _) (cellsOf_cells l)
theorem nds_load{H:LHeap}{a:LAddr}{l:List Nd}(h:NdsAt H l (some a) 0)(h0:loadN H a 0=some []):loadN H a (l.length*18)=some (cellsOf l):=by
 have:=loadN_rows (s:=18) h0 l.length (fun i=>match l[i]? with |some n=>n.root.cs |none=>[]) fun i hi=>by
  have:=ndc_load h i l[i] (List.getElem?_eq_getElem hi);rw [Nat.zero_add] at this;rw [List.getElem?_eq_getElem hi];exact this
 rw [this,cellsOf_range l _ fun j n hj=>by simp only [hj]]
theorem s191(l:List Nd)(a:Option LAddr)(q:Cap)(H:LHeap)(hA:NdsAt H l a 0)(h0:∀ad,a=some ad->loadN H ad 0=some [])(hid:∀ad,a=some ad->ad.id<H.next)(hl:l.length<=1000000000):
  CallL cfg 191 [.slice a l.length q] H (fun v H'=>PresX [] H H'/\∃a' q',v=.slice a' l.length q'/\RowAt H' 72 18 a' l.length q' (cellsOf l)/\(∀ad,a'=some ad->H.next<=ad.id)/\(0<l.length->q'=.free 18)):=by
 refine e191t _ a l.length q H ⟨fun h hI=>⟨hI.pres,none,.exact 0,?_,?_,?_,?_⟩,fun h H4 e4 hI4=> ?_⟩
 ·cases a with
  |some a=>cases h
  |none=>cases l with
   |nil=>rfl
   |cons n l=>unfold NdsAt at hA;cases hA.1.1
 ·cases a with
  |some a=>cases h
  |none=>cases l with
   |nil=>exact .nil
   |cons n l=>unfold NdsAt at hA;cases hA.1.1
 ·intro ad e;cases e
 ·intro hp;cases a with
  |some a=>cases h
  |none=>cases l with
   |nil=>simp at hp
   |cons n l=>unfold NdsAt at hA;cases hA.1.1
 ·cases a with
  |none=>cases h
  |some a=>
   have p4:PresX [] H H4:=by rw [e4];exact .push _ _ _
   have hr:RowAt H4 72 18 (some ⟨H.next,0,0⟩) 0 (.exact 0) []:=.full ⟨H.next,0,0⟩ 0 [] (by rw [e4];exact Nat.lt_succ_self _) (by rw [e4];unfold loadN;simp only [LHeap.get_push,if_true];rfl) rfl rfl;have hld:=(p4.keep _ (hid a rfl) (by simp)).loads a _ _ rfl (nds_load hA (h0 a rfl));obtain ⟨Y,a',q',H8,g1,g2,g3,g4,g5,g6⟩:=hr.append2 rowT (x:=.slice (some a) l.length q) (m:=l.length) (new:=cellsOf l) rfl (by simp only [firstCellsL,Nat.ble_eq,Nat.le_refl,if_true];exact hld) (by rw [cellsOf_len]) (cellsOf_cells l) (by omega);rw [Nat.zero_add] at g1 g3;refine ⟨Y,a',l.length,q',H8,⟨g1,g2,fun i hi=> ?_⟩,fun hI8=>⟨hI8.pres,a',q',rfl,by simpa using g3,fun ad e=> ?_,g6⟩⟩
   ·obtain ⟨ad,e,rfl⟩:=g4 i hi;cases e;exact ⟨.inr (Nat.le_refl _),fun k s hs=>by simp [nth] at hs⟩
   ·rcases g5 ad e with ⟨ad',e1,e2⟩ |e2
    ·cases e1;rw [<-e2];exact Nat.le_refl _
    ·exact Nat.le_trans p4.next e2
mutual
theorem ndE_ids{H H1:LHeap}{P:Nat->Prop}:∀{n:Nd},NdE H P n->NdAt H1 n->NdIds P n
 | .mk x l,h,k=>by
  unfold NdE at h;unfold NdAt at k;unfold NdIds;refine ⟨?_,ndsE_ids h.2 k.2.2⟩;cases l with
  |nil=>exact .inl rfl
  |cons n l=>
   refine .inr ?_;have k2:=k.2.2;unfold NdsAt at k2;have h1:=k2.1.1;cases e:x.argsA with
   |none=>rw [e] at h1;cases h1
   |some a=>exact (h.1 a e).1
theorem ndsE_ids{H H1:LHeap}{P:Nat->Prop}:∀{l:List Nd} {a:Option LAddr} {i:Nat},NdsE H P l->NdsAt H1 l a i->NdsIds P l
 |[],_,_,_,_=>by unfold NdsIds;trivial
 |n::l,a,i,h,k=>by
  unfold NdsE at h;unfold NdsAt at k;unfold NdsIds;exact ⟨ndE_ids h.1 k.2.1,ndsE_ids h.2 k.2.2⟩
end
def CopR(N:Nd)(H:LHeap):LV->LHeap->Prop:=
 fun v H'=>PresX [] H H'/\∃M:Nd,v=M.root.lv/\Cp N M/\NdAt H' M/\NdE H' (fun j=>H.next<=j) M
theorem copR_sh{N:Nd}{H:LHeap}:∀v H',CopR N H v H'->PresX [] H H'/\hasSh (.cust NdC NdC.lv) v:=
 fun v H' ⟨h1,M,e,_⟩=>⟨h1,⟨M.root,e⟩⟩
theorem nds_row2{H:LHeap}{a:Option LAddr}{q:Cap}(ms:List Nd)(hr:RowAt H 72 18 a ms.length q (cellsOf ms))(hm:∀m∈ms,NdAt H m):NdsAt H ms a 0:=
 nds_row ms hr hm ms 0 fun j n h=>by rwa [Nat.zero_add]
theorem node_store{H:LHeap}{a:Option LAddr}{n:Nat}{A B C:List LV}(h:RowAt H 72 18 a n (.free 18) (A++(B++C))){i:Nat}(hA:A.length=i*18)(hB:B.length=18)(x:NdC):
  ∃H',storeT cfg.P H 72 ⟨(adr a).id,(adr a).ver,(adr a).off+i*18⟩ x.lv=some H'/\RowAt H' 72 18 a n (.free 18) (A++(x.cs++C))/\PresX [(adr a).id] H H':=by
 obtain ⟨H',h1,h2,h3⟩:=h.store hA (V:=x.cs) (ndc_len x) hB (ndc_cells x) (by omega);refine ⟨H',?_,h2,h3⟩;unfold storeT;rw [show sizeOfT cfg.P 72=some 18 by kernel_rfl];exact h1
theorem loop106:∀(l2:List Nd) (_:∀n∈l2,∀H,NdAt H n->NdE H (fun _=>True) n->CallL cfg 106 [n.root.lv] H (CopR n H)) (l1 ms:List Nd) (x x8:NdC) (H0:LHeap) (a:Option LAddr) (k:Nat) (q:Cap) (i5 i7:Nat) (d:Nat->LV) (H:LHeap),
  k=(l1++l2).length->k<=1000000000->(∀n∈l2,NdAt H0 n)->(∀n∈l2,NdE H0 (fun _=>True) n)->ms.length=l1.length->Cps l1 ms->RowAt H 72 18 a k q (cellsOf ms++cellsOf l2)->(0<k->q=.free 18)->
  (∀ad,a=some ad->H0.next<=ad.id/\ad.id≠i5/\ad.id≠i7)->(∀m∈ms,NdAt H m)->(∀m∈ms,NdE H (fun j=>H0.next<=j/\j≠i5/\j≠i7/\∀ad,a=some ad->j≠ad.id) m)->i5<H.next->i7<H.next->
  GoesT cfg 106 (CopR (.mk x (l1++l2)) H0) [] H0 [⟨i5,x.cs,72⟩,⟨i7,x8.cs,72⟩] (L106t_0 d (l1.length:Int) a k q (k:Int)) (loopAt cfg 106 0) H
 |[],_,l1,ms,x,x8,H0,a,k,q,i5,i7,d,H,hk,hbig,hN,hE,hml,hcp,hr,hq,ha,hmA,hmE,h5,h7=>by
  intro hin hI;rw [List.append_nil] at hk;refine g106t_0 _ H0 d l1.length a k q k i5 x i7 x8 H ⟨fun h=> ?_,fun _ H18 p18 H19 p19 hI19=> ?_⟩ hin hI
  ·simp at h;omega
  ·have hkm:k=ms.length:=by omega
   subst hkm;rw [cellsOf,List.append_nil] at hr;have hrn:∀ad,a=some ad->ad.id<H.next:=fun ad e=>by subst e;exact hr.id
   have pp:PresX [i5,i7] H H19:=(p18.mono (Y:=[i5,i7]) (fun i hi=>by simp at hi;simp [hi])).trans p19 (fun i hi=>.inl (by simp at hi;simp [hi]));have out:∀ad,a=some ad->ad.id∉[i5,i7]:=fun ad e=>by have:=ha ad e;simp [this.2.1,this.2.2]
   have r19:RowAt H19 72 18 a ms.length q (cellsOf ms):=hr.on pp.next (fun ad e=>pp.keep _ (hrn ad e) (out ad e)) (fun ad e _=>(pp.keep _ (hrn ad e) (out ad e)).get);have hA:∀m∈ms,NdAt H19 m:=fun m hm=>by
    have e1:=hmE m hm;refine NdAt.onY pp ?_ (hmA m hm);exact ndE_ids (P:=fun j=>j∉[i5,i7]) (NdE.mono (fun j hj _=>by simp [hj.2.1,hj.2.2.1]) e1) (hmA m hm)
   refine ⟨hI19.pres,.mk { x with argsA:=a,argsL:=ms.length,argsQ:=q } ms,rfl,?_,?_,?_⟩
   ·rw [List.append_nil];unfold Cp;exact ⟨rfl,hcp⟩
   ·unfold NdAt;exact ⟨rfl,by show ms.length<=maxLen;unfold maxLen;omega,nds_row2 ms r19 hA⟩
   ·unfold NdE;refine ⟨fun ad e=>⟨(ha ad e).1,Nat.lt_of_lt_of_le (hrn ad e) pp.next,?_⟩,NdsE.all fun m hm=>NdE.onY pp (fun j hj _=>⟨by simp [hj.2.1,hj.2.2.1],hj.1⟩) (hmE m hm)⟩;subst e;exact r19.zero
 |n::l2,hs,l1,ms,x,x8,H0,a,k,q,i5,i7,d,H,hk,hbig,hN,hE,hml,hcp,hr,hq,ha,hmA,hmE,h5,h7=>by
  intro hin hI;rw [List.length_append,List.length_cons] at hk;have hq':=hq (by omega);subst hq';have hrn:∀ad,a=some ad->ad.id<H.next:=fun ad e=>by subst e;exact hr.id
  obtain ⟨g1,g2,g3⟩:=hr.load (i:=l1.length) (by omega);have hcl:(cellsOf ms).length=l1.length*18:=by rw [cellsOf_len,hml]
  have hld:((cellsOf ms++cellsOf (n::l2)).drop (l1.length*18)).take 18=n.root.cs:=by
   rw [<-hcl,List.drop_left,cellsOf,List.take_append_of_le_length (by rw [ndc_len];omega),List.take_of_length_le (by rw [ndc_len];omega)]
  rw [hld] at g3;obtain ⟨ad,rfl⟩:∃ad,a=some ad:=by
   cases a with
   |none=>cases g1
   |some ad=>exact ⟨ad,rfl⟩
  have hall:l1++n::l2=(l1++[n])++l2:=by simp
  refine g106t_0 _ H0 d l1.length (some ad) k (.free 18) k i5 x i7 x8 H ⟨fun h=>⟨⟨by omega,by omega,g1⟩,fun hI=>⟨n.root,?ld,fun hI=>⟨_,hs n List.mem_cons_self H ((hN n List.mem_cons_self).on hI.pres) ((hE n List.mem_cons_self).on hI.pres),copR_sh,fun x13 H14 ⟨p14,M,eM,cM,aM,dM⟩=>⟨⟨by omega,by omega,g1⟩,fun hI14=> ?st⟩⟩⟩⟩,fun h=> ?ge⟩ hin hI
  case ge=>simp at h;omega
  case ld=>
   simp only [Int.toNat_natCast];exact load_agg (by kernel_rfl) (by kernel_rfl) g3
  case st=>
   have r14:RowAt H14 72 18 (some ad) k (.free 18) (cellsOf ms++(n.root.cs++cellsOf l2)):=hr.on p14.next (fun ad e=>p14.keep _ (hrn ad e) (by simp)) (fun ad e _=>(p14.keep _ (hrn ad e) (by simp)).get);obtain ⟨H16,k1,k2,k3⟩:=node_store r14 hcl (ndc_len _) M.root;have hadn:=hrn ad rfl;have had:=ha ad rfl;refine ⟨H16,⟨by simp only [Int.toNat_natCast];rw [eM];exact k1,.inr had.1,fun m s hs=> ?_⟩,fun d17=> ?_⟩
   ·match m,hs with
    |0,hs=>cases hs;exact fun e=>had.2.1 e.symm
    |1,hs=>cases hs;exact fun e=>had.2.2 e.symm
    |m+2,hs=>simp [nth] at hs
   ·have hk':(l1.length:Int)+1=(((l1++[n]).length:Nat):Int):=by simp
    rw [lwrap_small (by omega) (by omega),hk',hall];have k3':PresX [ad.id] H14 H16:=k3;have step:∀{m:Nd} {P:Nat->Prop},NdAt H14 m->NdE H14 P m->(∀j,P j->j<H14.next->j≠ad.id/\H0.next<=j/\j≠i5/\j≠i7)->NdAt H16 m/\NdE H16 (fun j=>H0.next<=j/\j≠i5/\j≠i7/\∀ad',some ad=some ad'->j≠ad'.id) m:=by
     intro m P hA hE' hP;refine ⟨NdAt.onY k3' (ndE_ids (P:=fun j=>j∉[ad.id]) (NdE.mono (fun j hj hl=>by have:=hP j hj hl;simp [this.1]) hE') hA) hA,NdE.onY k3' (fun j hj hl=> ?_) hE'⟩;have:=hP j hj hl;exact ⟨by simp [this.1],this.2.1,this.2.2.1,this.2.2.2,fun ad' e=>by cases e;exact this.1⟩
    have new:=step aM dM (fun j hj hl=>⟨by omega,by have:=hI.pres.next;omega,by omega,by omega⟩);have olds:∀m∈ms,NdAt H16 m/\NdE H16 (fun j=>H0.next<=j/\j≠i5/\j≠i7/\∀ad',some ad=some ad'->j≠ad'.id) m:=fun m hm=>
     step ((hmA m hm).on p14) ((hmE m hm).on p14) (fun j hj hl=>⟨hj.2.2.2 ad rfl,hj.1,hj.2.1,hj.2.2.1⟩)
    refine loop106 l2 (fun m hm=>hs m (List.mem_cons_of_mem _ hm)) (l1++[n]) (ms++[M]) x x8 H0 (some ad) k (.free 18) i5 i7 d17 H16 (by simp;omega) hbig (fun m hm=>hN m (List.mem_cons_of_mem _ hm)) (fun m hm=>hE m (List.mem_cons_of_mem _ hm)) (by simp [hml]) (hcp.snoc cM) ?_ (fun _=>rfl) ha ?_ ?_ (by have:=p14.next;have:=k3'.next;omega) (by have:=p14.next;have:=k3'.next;omega)
    ·rw [cellsOf_app,List.append_assoc];exact k2
    ·intro m hm;rcases List.mem_append.1 hm with hm |hm
     ·exact (olds m hm).1
     ·rw [List.mem_singleton.1 hm];exact new.1
    ·intro m hm;rcases List.mem_append.1 hm with hm |hm
     ·exact (olds m hm).2
     ·rw [List.mem_singleton.1 hm];exact new.2
theorem NdsAt.mem{H:LHeap}:∀{l:List Nd} {a:Option LAddr} {i:Nat},NdsAt H l a i->∀n∈l,NdAt H n
 |[],_,_,_,n,hn=>by cases hn
 |m::l,a,i,h,n,hn=>by
  unfold NdsAt at h;rcases List.mem_cons.1 hn with rfl |hn
  ·exact h.2.1
  ·exact NdsAt.mem h.2.2 n hn
theorem NdsSm.mem:∀{l:List Nd},NdsSm l->∀n∈l,NdSm n
 |[],_,n,hn=>by cases hn
 |m::l,h,n,hn=>by
  unfold NdsSm at h;rcases List.mem_cons.1 hn with rfl |hn
  ·exact h.1
  ·exact NdsSm.mem h.2 n hn
theorem s106(N:Nd)(H:LHeap)(hN:NdAt H N)(hE:NdE H (fun _=>True) N)(hS:NdSm N):CallL cfg 106 [N.root.lv] H (CopR N H):=by
 match N,hN,hE,hS with
 | .mk x l,hN,hE,hS=>
  have hN':=hN;unfold NdAt at hN';have hE':=hE;unfold NdE at hE';unfold NdSm at hS;obtain ⟨n1,n2,n3⟩:=hN';refine e106t _ x H fun i1 H2 h2 p2 i3 H4 h4 p4 hI4=> ?_;have p24:PresX [] H H4:=hI4.pres;have c191:=s191 l x.argsA x.argsQ H4 (n3.on p24) (fun ad e=>(p24.keep _ (hE'.1 ad e).2.1 (by simp)).loads ad _ _ rfl (hE'.1 ad e).2.2) (fun ad e=>Nat.lt_of_lt_of_le (hE'.1 ad e).2.1 p24.next) (by omega);rw [n1] at c191;refine ⟨_,c191,fun v H' ⟨g1,a,q,e,_⟩=>⟨g1,a,_,q,e⟩,fun a6 l7 c8 H9 ⟨p9,a,q,e,hr,hlow,hq⟩ d10=> ?_⟩;cases e;intro hin hI9;have hi1:=(hI4.slot 0 _ rfl).1;have hi3:=(hI4.slot 1 _ rfl).1;have hi1':i1<H4.next:=hi1;have hi3':i3<H4.next:=hi3;refine loop106 l (fun n hn H' hA hE2=>s106 n H' hA hE2 (hS.2.mem n hn)) [] [] x ⟨0,[],0,0,[],[],[],0,0,false,false,[],[],0,0,false,false,none,0,.exact 0⟩ H a6 x.argsL c8 i1 i3 d10 H9 (by simpa using n1.symm) hS.1 (n3.mem) (hE'.2.mem) rfl (by unfold Cps;trivial) hr hq (fun ad e=> ?_) (fun m hm=>by cases hm) (fun m hm=>by cases hm) (by have:=p9.next;omega) (by have:=p9.next;omega) hin hI9;have:=hlow ad e;have:=p24.next;exact ⟨by omega,by omega,by omega⟩
termination_by SizeOf.sizeOf N
decreasing_by
 have:=List.sizeOf_lt_of_mem hn
 simp_wf
 omega
theorem e107t(R:LV->LHeap->Prop)(X:List Nat)(l:Nat)(p:LAddr)(H:LHeap)
 (h:(Inv X H [] H->(∃x1:NdC,((loadT (cfg).P H 72 p=some (NdC.lv x1))/\(Inv X H [] H->∃S2:LV->LHeap->Prop,∃Y:List Nat,CallL cfg 108 [(NdC.lv x1),(.func (Fn.yield l) [] [])] H S2/\(∀v H',S2 v H'->PresX Y H H'/\hasSh .bool v)/\(∀i∈Y,okId X H [] i)/\
  (∀(b3:Bool),∀H4:LHeap,S2 (.bool b3) H4->(Inv X H [] H4->R (.tuple []) H4))))))):
 CallL cfg 107 [(.func (Fn.yield l) [] []),(.ptr (some p))] H R:=
  call_wtX (X:=X) (k:=(.go 1 (.facts (.op (.cust NdC NdC.lv) (.go 1 (.facts (.callY .bool (.go 1 (.facts .ret))))))))) (by kernel_rfl) h
def L108t_0(d:Nat->LV)(n0:Int)(f1:Nat)(a2:Option LAddr)(l3:Nat)(c4:Cap)(n5:Int):List SV:=[(.lv (d 0)),(.lv (.func (Fn.yield f1) [] [])),(.lv (d 2)),(.lv (d 3)),(.lv (d 4)),(.lv (d 5)),(.lv (d 6)),(.lv (d 7)),(.lv (d 8)),(.lv (d 9)),(.lv (d 10)),(.lv (d 11)),(.lv (d 12)),(.lv (.slice a2 l3 c4)),(.lv (.int .i64 n5)),(.lv (.int .i64 n0)),(.lv (d 16)),(.lv (d 17)),(.lv (d 18)),(.lv (d 19)),(.lv (d 20)),(.lv (d 21)),(.lv (d 22)),(.lv (d 23))]
theorem g108t_0(R:LV->LHeap->Prop)(X:List Nat)(H0:LHeap)(d:Nat->LV)(n0:Int)(f1:Nat)(a2:Option LAddr)(l3:Nat)(c4:Cap)(n5:Int) (H:LHeap)
 (h:(((decide (n0<n5))=true->((((0:Int)<=n0)/\((n0<((l3:Nat):Int))/\((Option.isSome a2)=true)))/\(Inv X H0 [] H->(∃x8:NdC,((loadT (cfg).P H 72 (LAddr.mk (LAddr.id (adr a2)) (LAddr.ver (adr a2)) ((LAddr.off (adr a2))+((Int.toNat n0)*18)))=some (NdC.lv x8))/\(∀(i9:Nat) (H10:LHeap),H.next<=i9->PresX [] H H10->(∀H11:LHeap,PresX [i9] H10 H11->(Inv X H0 [(Slot.mk i9 (NdC.cs x8) 72)] H11->∃S12:LV->LHeap->Prop,∃Y:List Nat,CallL cfg 108 [(NdC.lv x8),(.func (Fn.yield f1) [] [])] H11 S12/\(∀v H',S12 v H'->PresX Y H11 H'/\hasSh .bool v)/\(∀i∈Y,okId X H0 [(Slot.mk i9 (NdC.cs x8) 72)] i)/\
  (∀(b13:Bool),∀H14:LHeap,S12 (.bool b13) H14->(((!b13)=true->(Inv X H0 [(Slot.mk i9 (NdC.cs x8) 72)] H14->R (.bool false) H14))
 /\ ((!b13)=false->(∀d15:Nat->LV,GoesT cfg 108 R X H0 [] (L108t_0 d15 (lwrap .i64 (n0+(1:Int))) f1 a2 l3 c4 n5) (loopAt cfg 108 0) H14))))))))))))
 /\ ((decide (n0<n5))=false->(Inv X H0 [] H->R (.bool true) H)))):
 GoesT cfg 108 R X H0 [] (L108t_0 d n0 f1 a2 l3 c4 n5) (loopAt cfg 108 0) H:=
  seg_wt (k:=(.go 5 (.cases 16 (.go 6 (.op (.tuple []) (.facts (.op (.cust NdC NdC.lv) (.boxP (.putP (.go 5 (.facts (.callY .bool (.go 2 (.cases 22 (.go 5 (.facts .ret)) (.go 8 (.stop [15,1,13,14] 0))))))))))))) (.go 6 (.facts .ret))))) (by kernel_rfl) h
theorem e108t(R:LV->LHeap->Prop)(X:List Nat)(n:NdC)(l:Nat)(H:LHeap)
 (h:(∀(i0:Nat) (H1:LHeap),H.next<=i0->PresX [] H H1->(Inv X H [(Slot.mk i0 (NdC.cs n) 72)] H1->∃S2:LV->LHeap->Prop,CallL cfg 106 [(NdC.lv n)] H1 S2/\(∀v H',S2 v H'->PresX [] H1 H'/\hasSh (.cust NdC NdC.lv) v)/\
  (∀(x3:NdC),∀H4:LHeap,S2 (NdC.lv x3) H4->(Inv X H [(Slot.mk i0 (NdC.cs n) 72)] H4->∃S5:LV->LHeap->Prop,∃Y:List Nat,YieldL cfg l [(NdC.lv x3)] H4 S5/\(∀v H',S5 v H'->PresX Y H4 H'/\hasSh .bool v)/\(∀i∈Y,okId X H [(Slot.mk i0 (NdC.cs n) 72)] i)/\
  (∀(b6:Bool),∀H7:LHeap,S5 (.bool b6) H7->(((!b6)=true->(Inv X H [(Slot.mk i0 (NdC.cs n) 72)] H7->R (.bool false) H7))
 /\ ((!b6)=false->(∀d8:Nat->LV,GoesT cfg 108 R X H [] (L108t_0 d8 (0:Int) l n.argsA n.argsL n.argsQ ((n.argsL:Nat):Int)) (loopAt cfg 108 0) H7))))))))):
 CallL cfg 108 [(NdC.lv n),(.func (Fn.yield l) [] [])] H R:=
  call_wtX (X:=X) (k:=(.go 2 (.boxP (.go 7 (.facts (.call (.cust NdC NdC.lv) (.facts (.yld .bool (.go 2 (.cases 11 (.go 5 (.facts .ret)) (.go 12 (.stop [15,1,13,14] 0)))))))))))) (by kernel_rfl) h
def bareT(N:Nd):List NdC:=(preT N).map NdC.bare
def bareTs(l:List Nd):List NdC:=(preTs l).map NdC.bare
theorem bareT_mk(x:NdC)(l:List Nd):bareT (.mk x l)=x.bare::bareTs l:=rfl
theorem bareTs_cons(n:Nd)(l:List Nd):bareTs (n::l)=bareT n++bareTs l:=by unfold bareTs bareT;rw [preTs,List.map_append]
theorem bareT_len(N:Nd):(bareT N).length=(preT N).length:=by unfold bareT;rw [List.length_map]
mutual
theorem Cp.bareT:∀{N M:Nd},Cp N M->bareT M=bareT N
 | .mk x l,.mk y m,h=>by
  unfold Cp at h;rw [bareT_mk,bareT_mk,h.1,Cps.bareTs h.2]
theorem Cps.bareTs:∀{l m:List Nd},Cps l m->bareTs m=bareTs l
 |[],[],_=>rfl
 |n::l,k::m,h=>by
  unfold Cps at h;rw [bareTs_cons,bareTs_cons,Cp.bareT h.1,Cps.bareTs h.2]
 |[],_::_,h=>by unfold Cps at h;exact h.elim
 |_::_,[],h=>by unfold Cps at h;exact h.elim
end
theorem Cp.root{N M:Nd}(h:Cp N M):M.root.bare=N.root.bare:=by
 match N,M,h with
 | .mk x l,.mk y m,h=>unfold Cp at h;exact h.1
def WR(Y:List Nat)(J:List NdC->LHeap->Prop)(St:LHeap->Prop)(rest:List NdC)(H:LHeap):LV->LHeap->Prop:=
 fun v H'=>PresX Y H H'/\∃b,v=.bool b/\(b=true->J rest H')/\(b=false->St H')
theorem WR.sh{Y:List Nat}{J:List NdC->LHeap->Prop}{St:LHeap->Prop}{rest:List NdC}{H:LHeap}:∀v H',WR Y J St rest H v H'->PresX Y H H'/\hasSh .bool v:=
 fun v H' ⟨h1,b,e,_⟩=>⟨h1,b,e⟩
structure Walks (l:Nat) (Y:List Nat) (J:List NdC->LHeap->Prop) (St:LHeap->Prop):Prop where
 on:∀{rest H H'},J rest H->PresX [] H H'->J rest H'
 low:∀{rest H},J rest H->∀y∈Y,y<H.next
 yld:∀(x:NdC) (rest:List NdC) (H:LHeap),J (x.bare::rest) H->YieldL cfg l [x.lv] H (WR Y J St rest H)
theorem loop108{l:Nat}{Y:List Nat}{J:List NdC->LHeap->Prop}{St:LHeap->Prop}(hW:Walks l Y J St):∀(l2:List Nd) (_:∀n∈l2,∀rest H,NdAt H n->NdE H (·∉Y) n->(bareT n).length<=1000000->J (bareT n++rest) H->CallL cfg 108 [n.root.lv,.func (.yield l) [] []] H (WR Y J St rest H))
  (rest:List NdC) (a:Option LAddr) (q:Cap) (k i:Nat) (d:Nat->LV) (H0 H:LHeap),i+l2.length=k->k<=1000000000->NdsAt H l2 a i->NdsE H (·∉Y) l2->(∀ad,a=some ad->ad.id∉Y/\ad.id<H.next)->(bareTs l2).length<=1000000->J (bareTs l2++rest) H->
  GoesT cfg 108 (WR Y J St rest H0) Y H0 [] (L108t_0 d (i:Int) l a k q (k:Int)) (loopAt cfg 108 0) H
 |[],_,rest,a,q,k,i,d,H0,H,hk,hbig,hA,hE,ha,hsz,hJ=>by
  intro hin hI;refine g108t_0 _ Y H0 d i l a k q k H ⟨fun h=> ?_,fun _ hI=>⟨hI.pres,true,rfl,fun _=>hJ,fun e=>by cases e⟩⟩ hin hI;simp at h hk;omega
 |n::l2,hs,rest,a,q,k,i,d,H0,H,hk,hbig,hA,hE,ha,hsz,hJ=>by
  intro hin hI;rw [List.length_cons] at hk;unfold NdsAt at hA;unfold NdsE at hE;rw [bareTs_cons,List.length_append] at hsz;rw [bareTs_cons,List.append_assoc] at hJ;obtain ⟨⟨n1,n2,n3⟩,n4,n5⟩:=hA;obtain ⟨ad,rfl⟩:∃ad,a=some ad:=by
   cases a with
   |none=>cases n1
   |some ad=>exact ⟨ad,rfl⟩
  refine g108t_0 _ Y H0 d i l (some ad) k q k H ⟨fun h=>⟨⟨by omega,by omega,n1⟩,fun hI=>⟨n.root,?ld,fun i9 H10 h9 p10 H11 p11 hI11=> ?call⟩⟩,fun h=> ?ge⟩ hin hI
  case ge=>simp at h;omega
  case ld=>
   simp only [Int.toNat_natCast];exact n3
  case call=>
   have p:PresX [] H H11:=p10.trans p11 (fun j hj=>.inr (by rw [List.mem_singleton.1 hj];exact h9));have hJ11:=hW.on hJ p;refine ⟨_,Y,hs n List.mem_cons_self (bareTs l2++rest) H11 (n4.on p) (hE.1.on p) (by omega) hJ11,WR.sh,fun y hy=>⟨.inl hy,fun m s hs=> ?_⟩,fun b13 H14 ⟨p14,b,e,hT,hF⟩=>⟨fun hb hI=> ?_,fun hb d15=> ?_⟩⟩
   ·match m,hs with
    |0,hs=>
     cases hs;have:=hW.low hJ y hy;show i9≠y;omega
    |m+1,hs=>simp [nth] at hs
   ·cases e;exact ⟨hI.pres,false,rfl,(fun e=>by cases e),fun _=>hF (by simpa using hb)⟩
   ·cases e;have hk':(i:Int)+1=((i+1:Nat):Int):=by simp
    rw [lwrap_small (by omega) (by omega),hk'];have had:=ha ad rfl;have hE':=hE.2.on p;exact loop108 hW l2 (fun m hm=>hs m (List.mem_cons_of_mem _ hm)) rest (some ad) q k (i+1) d15 H0 H14 (by omega) hbig (NdsAt.onY p14 had.1 (ndsE_ids hE' (n5.on p)) (n5.on p)) (NdsE.onY p14 (fun j hj _=>⟨hj,hj⟩) hE') (fun ad' e=>by cases e;exact ⟨had.1,Nat.lt_of_lt_of_le had.2 (Nat.le_trans p.next p14.next)⟩) (by omega) (hT (by simpa using hb))
theorem bareTs_mem:∀{l:List Nd} {n:Nd},n∈l->(bareT n).length<=(bareTs l).length
 |[],n,h=>by cases h
 |m::l,n,h=>by
  rw [bareTs_cons,List.length_append];rcases List.mem_cons.1 h with rfl |h
  ·omega
  ·have:=bareTs_mem h;omega
theorem bareTs_len(l:List Nd):l.length<=(bareTs l).length:=by
 unfold bareTs;rw [List.length_map];exact preTs_len l
theorem s108{l:Nat}{Y:List Nat}{J:List NdC->LHeap->Prop}{St:LHeap->Prop}(hW:Walks l Y J St)(N:Nd)(rest:List NdC)(H:LHeap)(hN:NdAt H N)(hE:NdE H (·∉Y) N)(hsz:(bareT N).length<=1000000)(hJ:J (bareT N++rest) H):
  CallL cfg 108 [N.root.lv,.func (.yield l) [] []] H (WR Y J St rest H):=by
 match N,hN,hE,hsz,hJ with
 | .mk x m,hN,hE,hsz,hJ=>
  refine e108t _ Y x l H fun i0 H1 h0 p1 hI1=>⟨_,s106 (.mk x m) H1 (hN.on p1) (NdE.mono (fun _ _ _=>trivial) (hE.on p1)) (ndSm _ H hN (by rw [<-bareT_len];exact hsz)),copR_sh,fun x3 H4 ⟨p4,M,eM,cM,aM,dM⟩ hI4=> ?_⟩;have p14:=p1.trans0 p4;have hroot:x3=M.root:=by
   have:=NdC.lv_cs eM;cases x3;cases M with
   |mk y l=>
    cases y;simp only [NdC.cs,Nd.root,List.cons.injEq,LV.int.injEq,LV.str.injEq,LV.bool.injEq,LV.slice.injEq,true_and,and_true] at this;simp only [Nd.root,NdC.mk.injEq];obtain ⟨h0,h1,h2,h3,h4,h5,h6,h7,h8,h9,h10,h11,h12,h13,h14,h15,h16,h17,h18,h19⟩:=this;exact ⟨h0,h1,h2,h3,h4,h5,h6,h7,h8,h9,h10,h11,h12,h13,h14,h15,h16,h17,h18,h19⟩
  have hb:x3.bare=x.bare:=by rw [hroot];exact cM.root
  rw [bareT_mk] at hsz hJ;have hJ4:=hW.on hJ p14;rw [List.cons_append,<-hb] at hJ4;refine ⟨_,Y,hW.yld x3 (bareTs m++rest) H4 hJ4,WR.sh,fun y hy=>⟨.inl hy,fun k s hs=> ?_⟩,fun b6 H7 ⟨p7,b,e,hT,hF⟩=>⟨fun hb hI=> ?_,fun hb d8=> ?_⟩⟩
  ·match k,hs with
   |0,hs=>
    cases hs;have:=hW.low hJ y hy;show i0≠y;omega
   |k+1,hs=>simp [nth] at hs
  ·cases e;exact ⟨hI.pres,false,rfl,(fun e=>by cases e),fun _=>hF (by simpa using hb)⟩
  ·cases e;have hN':=hN;unfold NdAt at hN';have hE':=hE;unfold NdE at hE';have hlen:=bareTs_len m;rw [List.length_cons] at hsz;have hEs:=NdsE.on p14 hE'.2;have hAs:=NdsAt.on p14 hN'.2.2;have hids:=ndsE_ids hEs hAs;intro hin hI7;have hAs7:NdsAt H7 m x.argsA 0:=by
    cases m with
    |nil=>unfold NdsAt;trivial
    |cons n m=>
     refine NdsAt.onY p7 ?_ hids hAs;have h1:=hN'.2.2;unfold NdsAt at h1;cases ea:x.argsA with
     |none=>rw [ea] at h1;cases h1.1.1
     |some ad=>exact (hE'.1 ad ea).1
   exact loop108 hW m (fun n hn rest' H' hA hE2 hz hJ2=>s108 hW n rest' H' hA hE2 hz hJ2) rest x.argsA x.argsQ x.argsL 0 d8 H H7 (by have:=hN'.1;omega) (by have:=hN'.1;omega) hAs7 (NdsE.onY p7 (fun j hj _=>⟨hj,hj⟩) hEs)
    (fun ad e=>⟨(hE'.1 ad e).1,Nat.lt_of_lt_of_le (hE'.1 ad e).2.1 (Nat.le_trans p14.next p7.next)⟩) (by omega) (hT (by simpa using hb)) hin hI7
termination_by SizeOf.sizeOf N
decreasing_by
 have:=List.sizeOf_lt_of_mem hn
 simp_wf
 omega
theorem s107{l:Nat}{Y:List Nat}{J:List NdC->LHeap->Prop}{St:LHeap->Prop}(hW:Walks l Y J St)(N:Nd)(p:LAddr)(H:LHeap)(hp:loadT cfg.P H 72 p=some N.root.lv)(hN:NdAt H N)(hE:NdE H (·∉Y) N)(hsz:(bareT N).length<=1000000)(hJ:J (bareT N) H):
  CallL cfg 107 [.func (.yield l) [] [],.ptr (some p)] H (fun v H'=>PresX Y H H'/\(J [] H'\/St H')):=by
 refine e107t _ Y l p H fun _=>⟨N.root,hp,fun _=>⟨_,Y,s108 hW N [] H hN hE hsz (by rw [List.append_nil];exact hJ),WR.sh,fun y hy=>⟨.inl hy,fun k s hs=>by simp [nth] at hs⟩,fun b3 H4 ⟨p4,b,e,hT,hF⟩ hI=>⟨hI.pres,?_⟩⟩⟩;cases b with
 |true=>exact .inl (hT rfl)
 |false=>exact .inr (hF rfl)
theorem s45(N:Nd)(H:LHeap)(hN:NdAt H N)(hE:NdE H (fun _=>True) N)(hS:NdSm N):
  CallL cfg 45 [N.root.lv] H (fun v H'=>PresX [] H H'/\∃(p:LAddr) (M:Nd),v=.func (.func 107) [] [.ptr (some p)]/\H.next<=p.id/\p.id<H'.next/\loadT cfg.P H' 72 p=some M.root.lv/\Cp N M/\NdAt H' M/\NdE H' (fun j=>H.next<=j) M):=by
 refine e45t _ N.root H fun i1 H2 h1 p2 hI2=>⟨_,s106 N H2 (hN.on p2) (hE.on p2) hS,copR_sh,fun x4 H5 ⟨p5,M,eM,cM,aM,dM⟩ H6 p6 hI6=> ?_⟩;have hs2:=hI2.slot 0 _ rfl;have hs6:=hI6.slot 0 _ rfl;have h12:i1<H2.next:=hs2.1;refine ⟨hI6.pres,⟨i1,18,0⟩,M,rfl,h1,hs6.1,?_,cM,?_,?_⟩
 ·rw [<-eM];refine slotLoad_spec (s:=⟨i1,x4.cs,72⟩) hs6.2.1 ?_;kernel_rfl
 ·refine NdAt.onY p6 (ndE_ids (P:=fun j=>j∉[i1]) (NdE.mono (fun j hj _=> ?_) dM) aM) aM;simp;omega
 ·refine NdE.onY p6 (fun j hj _=>⟨?_,Nat.le_trans p2.next hj⟩) dM;simp;omega
end Go.Proofs.YtjihhflffkoffaaGreatDoor.Z
