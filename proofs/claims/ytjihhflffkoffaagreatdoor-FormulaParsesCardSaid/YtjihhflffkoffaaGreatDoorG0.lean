/- Contracts of functions of the program; no condition. -/
import Derived.Test.YtjihhflffkoffaaGreatDoorZ0
import Derived.Test.YtjihhflffkoffaaGreatDoorLe
import Derived.KernelRfl
set_option linter.unusedSimpArgs false
set_option linter.unusedVariables false
set_option linter.unusedSectionVars false
set_option linter.unnecessarySimpa false
namespace Go.Proofs.YtjihhflffkoffaaGreatDoor.Z
open Go Go.Lm
set_option maxRecDepth 1000000
set_option maxHeartbeats 0
theorem covA:coversAll Tryz.prog=true:=by kernel_rfl
structure NameC where
 scope:List UInt8
 name:List UInt8
 text:List UInt8
def NameC.cs(x:NameC):List LV:=[.str x.scope,.str x.name,.str x.text]
def NameC.lv(x:NameC):LV:=.agg x.cs
structure ValC where
 kind:Int
 n:Int
 s:List UInt8
def ValC.cs(x:ValC):List LV:=[.int .i64 x.kind,.int .i64 x.n,.str x.s]
def ValC.lv(x:ValC):LV:=.agg x.cs
structure RefC where
 book:List UInt8
 sheet:List UInt8
 row:Int
 col:Int
 fixRow:Bool
 fixCol:Bool
def RefC.cs(x:RefC):List LV:=[.str x.book,.str x.sheet,.int .i64 x.row,.int .i64 x.col,.bool x.fixRow,.bool x.fixCol]
def RefC.lv(x:RefC):LV:=.agg x.cs
structure NdC where
 kind:Int
 s:List UInt8
 valueKind:Int
 valueN:Int
 valueS:List UInt8
 refBook:List UInt8
 refSheet:List UInt8
 refRow:Int
 refCol:Int
 refFixRow:Bool
 refFixCol:Bool
 toBook:List UInt8
 toSheet:List UInt8
 toRow:Int
 toCol:Int
 toFixRow:Bool
 toFixCol:Bool
 argsA:Option LAddr
 argsL:Nat
 argsQ:Cap
def NdC.cs(x:NdC):List LV:=[.int .i64 x.kind,.str x.s,.int .i64 x.valueKind,.int .i64 x.valueN,.str x.valueS,.str x.refBook,.str x.refSheet,.int .i64 x.refRow,.int .i64 x.refCol,.bool x.refFixRow,.bool x.refFixCol,.str x.toBook,.str x.toSheet,.int .i64 x.toRow,.int .i64 x.toCol,.bool x.toFixRow,.bool x.toFixCol,.slice x.argsA x.argsL x.argsQ]
def NdC.lv(x:NdC):LV:=.agg x.cs
structure PlaceC where
 book:List UInt8
 sheet:List UInt8
 row:Int
 col:Int
def PlaceC.cs(x:PlaceC):List LV:=[.str x.book,.str x.sheet,.int .i64 x.row,.int .i64 x.col]
def PlaceC.lv(x:PlaceC):LV:=.agg x.cs
structure ShiftC where
 at_:Int
 n:Int
 most:Int
def ShiftC.cs(x:ShiftC):List LV:=[.int .i64 x.at_,.int .i64 x.n,.int .i64 x.most]
def ShiftC.lv(x:ShiftC):LV:=.agg x.cs
structure ChangeC where
 book:List UInt8
 sheet:List UInt8
 drop:Bool
 cols:Bool
 shiftAt:Int
 shiftN:Int
 shiftMost:Int
def ChangeC.cs(x:ChangeC):List LV:=[.str x.book,.str x.sheet,.bool x.drop,.bool x.cols,.int .i64 x.shiftAt,.int .i64 x.shiftN,.int .i64 x.shiftMost]
def ChangeC.lv(x:ChangeC):LV:=.agg x.cs
structure TokC where
 kind:Int
 n:Int
 s:List UInt8
 refBook:List UInt8
 refSheet:List UInt8
 refRow:Int
 refCol:Int
 refFixRow:Bool
 refFixCol:Bool
def TokC.cs(x:TokC):List LV:=[.int .i64 x.kind,.int .i64 x.n,.str x.s,.str x.refBook,.str x.refSheet,.int .i64 x.refRow,.int .i64 x.refCol,.bool x.refFixRow,.bool x.refFixCol]
def TokC.lv(x:TokC):LV:=.agg x.cs
structure CellC where
 row:Int
 col:Int
 text:List UInt8
def CellC.cs(x:CellC):List LV:=[.int .i64 x.row,.int .i64 x.col,.str x.text]
def CellC.lv(x:CellC):LV:=.agg x.cs
structure SheetC where
 name:List UInt8
 cellsA:Option LAddr
 cellsL:Nat
 cellsQ:Cap
def SheetC.cs(x:SheetC):List LV:=[.str x.name,.slice x.cellsA x.cellsL x.cellsQ]
def SheetC.lv(x:SheetC):LV:=.agg x.cs
structure BookC where
 sheetsA:Option LAddr
 sheetsL:Nat
 sheetsQ:Cap
 namesA:Option LAddr
 namesL:Nat
 namesQ:Cap
 linksA:Option LAddr
 linksL:Nat
 linksQ:Cap
def BookC.cs(x:BookC):List LV:=[.slice x.sheetsA x.sheetsL x.sheetsQ,.slice x.namesA x.namesL x.namesQ,.slice x.linksA x.linksL x.linksQ]
def BookC.lv(x:BookC):LV:=.agg x.cs
structure LinkC where
 book:List UInt8
 sheet:List UInt8
 row:Int
 col:Int
 valueKind:Int
 valueN:Int
 valueS:List UInt8
def LinkC.cs(x:LinkC):List LV:=[.str x.book,.str x.sheet,.int .i64 x.row,.int .i64 x.col,.int .i64 x.valueKind,.int .i64 x.valueN,.str x.valueS]
def LinkC.lv(x:LinkC):LV:=.agg x.cs
structure PutC where
 sheet:List UInt8
 row:Int
 col:Int
 text:List UInt8
 at_:Int
 cellsA:Option LAddr
 cellsL:Nat
 cellsQ:Cap
def PutC.cs(x:PutC):List LV:=[.str x.sheet,.int .i64 x.row,.int .i64 x.col,.str x.text,.int .i64 x.at_,.slice x.cellsA x.cellsL x.cellsQ]
def PutC.lv(x:PutC):LV:=.agg x.cs
structure TurnC where
 homeBook:List UInt8
 homeSheet:List UInt8
 homeRow:Int
 homeCol:Int
 cBook:List UInt8
 cSheet:List UInt8
 cDrop:Bool
 cCols:Bool
 cShiftAt:Int
 cShiftN:Int
 cShiftMost:Int
 line:LV
 lines:LV
 any:Bool
def TurnC.cs(x:TurnC):List LV:=[.str x.homeBook,.str x.homeSheet,.int .i64 x.homeRow,.int .i64 x.homeCol,.str x.cBook,.str x.cSheet,.bool x.cDrop,.bool x.cCols,.int .i64 x.cShiftAt,.int .i64 x.cShiftN,.int .i64 x.cShiftMost,x.line,x.lines,.bool x.any]
def TurnC.lv(x:TurnC):LV:=.agg x.cs
abbrev RR:=LV->LHeap->Prop
abbrev I6(n:Int):LV:=.int .i64 n
abbrev Sk:=Slot.mk
abbrev Lk:=LAddr.mk
def dl(d:Nat->LV):Nat->Nat->List SV
 |_,0=>[]
 |i,n+1=>.lv (d i)::dl d (i+1) n
abbrev Cd(c:Bool)(P Q:Prop):Prop:=(c=true->P)/\(c=false->Q)
abbrev Dc(p:Prop)[Decidable p](P Q:Prop):Prop:=(decide p=true->P)/\(decide p=false->Q)
abbrev PX(l:List Nat)(H:LHeap)(K:LHeap->Prop):Prop:=∀H',PresX l H H'->K H'
abbrev NX(H:LHeap)(K:Nat->LHeap->Prop):Prop:=∀n H',H.next<=n->PresX [] H H'->K n H'
abbrev CL(f:Nat)(a:List LV)(H:LHeap)(sh:Sh)(K:RR->Prop):Prop:=∃S,CallL cfg f a H S/\(∀v H',S v H'->PresX [] H H'/\hasSh sh v)/\K S
abbrev R0(H:LHeap)(kn:List Slot)(H':LHeap)(R:RR)(v:LV):Prop:=Inv [] H kn H'->R v H'
abbrev RX(X:List Nat)(H:LHeap)(kn:List Slot)(H':LHeap)(R:RR)(v:LV):Prop:=Inv X H kn H'->R v H'
abbrev Ka(f:Nat)(a:List LV)(H:LHeap)(K:Bool->LHeap->Prop):Prop:=∃S,CallL cfg f a H S/\(∀v H',S v H'->PresX [] H H'/\hasSh .bool v)/\∀x0 H',S (.bool x0) H'->K x0 H'
abbrev Kb(f:Nat)(a:List LV)(H:LHeap)(K:(List UInt8)->LHeap->Prop):Prop:=∃S,CallL cfg f a H S/\(∀v H',S v H'->PresX [] H H'/\hasSh .str v)/\∀x0 H',S (.str x0) H'->K x0 H'
abbrev Kc(f:Nat)(a:List LV)(H:LHeap)(K:Int->LHeap->Prop):Prop:=∃S,CallL cfg f a H S/\(∀v H',S v H'->PresX [] H H'/\hasSh (.int .i64) v)/\∀x0 H',S (I6 x0) H'->K x0 H'
abbrev Kd(f:Nat)(a:List LV)(H:LHeap)(K:RefC->Bool->LHeap->Prop):Prop:=∃S,CallL cfg f a H S/\(∀v H',S v H'->PresX [] H H'/\hasSh (.tuple [.cust RefC RefC.lv,.bool]) v)/\∀x0 x1 H',S (.tuple [RefC.lv x0,.bool x1]) H'->K x0 x1 H'
abbrev Ke(f:Nat)(a:List LV)(H:LHeap)(K:TokC->Int->LHeap->Prop):Prop:=∃S,CallL cfg f a H S/\(∀v H',S v H'->PresX [] H H'/\hasSh (.tuple [.cust TokC TokC.lv,.int .i64]) v)/\∀x0 x1 H',S (.tuple [TokC.lv x0,I6 x1]) H'->K x0 x1 H'
abbrev Kf(f:Nat)(a:List LV)(H:LHeap)(K:Int->Bool->LHeap->Prop):Prop:=∃S,CallL cfg f a H S/\(∀v H',S v H'->PresX [] H H'/\hasSh (.tuple [.int .i64,.bool]) v)/\∀x0 x1 H',S (.tuple [I6 x0,.bool x1]) H'->K x0 x1 H'
abbrev Kg(f:Nat)(a:List LV)(H:LHeap)(K:ValC->LHeap->Prop):Prop:=∃S,CallL cfg f a H S/\(∀v H',S v H'->PresX [] H H'/\hasSh (.cust ValC ValC.lv) v)/\∀x0 H',S (ValC.lv x0) H'->K x0 H'
abbrev Kh(f:Nat)(a:List LV)(H:LHeap)(K:NdC->LHeap->Prop):Prop:=∃S,CallL cfg f a H S/\(∀v H',S v H'->PresX [] H H'/\hasSh (.cust NdC NdC.lv) v)/\∀x0 H',S (NdC.lv x0) H'->K x0 H'
abbrev Ki(f:Nat)(a:List LV)(H:LHeap)(K:(List UInt8)->(List UInt8)->Bool->LHeap->Prop):Prop:=∃S,CallL cfg f a H S/\(∀v H',S v H'->PresX [] H H'/\hasSh (.tuple [.str,.str,.bool]) v)/\∀x0 x1 x2 H',S (.tuple [.str x0,.str x1,.bool x2]) H'->K x0 x1 x2 H'
abbrev Kj(f:Nat)(a:List LV)(H:LHeap)(K:(List UInt8)->Bool->LHeap->Prop):Prop:=∃S,CallL cfg f a H S/\(∀v H',S v H'->PresX [] H H'/\hasSh (.tuple [.str,.bool]) v)/\∀x0 x1 H',S (.tuple [.str x0,.bool x1]) H'->K x0 x1 H'
abbrev qP1_1(s0:List UInt8)(H:LHeap)(R:RR):Prop:=Cd (s0==[60,62]) (R0 H [] H R (I6 1)) (Cd (s0==[60]) (R0 H [] H R (I6 1)) (Cd (s0==[60,61]) (R0 H [] H R (I6 1)) (Cd (s0==[62]) (R0 H [] H R (I6 1)) (Cd (s0==[62,61]) (R0 H [] H R (I6 1)) (Cd (s0==[38]) (R0 H [] H R (I6 2)) (Cd (s0==[43]) (R0 H [] H R (I6 3)) (Cd (s0==[45]) (R0 H [] H R (I6 3)) (Cd (s0==[42]) (R0 H [] H R (I6 4)) (Cd (s0==[47]) (R0 H [] H R (I6 4)) (Cd (s0==[94]) (R0 H [] H R (I6 5)) (R0 H [] H R (I6 0))))))))))))
abbrev qP1_2(n0 n1:Int)(s2:List UInt8):List LV:=[I6 1,.str [],I6 n0,I6 n1,.str s2,.str [],.str [],I6 0,I6 0,.bool false,.bool false,.str [],.str [],I6 0,I6 0,.bool false,.bool false,.slice none 0 (.exact 0)]
theorem e198(R:RR)(s0:List UInt8)(H:LHeap)
 (h:Cd (s0==[61]) (R0 H [] H R (I6 1)) (qP1_1 s0 H R)):
 CallL cfg 198 [.str s0] H R:=call_wt0 (k:=(.go 16 (.cases 4 (.go 7 (.facts .ret)) (.go 6 (.cases 4 (.go 7 (.facts .ret)) (.go 6 (.cases 4 (.go 7 (.facts .ret)) (.go 6 (.cases 4 (.go 7 (.facts .ret)) (.go 6 (.cases 4 (.go 7 (.facts .ret)) (.go 5 (.cases 4 (.go 5 (.facts .ret)) (.go 6 (.cases 11 (.go 5 (.facts .ret)) (.go 7 (.cases 13 (.go 7 (.facts .ret)) (.go 5 (.cases 13 (.go 5 (.facts .ret)) (.go 7 (.cases 16 (.go 7 (.facts .ret)) (.go 5 (.cases 16 (.go 5 (.facts .ret)) (.go 6 (.cases 19 (.go 5 (.facts .ret)) (.go 7 (.facts .ret))))))))))))))))))))))))))) (by kernel_rfl) h
theorem e298(R:RR)(n0:Int)(n1:Int)(s2:List UInt8)(H:LHeap)
 (h:∀i3 (H4:LHeap) H5,R0 H [Sk i3 (qP1_2 n0 n1 s2) 72] H5 R (.agg (qP1_2 n0 n1 s2))):
 CallL cfg 298 [I6 n0,I6 n1,.str s2] H R:=call_wt0 (k:=(.go 2 (.box (.go 8 (.put (.go 1 (.facts .ret))))))) (by kernel_rfl) h
theorem e204(R:RR)(s0:List UInt8)(H:LHeap)
 (h:Cd (s0==[61]) (R0 H [] H R (I6 1)) (qP1_1 s0 H R)):
 CallL cfg 204 [.str s0] H R:=call_wt0 (k:=(.go 16 (.cases 4 (.go 7 (.facts .ret)) (.go 6 (.cases 4 (.go 7 (.facts .ret)) (.go 6 (.cases 4 (.go 7 (.facts .ret)) (.go 6 (.cases 4 (.go 7 (.facts .ret)) (.go 6 (.cases 4 (.go 7 (.facts .ret)) (.go 5 (.cases 4 (.go 5 (.facts .ret)) (.go 6 (.cases 11 (.go 5 (.facts .ret)) (.go 7 (.cases 13 (.go 7 (.facts .ret)) (.go 5 (.cases 13 (.go 5 (.facts .ret)) (.go 7 (.cases 16 (.go 7 (.facts .ret)) (.go 5 (.cases 16 (.go 5 (.facts .ret)) (.go 6 (.cases 19 (.go 5 (.facts .ret)) (.go 7 (.facts .ret))))))))))))))))))))))))))) (by kernel_rfl) h
def L205p_0(d:Nat->LV):List SV:=[.own 0 0,.lv (d 1),.own 1 0,.own 2 0]++dl d 4 14
def L300p_0(d:Nat->LV):List SV:=[.own 0 0]++dl d 1 3++[.own 2 0,.lv (d 5),.own 3 0]++dl d 7 49
def L115p_0(d:Nat->LV)(n0:Int):List SV:=[.own 0 0,.lv (I6 n0),.lv (d 2),.lv (d 3),.own 1 0,.own 2 0]++dl d 6 47
abbrev qP2_1:List LV:=[I6 0,.str [],I6 0,I6 0,.str [],.str [],.str [],I6 0,I6 0,.bool false,.bool false,.str [],.str [],I6 0,I6 0,.bool false,.bool false,.slice none 0 (.exact 0)]
abbrev qP2_2(x9:NdC)(a19:Option LAddr)(l20:Nat)(c21:Cap):List LV:=[I6 x9.kind,.str x9.s,I6 x9.valueKind,I6 x9.valueN,.str x9.valueS,.str x9.refBook,.str x9.refSheet,I6 x9.refRow,I6 x9.refCol,.bool x9.refFixRow,.bool x9.refFixCol,.str x9.toBook,.str x9.toSheet,I6 x9.toRow,I6 x9.toCol,.bool x9.toFixRow,.bool x9.toFixCol,.slice a19 l20 c21]
abbrev qP2_3(H':LHeap)(ii:Nat):Prop:=∃cs,hasSh (.agg [.slice]) (.agg cs)/\(List.length cs=1/\H'.get ii=some (Slot.obj ⟨ii,cs,171⟩))
abbrev qP2_4(S8n:RR)(ii:Nat)(Y:List Nat)(H7:LHeap):Prop:=∀v H',S8n v H'->PresX (ii::Y) H7 H'/\(∃cs,List.length cs=1/\H'.get ii=some (Slot.obj ⟨ii,cs,171⟩))
abbrev qP2_5(s5:List UInt8):List LV:=[I6 7,.str s5,I6 0,I6 0,.str [],.str [],.str [],I6 0,I6 0,.bool false,.bool false,.str [],.str [],I6 0,I6 0,.bool false,.bool false,.slice none 0 (.exact 0)]
abbrev qP2_6(t:TokC):List LV:=[I6 4,.str t.s,I6 0,I6 0,.str [],.str t.refBook,.str t.refSheet,I6 t.refRow,I6 t.refCol,.bool t.refFixRow,.bool t.refFixCol,.str [],.str [],I6 0,I6 0,.bool false,.bool false,.slice none 0 (.exact 0)]
abbrev qP2_7(S8:RR)(ii:Nat)(Y:List Nat)(H7:LHeap):Prop:=∀v H',S8 v H'->PresX (ii::Y) H7 H'/\(hasSh (.cust NdC NdC.lv) v/\ (qP2_3 H' ii))
abbrev qP2_8(S0:RR)(ii:Nat)(H:LHeap):Prop:=∀v H',S0 v H'->PresX [ii] H H'/\(hasSh .bool v/\ (qP2_3 H' ii))
abbrev qP2_9(i4:Nat)(H13:LHeap)(i0:Nat)(H0:LHeap)(a10:Option LAddr)(l11:Nat)(c12:Cap)(x7:NdC)(i6:Nat)(R:RR):Prop:=PX [i4] H13 fun H17=>RX [i0] H0 [Sk i0 [.slice a10 l11 c12] 171,Sk i4 (NdC.cs x7) 72,Sk i6 (NdC.cs x7) 72] H17 R (NdC.lv x7)
abbrev qP2_17(i0:Nat)(H34:LHeap)(ii:Nat)(H:LHeap)(a25:Option LAddr)(l26:Nat)(c27:Cap)(x33:NdC)(i29:Nat)(x24:TokC)(R:RR):Prop:=PX [i0] H34 fun H35=>RX [ii] H [Sk ii [.slice a25 l26 c27] 171,Sk i0 (NdC.cs x33) 72,Sk i29 (TokC.cs x24) 124] H35 R (NdC.lv x33)
abbrev qP2_15(ii:Nat)(a25:Option LAddr)(l26:Nat)(c27:Cap)(i0 i29:Nat)(x24:TokC):List Slot:=[Sk ii [.slice a25 l26 c27] 171,Sk i0 qP2_1 72,Sk i29 (TokC.cs x24) 124]
abbrev qP2_10(S44:RR)(ii:Nat)(Y:List Nat)(H31 H:LHeap)(a25:Option LAddr)(l26:Nat)(c27:Cap)(i0 i29:Nat)(x24:TokC)(S44n Pn R:RR):Prop:=(qP2_7 S44 ii Y H31) /\((∀i∈Y,okId [ii] H (qP2_15 ii a25 l26 c27 i0 i29 x24) i)/\((qP2_4 S44n ii Y H31) /\((∀v H' cs,S44n v H'->Inv [ii] H [Sk ii cs 171,Sk i0 qP2_1 72,Sk i29 (TokC.cs x24) 124] H'->Pn v H')/\(∀x45 a46 l47 c48 H49,S44 (NdC.lv x45) H49->H49.get ii=some (Slot.obj (Sk ii [.slice a46 l47 c48] 171))-> (qP2_17 i0 H49 ii H a46 l47 c48 x45 i29 x24 R)))))
abbrev qP2_11(i0:Nat)(a1:Option LAddr)(l2:Nat)(c3:Cap)(i4:Nat)(x5:NdC)(i6:Nat)(x7:NdC):List Slot:=[Sk i0 [.slice a1 l2 c3] 171,Sk i4 (NdC.cs x5) 72,Sk i6 (NdC.cs x7) 72]
abbrev qP2_12(r:RefC)(x12:TokC):List LV:=[I6 3,.str [],I6 0,I6 0,.str [],.str r.book,.str r.sheet,I6 r.row,I6 r.col,.bool r.fixRow,.bool r.fixCol,.str x12.refBook,.str x12.refSheet,I6 x12.refRow,I6 x12.refCol,.bool x12.refFixRow,.bool x12.refFixCol,.slice none 0 (.exact 0)]
abbrev qP2_13(S8n:RR)(ii:Nat)(H:LHeap)(i0:Nat)(Pn:RR):Prop:=∀v H' cs,S8n v H'->Inv [ii] H [Sk ii cs 171,Sk i0 qP2_1 72] H'->Pn v H'
abbrev qP2_14(H13:LHeap):List LV:=[I6 5,.str [45],I6 0,I6 0,.str [],.str [],.str [],I6 0,I6 0,.bool false,.bool false,.str [],.str [],I6 0,I6 0,.bool false,.bool false,.slice (some (Lk (LHeap.next H13) 18 0)) 1 (.exact 1)]
abbrev qP2_16(r:RefC):List LV:=[I6 2,.str [],I6 0,I6 0,.str [],.str r.book,.str r.sheet,I6 r.row,I6 r.col,.bool r.fixRow,.bool r.fixCol,.str [],.str [],I6 0,I6 0,.bool false,.bool false,.slice none 0 (.exact 0)]
abbrev qP2_18(ii:Nat)(a4:Option LAddr)(l5:Nat)(c6:Cap)(i0:Nat):List Slot:=[Sk ii [.slice a4 l5 c6] 171,Sk i0 qP2_1 72]
abbrev qP2_19(i0:Nat)(a13:Option LAddr)(l14:Nat)(c15:Cap)(i4:Nat)(x5:TokC)(i6:Nat)(x7:NdC)(i8:Nat)(x9:NdC)(a19:Option LAddr)(l20:Nat)(c21:Cap):List Slot:=[Sk i0 [.slice a13 l14 c15] 171,Sk i4 (TokC.cs x5) 124,Sk i6 (NdC.cs x7) 72,Sk i8 (qP2_2 x9 a19 l20 c21) 72]
abbrev qP2_20(S23:RR)(ii:Nat)(Y:List Nat)(H7:LHeap):Prop:=∀v H',S23 v H'->PresX (ii::Y) H7 H'/\(hasSh (.cust TokC TokC.lv) v/\ (qP2_3 H' ii))
abbrev qP2_21(i0:Nat)(a1:Option LAddr)(l2:Nat)(c3:Cap)(i4:Nat)(x5:TokC)(i6:Nat)(x7:NdC)(i8:Nat)(x9:NdC):List Slot:=[Sk i0 [.slice a1 l2 c3] 171,Sk i4 (TokC.cs x5) 124,Sk i6 (NdC.cs x7) 72,Sk i8 (NdC.cs x9) 72]
abbrev qP2_22:List LV:=[I6 0,I6 0,.str [],.str [],.str [],I6 0,I6 0,.bool false,.bool false]
theorem e266p(R:RR)(a:(Option LAddr))(k:Nat)(q:Cap)(s:(List UInt8))(ii:Nat)(H:LHeap)(hI:Inv [ii] H [(Sk ii [(.slice a k q)] 171)] H)
 (h:Cd (((k:Nat):Int)==0) (RX [ii] H [Sk ii [.slice a k q] 171] H R (.bool false)) (((0:Int)<=0/\(0<((k:Nat):Int)/\(Option.isSome a)=true))/\(Inv [ii] H [Sk ii [.slice a k q] 171] H->∃n2,loadT cfg.P H 3 (Lk (LAddr.id (adr a)) (LAddr.ver (adr a)) (((LAddr.off (adr a))+0)+0))=some (I6 n2)/\(Cd (n2 !=5) (RX [ii] H [Sk ii [.slice a k q] 171] H R (.bool false)) (((0:Int)<=0/\(0<((k:Nat):Int)/\(Option.isSome a)=true))/\(Inv [ii] H [Sk ii [.slice a k q] 171] H->∃s5,loadT cfg.P H 9 (Lk (LAddr.id (adr a)) (LAddr.ver (adr a)) (((LAddr.off (adr a))+0)+2))=some (.str s5)/\(Cd (!(s5==s)) (RX [ii] H [Sk ii [.slice a k q] 171] H R (.bool false)) (∃a7 l8 c9,(sliceL cfg.P 22 (.slice a k q) (some (I6 1)) none none)=(some (.slice a7 l8 c9))/\(PX [ii] H fun H10=>RX [ii] H [Sk ii [.slice a7 l8 c9] 171] H10 R (.bool true)))))))))):
 CallL cfg 266 [.ptr (some (Lk ii 1 0)),.str s] H R:=call_wt (k:=(.go 14 (.cases 11 (.go 26 (.facts .ret)) (.go 4 (.op (.tuple []) (.go 1 (.facts (.op (.int .i64) (.go 3 (.cases 21 (.go 16 (.facts .ret)) (.go 4 (.op (.tuple []) (.go 1 (.facts (.op .str (.go 4 (.cases 31 (.go 5 (.facts .ret)) (.go 9 (.op .slice (.go 2 (.putP (.go 5 (.facts .ret))))))))))))))))))))))) (kn:=[Sk ii [.slice a k q] 171]) (args:=[.own 0 0,.lv (.str s)]) (by kernel_rfl) h hI (fun x hx=>List.all_eq_true.1 (show List.all [.own 0 0,.lv (.str s)] (inR 1)=true from rfl) x hx)
theorem e206p(R Pn:RR)(a:(Option LAddr))(k:Nat)(q:Cap)(ii:Nat)(H:LHeap)(hI:Inv [ii] H [(Sk ii [(.slice a k q)] 171)] H)
 (h:NX H fun i0 H1=>Cd (((k:Nat):Int)==0) (Inv [ii] H [Sk ii [.slice a k q] 171,Sk i0 qP2_22 124] H1->Pn (.iface 168 (.agg [])) H1) (((0:Int)<=0/\(0<((k:Nat):Int)/\(Option.isSome a)=true))/\(Inv [ii] H [Sk ii [.slice a k q] 171,Sk i0 qP2_22 124] H1->∃x4,loadT cfg.P H1 124 (Lk (LAddr.id (adr a)) (LAddr.ver (adr a)) ((LAddr.off (adr a))+0))=some (TokC.lv x4)/\(NX H1 fun i5 H6=>PX [i5] H6 fun H7=>∃a9 l10 c11,(sliceL cfg.P 22 (.slice a k q) (some (I6 1)) none none)=(some (.slice a9 l10 c11))/\(PX [ii] H7 fun H12=>PX [i0] H12 fun H13=>RX [ii] H [Sk ii [.slice a9 l10 c11] 171,Sk i0 (TokC.cs x4) 124,Sk i5 (TokC.cs x4) 124] H13 R (TokC.lv x4)))))):
 CallP cfg 206 [.ptr (some (Lk ii 1 0))] H R Pn:=call_wtP (k:=(.go 2 (.boxP (.go 11 (.cases 9 (.go 4 (.facts .panic)) (.go 8 (.op (.tuple []) (.facts (.op (.cust TokC TokC.lv) (.boxP (.putP (.go 8 (.op .slice (.go 2 (.putP (.go 4 (.putP (.go 1 (.facts .ret))))))))))))))))))) (kn:=[Sk ii [.slice a k q] 171]) (args:=[.own 0 0]) (by kernel_rfl) h hI (fun x hx=>List.all_eq_true.1 (show List.all [.own 0 0] (inR 1)=true from rfl) x hx)
theorem e297p(R Pn:RR)(a:(Option LAddr))(k:Nat)(q:Cap)(s:(List UInt8))(ii:Nat)(H:LHeap)(hI:Inv [ii] H [(Sk ii [(.slice a k q)] 171)] H)
 (h:Inv [ii] H [Sk ii [.slice a k q] 171] H->∃S0,CallL cfg 266 [.ptr (some (Lk ii 1 0)),.str s] H S0/\((qP2_8 S0 ii H) /\(∀b1 a2 l3 c4 H5,S0 (.bool b1) H5->H5.get ii=some (Slot.obj (Sk ii [.slice a2 l3 c4] 171))->Cd (!b1) (Inv [ii] H [Sk ii [.slice a2 l3 c4] 171] H5->Pn (.iface 168 (.agg [])) H5) (RX [ii] H [Sk ii [.slice a2 l3 c4] 171] H5 R (.tuple []))))):
 CallP cfg 297 [.ptr (some (Lk ii 1 0)),.str s] H R Pn:=call_wtP (k:=(.go 4 (.facts (.callO 0 (.agg [.slice]) .bool (.go 2 (.cases 7 (.go 4 (.facts .panic)) (.go 2 (.facts .ret)))))))) (kn:=[Sk ii [.slice a k q] 171]) (args:=[.own 0 0,.lv (.str s)]) (by kernel_rfl) h hI (fun x hx=>List.all_eq_true.1 (show List.all [.own 0 0,.lv (.str s)] (inR 1)=true from rfl) x hx)
theorem g205p_0(R Pn:RR)(H0:LHeap)(d:Nat->LV)(i0:Nat)(a1:Option LAddr)(l2:Nat)(c3:Cap)(i4:Nat)(x5:NdC)(i6:Nat)(x7:NdC)(H:LHeap)
 (h:Inv [i0] H0 (qP2_11 i0 a1 l2 c3 i4 x5 i6 x7) H->∃S8,CallL cfg 266 [.ptr (some (Lk i0 1 0)),.str [37]] H S8/\((qP2_8 S8 i0 H) /\(∀b9 a10 l11 c12 H13,S8 (.bool b9) H13->H13.get i0=some (Slot.obj (Sk i0 [.slice a10 l11 c12] 171))->Cd b9 (∀H14,H14=(LHeap.push H13 (LObj.cells (NdC.cs x7) 72 18 18 .none false true))->PX [i6] H14 fun H15=>∀d16,GoesG cfg (gP 205 R Pn) [i0] H0 [Sk i0 [.slice a10 l11 c12] 171,Sk i4 (NdC.cs x5) 72,Sk i6 [I6 5,.str [37],I6 0,I6 0,.str [],.str [],.str [],I6 0,I6 0,.bool false,.bool false,.str [],.str [],I6 0,I6 0,.bool false,.bool false,.slice (some (Lk (LHeap.next H13) 18 0)) 1 (.exact 1)] 72] (L205p_0 d16) (loopAt cfg 205 0) H15) (qP2_9 i4 H13 i0 H0 a10 l11 c12 x7 i6 R)))):
 GoesG cfg (gP 205 R Pn) [i0] H0 [Sk i0 [.slice a1 l2 c3] 171,Sk i4 (NdC.cs x5) 72,Sk i6 (NdC.cs x7) 72] (L205p_0 d) (loopAt cfg 205 0) H:=seg_wg (k:=(.go 4 (.facts (.callO 0 (.agg [.slice]) .bool (.go 1 (.cases 13 (.go 5 (.row (.go 1 (.putP (.go 3 (.stop [3,2,0] 3)))))) (.go 5 (.putP (.go 1 (.facts .ret)))))))))) (by kernel_rfl) h
theorem e205p(R Pn:RR)(a:(Option LAddr))(k:Nat)(q:Cap)(ii:Nat)(H:LHeap)(hI:Inv [ii] H [(Sk ii [(.slice a k q)] 171)] H)
 (h:NX H fun i0 H1=>Inv [ii] H [Sk ii [.slice a k q] 171,Sk i0 qP2_1 72] H1->∃S2,CallL cfg 266 [.ptr (some (Lk ii 1 0)),.str [45]] H1 S2/\((qP2_8 S2 ii H1) /\(∀b3 a4 l5 c6 H7,S2 (.bool b3) H7->H7.get ii=some (Slot.obj (Sk ii [.slice a4 l5 c6] 171))->Cd b3 (Inv [ii] H (qP2_18 ii a4 l5 c6 i0) H7->∃S8 S8n Y,CallP cfg 205 [.ptr (some (Lk ii 1 0))] H7 S8 S8n/\((qP2_7 S8 ii Y H7) /\((∀i∈Y,okId [ii] H (qP2_18 ii a4 l5 c6 i0) i)/\((qP2_4 S8n ii Y H7) /\((qP2_13 S8n ii H i0 Pn) /\(∀x9 a10 l11 c12 H13,S8 (NdC.lv x9) H13->H13.get ii=some (Slot.obj (Sk ii [.slice a10 l11 c12] 171))->∀H14,H14=(LHeap.push H13 (LObj.cells (NdC.cs x9) 72 18 18 .none false true))->PX [i0] H14 fun H15=>RX [ii] H [Sk ii [.slice a10 l11 c12] 171,Sk i0 (qP2_14 H13) 72] H15 R (.agg (qP2_14 H13)))))))) (Inv [ii] H (qP2_18 ii a4 l5 c6 i0) H7->∃S16 S16n Y,CallP cfg 267 [.ptr (some (Lk ii 1 0))] H7 S16 S16n/\((qP2_7 S16 ii Y H7) /\((∀i∈Y,okId [ii] H (qP2_18 ii a4 l5 c6 i0) i)/\((qP2_4 S16n ii Y H7) /\((qP2_13 S16n ii H i0 Pn) /\(∀x17 a18 l19 c20 H21,S16 (NdC.lv x17) H21->H21.get ii=some (Slot.obj (Sk ii [.slice a18 l19 c20] 171))->NX H21 fun i22 H23=>PX [i22] H23 fun H24=>∀d25,GoesG cfg (gP 205 R Pn) [ii] H [Sk ii [.slice a18 l19 c20] 171,Sk i0 qP2_1 72,Sk i22 (NdC.cs x17) 72] (L205p_0 d25) (loopAt cfg 205 0) H24))))))))):
 CallP cfg 205 [.ptr (some (Lk ii 1 0))] H R Pn:=call_wtP (k:=(.go 2 (.boxP (.go 5 (.facts (.callO 0 (.agg [.slice]) .bool (.go 1 (.cases 5 (.go 4 (.facts (.callP 0 (.agg [.slice]) (.cust NdC NdC.lv) (.row (.go 1 (.putP (.go 1 (.facts .ret)))))))) (.go 5 (.facts (.callP 0 (.agg [.slice]) (.cust NdC NdC.lv) (.boxP (.putP (.go 4 (.stop [3,2,0] 3))))))))))))))) (kn:=[Sk ii [.slice a k q] 171]) (args:=[.own 0 0]) (by kernel_rfl) h hI (fun x hx=>List.all_eq_true.1 (show List.all [.own 0 0] (inR 1)=true from rfl) x hx)
theorem e267p(R Pn:RR)(a:(Option LAddr))(k:Nat)(q:Cap)(ii:Nat)(H:LHeap)(hI:Inv [ii] H [(Sk ii [(.slice a k q)] 171)] H)
 (h:NX H fun i0 H1=>Inv [ii] H [Sk ii [.slice a k q] 171,Sk i0 qP2_1 72] H1->∃S2,CallL cfg 266 [.ptr (some (Lk ii 1 0)),.str [40]] H1 S2/\((qP2_8 S2 ii H1) /\(∀b3 a4 l5 c6 H7,S2 (.bool b3) H7->H7.get ii=some (Slot.obj (Sk ii [.slice a4 l5 c6] 171))->Cd b3 (Inv [ii] H (qP2_18 ii a4 l5 c6 i0) H7->∃S8 S8n Y,CallP cfg 115 [.ptr (some (Lk ii 1 0)),I6 1] H7 S8 S8n/\((qP2_7 S8 ii Y H7) /\((∀i∈Y,okId [ii] H (qP2_18 ii a4 l5 c6 i0) i)/\((qP2_4 S8n ii Y H7) /\((qP2_13 S8n ii H i0 Pn) /\(∀x9 a10 l11 c12 H13,S8 (NdC.lv x9) H13->H13.get ii=some (Slot.obj (Sk ii [.slice a10 l11 c12] 171))->NX H13 fun i14 H15=>PX [i14] H15 fun H16=>Inv [ii] H [Sk ii [.slice a10 l11 c12] 171,Sk i0 qP2_1 72,Sk i14 (NdC.cs x9) 72] H16->∃S17 S17n Y,CallP cfg 297 [.ptr (some (Lk ii 1 0)),.str [41]] H16 S17 S17n/\((∀v H',S17 v H'->PresX (ii::Y) H16 H'/\(hasSh (.tuple []) v/\ (qP2_3 H' ii)))/\((∀i∈Y,okId [ii] H [Sk ii [.slice a10 l11 c12] 171,Sk i0 qP2_1 72,Sk i14 (NdC.cs x9) 72] i)/\((qP2_4 S17n ii Y H16) /\((∀v H' cs,S17n v H'->Inv [ii] H [Sk ii cs 171,Sk i0 qP2_1 72,Sk i14 (NdC.cs x9) 72] H'->Pn v H')/\(∀a18 l19 c20 H21,S17 (.tuple []) H21->H21.get ii=some (Slot.obj (Sk ii [.slice a18 l19 c20] 171))-> (qP2_9 i0 H21 ii H a18 l19 c20 x9 i14 R)))))))))))) (Inv [ii] H (qP2_18 ii a4 l5 c6 i0) H7->∃S23 S23n Y,CallP cfg 206 [.ptr (some (Lk ii 1 0))] H7 S23 S23n/\((qP2_20 S23 ii Y H7) /\((∀i∈Y,okId [ii] H (qP2_18 ii a4 l5 c6 i0) i)/\((qP2_4 S23n ii Y H7) /\((qP2_13 S23n ii H i0 Pn) /\(∀x24 a25 l26 c27 H28,S23 (TokC.lv x24) H28->H28.get ii=some (Slot.obj (Sk ii [.slice a25 l26 c27] 171))->NX H28 fun i29 H30=>PX [i29] H30 fun H31=>Cd (x24.kind==1) (Inv [ii] H (qP2_15 ii a25 l26 c27 i0 i29 x24) H31->Kh 298 [I6 1,I6 x24.n,.str []] H31 fun x33 H34=>(qP2_17 i0 H34 ii H a25 l26 c27 x33 i29 x24 R)) (Cd (x24.kind==2) (Inv [ii] H (qP2_15 ii a25 l26 c27 i0 i29 x24) H31->Kh 298 [I6 2,I6 0,.str x24.s] H31 fun x37 H38=>(qP2_17 i0 H38 ii H a25 l26 c27 x37 i29 x24 R)) (Cd (x24.kind==6) (Inv [ii] H (qP2_15 ii a25 l26 c27 i0 i29 x24) H31->Kh 298 [I6 4,I6 x24.n,.str []] H31 fun x41 H42=>(qP2_17 i0 H42 ii H a25 l26 c27 x41 i29 x24 R)) (Cd (x24.kind==3) (Inv [ii] H (qP2_15 ii a25 l26 c27 i0 i29 x24) H31->∃S44 S44n Y,CallP cfg 299 [.ptr (some (Lk ii 1 0)),.agg [.str x24.refBook,.str x24.refSheet,I6 x24.refRow,I6 x24.refCol,.bool x24.refFixRow,.bool x24.refFixCol]] H31 S44 S44n/\ (qP2_10 S44 ii Y H31 H a25 l26 c27 i0 i29 x24 S44n Pn R)) (Cd (x24.kind==4) (Inv [ii] H (qP2_15 ii a25 l26 c27 i0 i29 x24) H31->∃S51 S51n Y,CallP cfg 300 [.ptr (some (Lk ii 1 0)),TokC.lv x24] H31 S51 S51n/\ (qP2_10 S51 ii Y H31 H a25 l26 c27 i0 i29 x24 S51n Pn R)) (Inv [ii] H (qP2_15 ii a25 l26 c27 i0 i29 x24) H31->Pn (.iface 168 (.agg [])) H31)))))))))))))):
 CallP cfg 267 [.ptr (some (Lk ii 1 0))] H R Pn:=call_wtP (k:=(.go 2 (.boxP (.go 5 (.facts (.callO 0 (.agg [.slice]) .bool (.go 1 (.cases 6 (.go 4 (.facts (.callP 0 (.agg [.slice]) (.cust NdC NdC.lv) (.boxP (.putP (.go 4 (.facts (.callP 0 (.agg [.slice]) (.tuple []) (.go 4 (.putP (.go 1 (.facts .ret)))))))))))) (.go 5 (.facts (.callP 0 (.agg [.slice]) (.cust TokC TokC.lv) (.boxP (.putP (.go 13 (.cases 16 (.go 5 (.facts (.call (.cust NdC NdC.lv) (.putP (.go 1 (.facts .ret)))))) (.go 6 (.cases 21 (.go 5 (.facts (.call (.cust NdC NdC.lv) (.putP (.go 1 (.facts .ret)))))) (.go 6 (.cases 26 (.go 5 (.facts (.call (.cust NdC NdC.lv) (.putP (.go 1 (.facts .ret)))))) (.go 6 (.cases 31 (.go 6 (.facts (.callP 0 (.agg [.slice]) (.cust NdC NdC.lv) (.putP (.go 1 (.facts .ret)))))) (.go 6 (.cases 37 (.go 5 (.facts (.callP 0 (.agg [.slice]) (.cust NdC NdC.lv) (.putP (.go 1 (.facts .ret)))))) (.go 6 (.facts .panic))))))))))))))))))))))))) (kn:=[Sk ii [.slice a k q] 171]) (args:=[.own 0 0]) (by kernel_rfl) h hI (fun x hx=>List.all_eq_true.1 (show List.all [.own 0 0] (inR 1)=true from rfl) x hx)
theorem e299p(R Pn:RR)(a:(Option LAddr))(k:Nat)(q:Cap)(r:RefC)(ii:Nat)(H:LHeap)(hI:Inv [ii] H [(Sk ii [(.slice a k q)] 171)] H)
 (h:NX H fun i0 H1=>NX H1 fun i2 H3=>Inv [ii] H [Sk ii [.slice a k q] 171,Sk i0 (RefC.cs r) 69,Sk i2 qP2_1 72] H3->∃S4,CallL cfg 266 [.ptr (some (Lk ii 1 0)),.str [58]] H3 S4/\((qP2_8 S4 ii H3) /\(∀b5 a6 l7 c8 H9,S4 (.bool b5) H9->H9.get ii=some (Slot.obj (Sk ii [.slice a6 l7 c8] 171))->Cd (!b5) (PX [i2] H9 fun H10=>RX [ii] H [Sk ii [.slice a6 l7 c8] 171,Sk i0 (RefC.cs r) 69,Sk i2 (qP2_16 r) 72] H10 R (.agg (qP2_16 r))) (Inv [ii] H [Sk ii [.slice a6 l7 c8] 171,Sk i0 (RefC.cs r) 69,Sk i2 qP2_1 72] H9->∃S11 S11n Y,CallP cfg 206 [.ptr (some (Lk ii 1 0))] H9 S11 S11n/\((qP2_20 S11 ii Y H9) /\((∀i∈Y,okId [ii] H [Sk ii [.slice a6 l7 c8] 171,Sk i0 (RefC.cs r) 69,Sk i2 qP2_1 72] i)/\((qP2_4 S11n ii Y H9) /\((∀v H' cs,S11n v H'->Inv [ii] H [Sk ii cs 171,Sk i0 (RefC.cs r) 69,Sk i2 qP2_1 72] H'->Pn v H')/\(∀x12 a13 l14 c15 H16,S11 (TokC.lv x12) H16->H16.get ii=some (Slot.obj (Sk ii [.slice a13 l14 c15] 171))->NX H16 fun i17 H18=>PX [i17] H18 fun H19=>Cd (x12.kind !=3) (Inv [ii] H [Sk ii [.slice a13 l14 c15] 171,Sk i0 (RefC.cs r) 69,Sk i2 qP2_1 72,Sk i17 (TokC.cs x12) 124] H19->Pn (.iface 168 (.agg [])) H19) (Cd (!(x12.refSheet==[])) (Inv [ii] H [Sk ii [.slice a13 l14 c15] 171,Sk i0 (RefC.cs r) 69,Sk i2 qP2_1 72,Sk i17 (TokC.cs x12) 124] H19->Pn (.iface 168 (.agg [])) H19) (PX [i2] H19 fun H20=>RX [ii] H [Sk ii [.slice a13 l14 c15] 171,Sk i0 (RefC.cs r) 69,Sk i2 (qP2_12 r x12) 72,Sk i17 (TokC.cs x12) 124] H20 R (.agg (qP2_12 r x12))))))))))))):
 CallP cfg 299 [.ptr (some (Lk ii 1 0)),RefC.lv r] H R Pn:=call_wtP (k:=(.go 2 (.boxP (.boxP (.go 5 (.facts (.callO 0 (.agg [.slice]) .bool (.go 2 (.cases 8 (.go 5 (.putP (.go 1 (.facts .ret)))) (.go 5 (.facts (.callP 0 (.agg [.slice]) (.cust TokC TokC.lv) (.boxP (.putP (.go 8 (.cases 16 (.go 10 (.facts .panic)) (.go 6 (.cases 21 (.go 4 (.facts .panic)) (.go 8 (.putP (.go 1 (.facts .ret)))))))))))))))))))))) (kn:=[Sk ii [.slice a k q] 171]) (args:=[.own 0 0,.lv (RefC.lv r)]) (by kernel_rfl) h hI (fun x hx=>List.all_eq_true.1 (show List.all [.own 0 0,.lv (RefC.lv r)] (inR 1)=true from rfl) x hx)
theorem g300p_0(R Pn:RR)(H0:LHeap)(d:Nat->LV)(i0:Nat)(a1:Option LAddr)(l2:Nat)(c3:Cap)(i4:Nat)(x5:TokC)(i6:Nat)(x7:NdC)(i8:Nat)(x9:NdC)(H:LHeap)
 (h:([.slice x9.argsA x9.argsL x9.argsQ]:List LV)=[.slice x9.argsA x9.argsL x9.argsQ]/\(Inv [i0] H0 (qP2_21 i0 a1 l2 c3 i4 x5 i6 x7 i8 x9) H->∃S11 S11n Y,CallP cfg 115 [.ptr (some (Lk i0 1 0)),I6 1] H S11 S11n/\((qP2_7 S11 i0 Y H) /\((∀i∈Y,okId [i0] H0 (qP2_21 i0 a1 l2 c3 i4 x5 i6 x7 i8 x9) i)/\((qP2_4 S11n i0 Y H) /\((∀v H' cs,S11n v H'->Inv [i0] H0 [Sk i0 cs 171,Sk i4 (TokC.cs x5) 124,Sk i6 (NdC.cs x7) 72,Sk i8 (NdC.cs x9) 72] H'->Pn v H')/\(∀x12 a13 l14 c15 H16,S11 (NdC.lv x12) H16->H16.get i0=some (Slot.obj (Sk i0 [.slice a13 l14 c15] 171))->∀H17,H17=(LHeap.push H16 (LObj.cells (NdC.cs x12) 72 18 18 .none false true))->([.slice x9.argsA x9.argsL x9.argsQ]:List LV)=[.slice x9.argsA x9.argsL x9.argsQ]/\(Inv [i0] H0 (qP2_21 i0 a13 l14 c15 i4 x5 i6 x7 i8 x9) H17->∃Y a19 l20 c21 H22,(appendL cfg.P H17 [70,70] [.slice x9.argsA x9.argsL x9.argsQ,.slice (some (Lk (LHeap.next H16) 18 0)) 1 (.exact 1)]=some ((.slice a19 l20 c21),H22)/\(PresX Y H17 H22/\(∀i∈Y,okId [i0] H0 (qP2_21 i0 a13 l14 c15 i4 x5 i6 x7 i8 x9) i)))/\(PX [i8] H22 fun H24=>Inv [i0] H0 (qP2_19 i0 a13 l14 c15 i4 x5 i6 x7 i8 x9 a19 l20 c21) H24->∃S26,CallL cfg 266 [.ptr (some (Lk i0 1 0)),.str [44]] H24 S26/\((qP2_8 S26 i0 H24) /\(∀b27 a28 l29 c30 H31,S26 (.bool b27) H31->H31.get i0=some (Slot.obj (Sk i0 [.slice a28 l29 c30] 171))->Cd (!b27) (Inv [i0] H0 (qP2_19 i0 a28 l29 c30 i4 x5 i6 x7 i8 x9 a19 l20 c21) H31->∃S32 S32n Y,CallP cfg 297 [.ptr (some (Lk i0 1 0)),.str [41]] H31 S32 S32n/\((∀v H',S32 v H'->PresX (i0::Y) H31 H'/\(hasSh (.tuple []) v/\ (qP2_3 H' i0)))/\((∀i∈Y,okId [i0] H0 (qP2_19 i0 a28 l29 c30 i4 x5 i6 x7 i8 x9 a19 l20 c21) i)/\((qP2_4 S32n i0 Y H31) /\((∀v H' cs,S32n v H'->Inv [i0] H0 [Sk i0 cs 171,Sk i4 (TokC.cs x5) 124,Sk i6 (NdC.cs x7) 72,Sk i8 (qP2_2 x9 a19 l20 c21) 72] H'->Pn v H')/\(∀a33 l34 c35 H36,S32 (.tuple []) H36->H36.get i0=some (Slot.obj (Sk i0 [.slice a33 l34 c35] 171))->Dc (((l20:Nat):Int)>16) (Inv [i0] H0 (qP2_19 i0 a33 l34 c35 i4 x5 i6 x7 i8 x9 a19 l20 c21) H36->Pn (.iface 168 (.agg [])) H36) (PX [i6] H36 fun H37=>RX [i0] H0 [Sk i0 [.slice a33 l34 c35] 171,Sk i4 (TokC.cs x5) 124,Sk i6 (qP2_2 x9 a19 l20 c21) 72,Sk i8 (qP2_2 x9 a19 l20 c21) 72] H37 R (.agg (qP2_2 x9 a19 l20 c21))))))))) (∀d38,GoesG cfg (gP 300 R Pn) [i0] H0 (qP2_19 i0 a28 l29 c30 i4 x5 i6 x7 i8 x9 a19 l20 c21) (L300p_0 d38) (loopAt cfg 300 0) H31)))))))))))):
 GoesG cfg (gP 300 R Pn) [i0] H0 [Sk i0 [.slice a1 l2 c3] 171,Sk i4 (TokC.cs x5) 124,Sk i6 (NdC.cs x7) 72,Sk i8 (NdC.cs x9) 72] (L300p_0 d) (loopAt cfg 300 0) H:=seg_wg (k:=(.go 6 (.check (.facts (.callP 0 (.agg [.slice]) (.cust NdC NdC.lv) (.row (.check (.facts (.app (.go 1 (.check (.putP (.check (.go 4 (.facts (.callO 0 (.agg [.slice]) .bool (.go 2 (.cases 33 (.go 5 (.facts (.callP 0 (.agg [.slice]) (.tuple []) (.go 9 (.cases 39 (.go 4 (.facts .panic)) (.go 5 (.putP (.go 1 (.facts .ret))))))))) (.go 4 (.stop [4,6,0] 4)))))))))))))))))))) (by kernel_rfl) h
theorem e300p(R Pn:RR)(a:(Option LAddr))(k:Nat)(q:Cap)(t:TokC)(ii:Nat)(H:LHeap)(hI:Inv [ii] H [(Sk ii [(.slice a k q)] 171)] H)
 (h:NX H fun i0 H1=>NX H1 fun i2 H3=>Inv [ii] H [Sk ii [.slice a k q] 171,Sk i0 (TokC.cs t) 124,Sk i2 qP2_1 72] H3->Kb 175 [.str t.s] H3 fun s5 H6=>Cd (t.refBook==[]) (Inv [ii] H [Sk ii [.slice a k q] 171,Sk i0 (TokC.cs t) 124,Sk i2 qP2_1 72] H6->∃S7,CallL cfg 266 [.ptr (some (Lk ii 1 0)),.str [40]] H6 S7/\((qP2_8 S7 ii H6) /\(∀b8 a9 l10 c11 H12,S7 (.bool b8) H12->H12.get ii=some (Slot.obj (Sk ii [.slice a9 l10 c11] 171))->Cd b8 (NX H12 fun i13 H14=>PX [i13] H14 fun H15=>Inv [ii] H [Sk ii [.slice a9 l10 c11] 171,Sk i0 (TokC.cs t) 124,Sk i2 qP2_1 72,Sk i13 (qP2_5 s5) 72] H15->∃S16,CallL cfg 266 [.ptr (some (Lk ii 1 0)),.str [41]] H15 S16/\((qP2_8 S16 ii H15) /\(∀b17 a18 l19 c20 H21,S16 (.bool b17) H21->H21.get ii=some (Slot.obj (Sk ii [.slice a18 l19 c20] 171))->Cd b17 (PX [i2] H21 fun H22=>RX [ii] H [Sk ii [.slice a18 l19 c20] 171,Sk i0 (TokC.cs t) 124,Sk i2 (qP2_5 s5) 72,Sk i13 (qP2_5 s5) 72] H22 R (.agg (qP2_5 s5))) (∀d23,GoesG cfg (gP 300 R Pn) [ii] H [Sk ii [.slice a18 l19 c20] 171,Sk i0 (TokC.cs t) 124,Sk i2 qP2_1 72,Sk i13 (qP2_5 s5) 72] (L300p_0 d23) (loopAt cfg 300 0) H21)))) (Cd (s5==[84,82,85,69]) (Inv [ii] H [Sk ii [.slice a9 l10 c11] 171,Sk i0 (TokC.cs t) 124,Sk i2 qP2_1 72] H12->Kh 298 [I6 3,I6 1,.str []] H12 fun x25 H26=>PX [i2] H26 fun H27=>RX [ii] H [Sk ii [.slice a9 l10 c11] 171,Sk i0 (TokC.cs t) 124,Sk i2 (NdC.cs x25) 72] H27 R (NdC.lv x25)) (Cd (s5==[70,65,76,83,69]) (Inv [ii] H [Sk ii [.slice a9 l10 c11] 171,Sk i0 (TokC.cs t) 124,Sk i2 qP2_1 72] H12->Kh 298 [I6 3,I6 0,.str []] H12 fun x29 H30=>PX [i2] H30 fun H31=>RX [ii] H [Sk ii [.slice a9 l10 c11] 171,Sk i0 (TokC.cs t) 124,Sk i2 (NdC.cs x29) 72] H31 R (NdC.lv x29)) (PX [i2] H12 fun H32=>RX [ii] H [Sk ii [.slice a9 l10 c11] 171,Sk i0 (TokC.cs t) 124,Sk i2 (qP2_6 t) 72] H32 R (.agg (qP2_6 t)))))))) (Cd (s5==[84,82,85,69]) (Inv [ii] H [Sk ii [.slice a k q] 171,Sk i0 (TokC.cs t) 124,Sk i2 qP2_1 72] H6->Kh 298 [I6 3,I6 1,.str []] H6 fun x34 H35=>PX [i2] H35 fun H36=>RX [ii] H [Sk ii [.slice a k q] 171,Sk i0 (TokC.cs t) 124,Sk i2 (NdC.cs x34) 72] H36 R (NdC.lv x34)) (Cd (s5==[70,65,76,83,69]) (Inv [ii] H [Sk ii [.slice a k q] 171,Sk i0 (TokC.cs t) 124,Sk i2 qP2_1 72] H6->Kh 298 [I6 3,I6 0,.str []] H6 fun x38 H39=>PX [i2] H39 fun H40=>RX [ii] H [Sk ii [.slice a k q] 171,Sk i0 (TokC.cs t) 124,Sk i2 (NdC.cs x38) 72] H40 R (NdC.lv x38)) (PX [i2] H6 fun H41=>RX [ii] H [Sk ii [.slice a k q] 171,Sk i0 (TokC.cs t) 124,Sk i2 (qP2_6 t) 72] H41 R (.agg (qP2_6 t)))))):
 CallP cfg 300 [.ptr (some (Lk ii 1 0)),TokC.lv t] H R Pn:=call_wtP (k:=(.go 2 (.boxP (.boxP (.go 5 (.facts (.call .str (.go 11 (.cases 15 (.go 1 (.facts (.callO 0 (.agg [.slice]) .bool (.go 3 (.cases 10 (.go 5 (.boxP (.putP (.go 5 (.facts (.callO 0 (.agg [.slice]) .bool (.go 1 (.cases 22 (.go 4 (.putP (.go 1 (.facts .ret)))) (.go 5 (.stop [4,6,0] 4)))))))))) (.go 7 (.cases 43 (.go 3 (.facts (.call (.cust NdC NdC.lv) (.putP (.go 1 (.facts .ret)))))) (.go 7 (.cases 47 (.go 3 (.facts (.call (.cust NdC NdC.lv) (.putP (.go 1 (.facts .ret)))))) (.go 10 (.putP (.go 1 (.facts .ret))))))))))))) (.go 12 (.cases 43 (.go 3 (.facts (.call (.cust NdC NdC.lv) (.putP (.go 1 (.facts .ret)))))) (.go 7 (.cases 47 (.go 3 (.facts (.call (.cust NdC NdC.lv) (.putP (.go 1 (.facts .ret)))))) (.go 10 (.putP (.go 1 (.facts .ret))))))))))))))))) (kn:=[Sk ii [.slice a k q] 171]) (args:=[.own 0 0,.lv (TokC.lv t)]) (by kernel_rfl) h hI (fun x hx=>List.all_eq_true.1 (show List.all [.own 0 0,.lv (TokC.lv t)] (inR 1)=true from rfl) x hx)
theorem g115p_0(R Pn:RR)(H0:LHeap)(d:Nat->LV)(n0:Int)(i1:Nat)(a2:Option LAddr)(l3:Nat)(c4:Cap)(i5:Nat)(x6:NdC)(i7:Nat)(x8:NdC)(H:LHeap)
 (h:Dc (((l3:Nat):Int)>0) (((0:Int)<=0/\(0<((l3:Nat):Int)/\(Option.isSome a2)=true))/\(Inv [i1] H0 (qP2_11 i1 a2 l3 c4 i5 x6 i7 x8) H->∃n11,loadT cfg.P H 3 (Lk (LAddr.id (adr a2)) (LAddr.ver (adr a2)) (((LAddr.off (adr a2))+0)+0))=some (I6 n11)/\(Cd (n11==5) (((0:Int)<=0/\(0<((l3:Nat):Int)/\(Option.isSome a2)=true))/\(Inv [i1] H0 (qP2_11 i1 a2 l3 c4 i5 x6 i7 x8) H->∃s14,loadT cfg.P H 9 (Lk (LAddr.id (adr a2)) (LAddr.ver (adr a2)) (((LAddr.off (adr a2))+0)+2))=some (.str s14)/\(Inv [i1] H0 (qP2_11 i1 a2 l3 c4 i5 x6 i7 x8) H->Kc 198 [.str s14] H fun n16 H17=>Cd (n16==0) (qP2_9 i5 H17 i1 H0 a2 l3 c4 x8 i7 R) (Dc (n16<n0) (qP2_9 i5 H17 i1 H0 a2 l3 c4 x8 i7 R) (Inv [i1] H0 (qP2_11 i1 a2 l3 c4 i5 x6 i7 x8) H17->∃S20 S20n Y,CallP cfg 206 [.ptr (some (Lk i1 1 0))] H17 S20 S20n/\((qP2_20 S20 i1 Y H17) /\((∀i∈Y,okId [i1] H0 (qP2_11 i1 a2 l3 c4 i5 x6 i7 x8) i)/\((qP2_4 S20n i1 Y H17) /\((∀v H' cs,S20n v H'->Inv [i1] H0 [Sk i1 cs 171,Sk i5 (NdC.cs x6) 72,Sk i7 (NdC.cs x8) 72] H'->Pn v H')/\(∀x21 a22 l23 c24 H25,S20 (TokC.lv x21) H25->H25.get i1=some (Slot.obj (Sk i1 [.slice a22 l23 c24] 171))->([NdC.lv x8]:List LV)=[NdC.lv x8]/\(Inv [i1] H0 (qP2_11 i1 a22 l23 c24 i5 x6 i7 x8) H25->∃S27 S27n Y,CallP cfg 115 [.ptr (some (Lk i1 1 0)),I6 (lwrap .i64 (n16+1))] H25 S27 S27n/\((qP2_7 S27 i1 Y H25) /\((∀i∈Y,okId [i1] H0 (qP2_11 i1 a22 l23 c24 i5 x6 i7 x8) i)/\((qP2_4 S27n i1 Y H25) /\((∀v H' cs,S27n v H'->Inv [i1] H0 [Sk i1 cs 171,Sk i5 (NdC.cs x6) 72,Sk i7 (NdC.cs x8) 72] H'->Pn v H')/\(∀x28 a29 l30 c31 H32,S27 (NdC.lv x28) H32->H32.get i1=some (Slot.obj (Sk i1 [.slice a29 l30 c31] 171))->∀H33,H33=(LHeap.push H32 (LObj.cells [I6 x8.kind,.str x8.s,I6 x8.valueKind,I6 x8.valueN,.str x8.valueS,.str x8.refBook,.str x8.refSheet,I6 x8.refRow,I6 x8.refCol,.bool x8.refFixRow,.bool x8.refFixCol,.str x8.toBook,.str x8.toSheet,I6 x8.toRow,I6 x8.toCol,.bool x8.toFixRow,.bool x8.toFixCol,.slice x8.argsA x8.argsL x8.argsQ,I6 x28.kind,.str x28.s,I6 x28.valueKind,I6 x28.valueN,.str x28.valueS,.str x28.refBook,.str x28.refSheet,I6 x28.refRow,I6 x28.refCol,.bool x28.refFixRow,.bool x28.refFixCol,.str x28.toBook,.str x28.toSheet,I6 x28.toRow,I6 x28.toCol,.bool x28.toFixRow,.bool x28.toFixCol,.slice x28.argsA x28.argsL x28.argsQ] 72 36 36 .none false true))->([NdC.lv x8]:List LV)=[NdC.lv x8]/\(PX [i7] H33 fun H35=>∀d37,GoesG cfg (gP 115 R Pn) [i1] H0 [Sk i1 [.slice a29 l30 c31] 171,Sk i5 (NdC.cs x6) 72,Sk i7 [I6 6,.str x21.s,I6 0,I6 0,.str [],.str [],.str [],I6 0,I6 0,.bool false,.bool false,.str [],.str [],I6 0,I6 0,.bool false,.bool false,.slice (some (Lk (LHeap.next H32) 36 0)) 2 (.exact 2)] 72] (L115p_0 d37 n0) (loopAt cfg 115 0) H35))))))))))))))))) (qP2_9 i5 H i1 H0 a2 l3 c4 x8 i7 R)))) (qP2_9 i5 H i1 H0 a2 l3 c4 x8 i7 R)):
 GoesG cfg (gP 115 R Pn) [i1] H0 [Sk i1 [.slice a2 l3 c4] 171,Sk i5 (NdC.cs x6) 72,Sk i7 (NdC.cs x8) 72] (L115p_0 d n0) (loopAt cfg 115 0) H:=seg_wg (k:=(.go 10 (.cases 16 (.go 4 (.op (.tuple []) (.go 1 (.facts (.op (.int .i64) (.go 3 (.cases 25 (.go 9 (.op (.tuple []) (.go 1 (.facts (.op .str (.facts (.call (.int .i64) (.go 8 (.cases 36 (.go 10 (.putP (.go 1 (.facts .ret)))) (.go 5 (.cases 40 (.go 5 (.putP (.go 1 (.facts .ret)))) (.go 5 (.facts (.callP 0 (.agg [.slice]) (.cust TokC TokC.lv) (.go 9 (.check (.facts (.callP 0 (.agg [.slice]) (.cust NdC NdC.lv) (.row (.go 1 (.check (.putP (.check (.go 3 (.stop [4,5,0,1] 3))))))))))))))))))))))))) (.go 5 (.putP (.go 1 (.facts .ret))))))))))) (.go 15 (.putP (.go 1 (.facts .ret))))))) (by kernel_rfl) h
theorem e115p(R Pn:RR)(a:(Option LAddr))(k:Nat)(q:Cap)(b:Int)(ii:Nat)(H:LHeap)(hI:Inv [ii] H [(Sk ii [(.slice a k q)] 171)] H)
 (h:NX H fun i0 H1=>Inv [ii] H [Sk ii [.slice a k q] 171,Sk i0 qP2_1 72] H1->∃S2 S2n Y,CallP cfg 205 [.ptr (some (Lk ii 1 0))] H1 S2 S2n/\((qP2_7 S2 ii Y H1) /\((∀i∈Y,okId [ii] H [Sk ii [.slice a k q] 171,Sk i0 qP2_1 72] i)/\((qP2_4 S2n ii Y H1) /\((qP2_13 S2n ii H i0 Pn) /\(∀x3 a4 l5 c6 H7,S2 (NdC.lv x3) H7->H7.get ii=some (Slot.obj (Sk ii [.slice a4 l5 c6] 171))->NX H7 fun i8 H9=>PX [i8] H9 fun H10=>∀d11,GoesG cfg (gP 115 R Pn) [ii] H [Sk ii [.slice a4 l5 c6] 171,Sk i0 qP2_1 72,Sk i8 (NdC.cs x3) 72] (L115p_0 d11 b) (loopAt cfg 115 0) H10)))))):
 CallP cfg 115 [.ptr (some (Lk ii 1 0)),I6 b] H R Pn:=call_wtP (k:=(.go 2 (.boxP (.go 4 (.facts (.callP 0 (.agg [.slice]) (.cust NdC NdC.lv) (.boxP (.putP (.go 4 (.stop [4,5,0,1] 3)))))))))) (kn:=[Sk ii [.slice a k q] 171]) (args:=[.own 0 0,.lv (I6 b)]) (by kernel_rfl) h hI (fun x hx=>List.all_eq_true.1 (show List.all [.own 0 0,.lv (I6 b)] (inR 1)=true from rfl) x hx)
end Go.Proofs.YtjihhflffkoffaaGreatDoor.Z
