/- Contracts of functions of the program; no condition. -/
import Derived.Test.YtjihhflffkoffaaGreatDoorG0
import Derived.Test.YtjihhflffkoffaaGreatDoorLe
set_option linter.unusedSimpArgs false
set_option linter.unusedVariables false
set_option linter.unusedSectionVars false
set_option linter.unnecessarySimpa false
namespace Go.Proofs.YtjihhflffkoffaaGreatDoor.Z
open Go Go.Lm
set_option maxRecDepth 1000000
set_option maxHeartbeats 0
def L228a_0(d:Nat->LV)(s0:List UInt8)(p1:Option LAddr):List SV:=[.lv (.str s0),.lv (.func (Fn.func 229) [] [])]++dl d 2 6++[.lv (.ptr p1)]++dl d 9 11
def L228b_0(d:Nat->LV)(s0:List UInt8)(p1:Option LAddr):List SV:=[.lv (.str s0),.lv (.func (Fn.func 279) [] [])]++dl d 2 6++[.lv (.ptr p1)]++dl d 9 11
def L276t_0(d:Nat->LV)(n0:Int)(s1:List UInt8)(n2:Int)(n3:Int)(p4:Option LAddr):List SV:=[.lv (.str s1),.lv (I6 n2),.lv (I6 n3)]++dl d 3 5++[.lv (I6 n0)]++dl d 9 3++[.lv (.ptr p4)]++dl d 13 28
def L230t_0(d:Nat->LV)(n0:Int)(n1:Int)(b2:Bool)(n3:Int)(n4:Int):List SV:=dl d 0 4++[.lv (.bool b2)]++dl d 5 3++[.lv (I6 n3),.lv (d 9),.lv (I6 n1)]++dl d 11 33++[.lv (I6 n4),.lv (I6 n0)]++dl d 46 15
def L236t_0(d:Nat->LV)(n0:Int)(n1:Int)(s2:List UInt8)(n3:Int)(b4:Bool)(b5:Bool)(n6:Int):List SV:=[.lv (.str s2),.lv (d 1),.own 0 0,.lv (d 3),.lv (.bool b5),.lv (I6 n3),.lv (.bool b4),.lv (I6 n1)]++dl d 8 29++[.lv (I6 n6),.lv (I6 n0)]++dl d 39 37
abbrev qT1_1:List LV:=[I6 0,I6 0,.str [],.str [],.str [],I6 0,I6 0,.bool false,.bool false]
abbrev qT1_2:List LV:=[.str [],.str [],I6 0,I6 0,.bool false,.bool false]
abbrev qT1_3(s0 s6:List UInt8)(n17:Int):List LV:=[I6 4,I6 0,.str (subStr s0 (lwrap .i64 ((s6.length:Int)+2)) (lwrap .i64 ((lwrap .i64 ((s6.length:Int)+2))+n17))),.str s6,.str [],I6 0,I6 0,.bool false,.bool false]
abbrev qT1_10(i1:Nat)(H10 H:LHeap)(R:RR):Prop:=PX [i1] H10 fun H11=>R0 H [Sk i1 qT1_1 124] H11 R (.tuple [.agg qT1_1,I6 0])
abbrev qT1_4(s0:List UInt8)(H:LHeap)(i1:Nat)(H2:LHeap)(R:RR):Prop:=((0:Int)<=0/\((0:Int)<=1/\1<=(s0.length:Int)))/\(Inv [] H [Sk i1 qT1_1 124] H2->Ka 237 [.str [43,45,42,47,94,38,61,60,62,37,40,41,44,58],.str (subStr s0 0 1)] H2 fun b6 H7=>Cd (!b6) (qT1_10 i1 H7 H R) (((0:Int)<=0/\((0:Int)<=2/\2<=(s0.length:Int)))/\(PX [i1] H7 fun H10=>R0 H [Sk i1 [I6 5,I6 0,.str (subStr s0 0 2),.str [],.str [],I6 0,I6 0,.bool false,.bool false] 124] H10 R (.tuple [.agg [I6 5,I6 0,.str (subStr s0 0 2),.str [],.str [],I6 0,I6 0,.bool false,.bool false],I6 2]))))
abbrev qT1_5(x29:RefC):List LV:=[I6 3,I6 0,.str [],.str x29.book,.str x29.sheet,I6 x29.row,I6 x29.col,.bool x29.fixRow,.bool x29.fixCol]
abbrev qT1_6(i7:Nat)(H12 H0:LHeap)(R:RR):Prop:=PX [i7] H12 fun H13=>R0 H0 [Sk i7 qT1_2 69] H13 R (.tuple [.agg qT1_2,.bool false])
abbrev qT1_7(s0:List UInt8)(H:LHeap)(i1:Nat)(H2:LHeap)(R:RR):Prop:=((0:Int)<=0/\((0:Int)<=1/\1<=(s0.length:Int)))/\(Inv [] H [Sk i1 qT1_1 124] H2->Ka 237 [.str [43,45,42,47,94,38,61,60,62,37,40,41,44,58],.str (subStr s0 0 1)] H2 fun b29 H30=>Cd (!b29) (qT1_10 i1 H30 H R) (((0:Int)<=0/\((0:Int)<=1/\1<=(s0.length:Int)))/\(PX [i1] H30 fun H33=>R0 H [Sk i1 [I6 5,I6 0,.str (subStr s0 0 1),.str [],.str [],I6 0,I6 0,.bool false,.bool false] 124] H33 R (.tuple [.agg [I6 5,I6 0,.str (subStr s0 0 1),.str [],.str [],I6 0,I6 0,.bool false,.bool false],I6 1]))))
abbrev qT1_8(i1:Nat)(H104 H:LHeap)(s0:List UInt8)(n70:Int)(i95:Nat)(x92:RefC)(R:RR):Prop:=PX [i1] H104 fun H106=>R0 H [Sk i1 [I6 4,I6 0,.str (subStr s0 0 (lwrap .i64 (0+n70))),.str [],.str [],I6 0,I6 0,.bool false,.bool false] 124,Sk i95 (RefC.cs x92) 69] H106 R (.tuple [.agg [I6 4,I6 0,.str (subStr s0 0 (lwrap .i64 (0+n70))),.str [],.str [],I6 0,I6 0,.bool false,.bool false],I6 (lwrap .i64 (0+n70))])
abbrev qT1_9(s1:List UInt8)(n2 n3:Int)(d:Nat->LV)(n0:Int)(p4:Option LAddr):List SV:=[.lv (.str s1),.lv (I6 n2),.lv (I6 n3),.lv (d 3),.lv (d 4),.lv (d 5),.lv (d 6),.lv (d 7),.lv (I6 n0),.lv (d 9),.lv (d 10),.lv (d 11),.lv (.ptr p4),.lv (d 13),.lv (d 14),.lv (d 15),.lv (d 16),.lv (d 17),.lv (d 18),.lv (d 19),.lv (d 20),.lv (d 21),.lv (d 22),.lv (d 23),.lv (d 24),.lv (d 25),.lv (d 26),.lv (d 27),.lv (d 28),.lv (d 29),.lv (d 30),.lv (d 31),.lv (d 32),.lv (d 33),.lv (d 34),.lv (d 35),.lv (d 36),.lv (d 37),.lv (d 38),.lv (d 39),.lv (d 40)]
abbrev qT1_11(s0 s6:List UInt8)(n17:Int):List LV:=[.str (subStr s0 (lwrap .i64 ((s6.length:Int)+2)) (lwrap .i64 ((lwrap .i64 ((s6.length:Int)+2))+n17)))]
abbrev qT1_12(s0 s6:List UInt8)(n17:Int):List LV:=[.agg (qT1_3 s0 s6 n17),I6 (lwrap .i64 ((lwrap .i64 ((s6.length:Int)+2))+n17))]
abbrev qT1_13(i1:Nat)(H34 H:LHeap)(i32:Nat)(x29:RefC)(R:RR):Prop:=PX [i1] H34 fun H35=>R0 H [Sk i1 qT1_1 124,Sk i32 (RefC.cs x29) 69] H35 R (.tuple [.agg qT1_1,I6 0])
abbrev qT1_14(i1:Nat)(H36 H:LHeap)(i34:Nat)(x31:RefC)(R:RR):Prop:=PX [i1] H36 fun H37=>R0 H [Sk i1 qT1_2 69,Sk i34 (RefC.cs x31) 69] H37 R (.tuple [.agg qT1_2,.bool false])
abbrev qT1_15(s0:List UInt8)(d:Nat->LV)(p1:Option LAddr):List SV:=[.lv (.str s0),.lv (.func (Fn.func 229) [] []),.lv (d 2),.lv (d 3),.lv (d 4),.lv (d 5),.lv (d 6),.lv (d 7),.lv (.ptr p1),.lv (d 9),.lv (d 10),.lv (d 11),.lv (d 12),.lv (d 13),.lv (d 14),.lv (d 15),.lv (d 16),.lv (d 17),.lv (d 18),.lv (d 19)]
abbrev qT1_16(s0:List UInt8)(d:Nat->LV)(p1:Option LAddr):List SV:=[.lv (.str s0),.lv (.func (Fn.func 279) [] []),.lv (d 2),.lv (d 3),.lv (d 4),.lv (d 5),.lv (d 6),.lv (d 7),.lv (.ptr p1),.lv (d 9),.lv (d 10),.lv (d 11),.lv (d 12),.lv (d 13),.lv (d 14),.lv (d 15),.lv (d 16),.lv (d 17),.lv (d 18),.lv (d 19)]
abbrev qT1_17(x73:RefC):List LV:=[.str [],.str [],I6 x73.row,I6 x73.col,.bool x73.fixRow,.bool x73.fixCol]
abbrev qT1_18(s8:List UInt8)(x42:RefC):List LV:=[.str s8,.str [],I6 x42.row,I6 x42.col,.bool x42.fixRow,.bool x42.fixCol]
abbrev qT1_19(s53:List UInt8)(x62:RefC):List LV:=[.str [],.str s53,I6 x62.row,I6 x62.col,.bool x62.fixRow,.bool x62.fixCol]
abbrev qT1_20(n1 n3:Int)(b4 b5:Bool):List LV:=[.str [],.str [],I6 n1,I6 n3,.bool b4,.bool b5]
abbrev qT1_21(s8 s22:List UInt8)(x31:RefC):List LV:=[.str s8,.str s22,I6 x31.row,I6 x31.col,.bool x31.fixRow,.bool x31.fixCol]
abbrev qT1_22(y2:Int×Int):List LV:=[.bool true,I6 (Prod.fst y2),.int .i32 (Prod.snd y2)]
theorem e146t(R:RR)(n0:Int)(H:LHeap)
(h:Dc (n0>=48) (R0 H [] H R (.bool (decide (n0<=57)))) (R0 H [] H R (.bool false))):
 CallL cfg 146 [.int .i32 n0] H R:=call_wt0 (k:=(.go 9 (.cases 5 (.go 5 (.facts .ret)) (.go 5 (.facts .ret))))) (by kernel_rfl) h
theorem e150t(R:RR)(n0:Int)(H:LHeap)
(h:Dc (n0>=97) (Dc (n0<=122) (R0 H [] H R (.bool true)) (Dc (n0>=65) (R0 H [] H R (.bool (decide (n0<=90)))) (R0 H [] H R (.bool false)))) (Dc (n0>=65) (R0 H [] H R (.bool (decide (n0<=90)))) (R0 H [] H R (.bool false)))):
 CallL cfg 150 [.int .i32 n0] H R:=call_wt0 (k:=(.go 9 (.cases 5 (.go 4 (.cases 9 (.go 9 (.facts .ret)) (.go 3 (.cases 12 (.go 6 (.facts .ret)) (.go 6 (.facts .ret)))))) (.go 7 (.cases 12 (.go 6 (.facts .ret)) (.go 6 (.facts .ret))))))) (by kernel_rfl) h
theorem e229t(R:RR)(n0:Int)(H:LHeap)
(h:Inv [] H [] H->Ka 146 [.int .i32 n0] H fun b2 H3=>Cd b2 (R0 H [] H3 R (.bool true)) (R0 H [] H3 R (.bool (n0==46)))):
 CallL cfg 229 [.int .i32 n0] H R:=call_wt0 (k:=(.go 7 (.facts (.call .bool (.go 1 (.cases 5 (.go 5 (.facts .ret)) (.go 5 (.facts .ret)))))))) (by kernel_rfl) h
theorem e279t(R:RR)(n0:Int)(H:LHeap)
(h:Inv [] H [] H->Ka 150 [.int .i32 n0] H fun b2 H3=>Cd b2 (R0 H [] H3 R (.bool true)) (Inv [] H [] H3->Ka 146 [.int .i32 n0] H3 fun b5 H6=>Cd b5 (R0 H [] H6 R (.bool true)) (Cd (n0==95) (R0 H [] H6 R (.bool true)) (R0 H [] H6 R (.bool (n0==36)))))):
 CallL cfg 279 [.int .i32 n0] H R:=call_wt0 (k:=(.go 7 (.facts (.call .bool (.go 1 (.cases 5 (.go 13 (.facts .ret)) (.go 1 (.facts (.call .bool (.go 2 (.cases 9 (.go 9 (.facts .ret)) (.go 4 (.cases 13 (.go 5 (.facts .ret)) (.go 5 (.facts .ret))))))))))))))) (by kernel_rfl) h
theorem g228a_0(R:RR)(H0:LHeap)(d:Nat->LV)(s0:List UInt8)(p1:Option LAddr)(H:LHeap)
(h:(Inv [] H0 [] H->∃y2 Y H3,(opL cfg (fun (x:Operand)=>denF [] (evalS cfg (qT1_15 s0 d p1) x)) H (Oper.mk (some 9) (Op.next (Operand.tmp 8) true) 0 "token.go:43" (List.toArray []) none)=some [(.value (.tuple (qT1_22 y2)),H3)]/\(PresX Y H H3/\(∀i∈Y,okId [] H0 [] i)))/\(Inv [] H0 [] H3->Ka 229 [.int .i32 (Prod.snd y2)] H3 fun b5 H6=>Cd (!b5) (R0 H0 [] H6 R (I6 (Prod.fst y2))) (∀d7,GoesT cfg 228 R [] H0 [] (L228a_0 d7 s0 p1) (loopAt cfg 228 0) H6)))\/(Inv [] H0 [] H->∃(y8:Unit) (Y:List Nat) (H9:LHeap),(opL cfg (fun (x:Operand)=>denF [] (evalS cfg (qT1_15 s0 d p1) x)) H (Oper.mk (some 9) (Op.next (Operand.tmp 8) true) 0 "token.go:43" (List.toArray []) none)=some [(.value (.tuple [.bool false]),H9)]/\(PresX Y H H9/\(∀i∈Y,okId [] H0 [] i)))/\(R0 H0 [] H9 R (I6 (s0.length:Int))))):
 GoesT cfg 228 R [] H0 [] (L228a_0 d s0 p1) (loopAt cfg 228 0) H:=seg_wt (k:=(.go 2 (.alt (.facts (.any (.cust (Int×Int) (fun (p:Int×Int)=>(.tuple [.bool true,.int .i64 p.1,.int .i32 p.2]:LV))) (.go 17 (.facts (.call .bool (.go 2 (.cases 16 (.go 6 (.facts .ret)) (.go 4 (.stop [1,0,8] 0))))))))) (.facts (.any (.cust Unit (fun (_:Unit)=>(.tuple [.bool false]:LV))) (.go 11 (.facts .ret))))))) (by kernel_rfl) h
theorem e228a(R:RR)(s:(List UInt8))(H:LHeap)
(h:Inv [] H [] H->∃p0 Y H1,(opL cfg (fun (x:Operand)=>denF [] (evalS cfg [.lv (.str s),.lv (.func (Fn.func 229) [] []),.lv (.tuple []),.lv (.tuple []),.lv (I6 0),.lv (.tuple []),.lv (.tuple []),.lv (.str s),.lv (.tuple []),.lv (.tuple []),.lv (.tuple []),.lv (.tuple []),.lv (.tuple []),.lv (.tuple []),.lv (.tuple []),.lv (.tuple []),.lv (.tuple []),.lv (.tuple []),.lv (.tuple []),.lv (.tuple [])] x)) H (Oper.mk (some 8) (Op.range 9 (Operand.tmp 7)) 0 "token.go:43" (List.toArray [Edge.mk 0 Go.Ground.data]) none)=some [(.value (.ptr p0),H1)]/\(PresX Y H H1/\(∀i∈Y,okId [] H [] i)))/\(∀d2,GoesT cfg 228 R [] H [] (L228a_0 d2 s p0) (loopAt cfg 228 0) H1)):
 CallL cfg 228 [.str s,.func (Fn.func 229) [] []] H R:=call_wt0 (k:=(.go 8 (.facts (.any .ptr (.go 3 (.stop [1,0,8] 0)))))) (by kernel_rfl) h
theorem g228b_0(R:RR)(H0:LHeap)(d:Nat->LV)(s0:List UInt8)(p1:Option LAddr)(H:LHeap)
(h:(Inv [] H0 [] H->∃y2 Y H3,(opL cfg (fun (x:Operand)=>denF [] (evalS cfg (qT1_16 s0 d p1) x)) H (Oper.mk (some 9) (Op.next (Operand.tmp 8) true) 0 "token.go:43" (List.toArray []) none)=some [(.value (.tuple (qT1_22 y2)),H3)]/\(PresX Y H H3/\(∀i∈Y,okId [] H0 [] i)))/\(Inv [] H0 [] H3->Ka 279 [.int .i32 (Prod.snd y2)] H3 fun b5 H6=>Cd (!b5) (R0 H0 [] H6 R (I6 (Prod.fst y2))) (∀d7,GoesT cfg 228 R [] H0 [] (L228b_0 d7 s0 p1) (loopAt cfg 228 0) H6)))\/(Inv [] H0 [] H->∃(y8:Unit) (Y:List Nat) (H9:LHeap),(opL cfg (fun (x:Operand)=>denF [] (evalS cfg (qT1_16 s0 d p1) x)) H (Oper.mk (some 9) (Op.next (Operand.tmp 8) true) 0 "token.go:43" (List.toArray []) none)=some [(.value (.tuple [.bool false]),H9)]/\(PresX Y H H9/\(∀i∈Y,okId [] H0 [] i)))/\(R0 H0 [] H9 R (I6 (s0.length:Int))))):
 GoesT cfg 228 R [] H0 [] (L228b_0 d s0 p1) (loopAt cfg 228 0) H:=seg_wt (k:=(.go 2 (.alt (.facts (.any (.cust (Int×Int) (fun (p:Int×Int)=>(.tuple [.bool true,.int .i64 p.1,.int .i32 p.2]:LV))) (.go 17 (.facts (.call .bool (.go 2 (.cases 16 (.go 6 (.facts .ret)) (.go 4 (.stop [1,0,8] 0))))))))) (.facts (.any (.cust Unit (fun (_:Unit)=>(.tuple [.bool false]:LV))) (.go 11 (.facts .ret))))))) (by kernel_rfl) h
theorem e228b(R:RR)(s:(List UInt8))(H:LHeap)
(h:Inv [] H [] H->∃p0 Y H1,(opL cfg (fun (x:Operand)=>denF [] (evalS cfg [.lv (.str s),.lv (.func (Fn.func 279) [] []),.lv (.tuple []),.lv (.tuple []),.lv (I6 0),.lv (.tuple []),.lv (.tuple []),.lv (.str s),.lv (.tuple []),.lv (.tuple []),.lv (.tuple []),.lv (.tuple []),.lv (.tuple []),.lv (.tuple []),.lv (.tuple []),.lv (.tuple []),.lv (.tuple []),.lv (.tuple []),.lv (.tuple []),.lv (.tuple [])] x)) H (Oper.mk (some 8) (Op.range 9 (Operand.tmp 7)) 0 "token.go:43" (List.toArray [Edge.mk 0 Go.Ground.data]) none)=some [(.value (.ptr p0),H1)]/\(PresX Y H H1/\(∀i∈Y,okId [] H [] i)))/\(∀d2,GoesT cfg 228 R [] H [] (L228b_0 d2 s p0) (loopAt cfg 228 0) H1)):
 CallL cfg 228 [.str s,.func (Fn.func 279) [] []] H R:=call_wt0 (k:=(.go 8 (.facts (.any .ptr (.go 3 (.stop [1,0,8] 0)))))) (by kernel_rfl) h
theorem e234t(R:RR)(s0:List UInt8)(H:LHeap)
(h:Inv [] H [] H->Kc 228 [.str s0,.func (Fn.func 279) [] []] H fun n2 H3=>R0 H [] H3 R (I6 n2)):
 CallL cfg 234 [.str s0] H R:=call_wt0 (k:=(.go 7 (.facts (.call (.int .i64) (.go 2 (.facts .ret)))))) (by kernel_rfl) h
theorem e147t(R:RR)(s0:List UInt8)(H:LHeap)
(h:NX H fun i1 H2=>Inv [] H [Sk i1 qT1_1 124] H2->Kc 228 [.str s0,.func (Fn.func 229) [] []] H2 fun n4 H5=>((0:Int)<=0/\(0<=n4/\n4<=(s0.length:Int)))/\(Inv [] H [Sk i1 qT1_1 124] H5->Kf 230 [.str (subStr s0 0 n4)] H5 fun n8 b9 H10=>Cd (!b9) (qT1_10 i1 H10 H R) (PX [i1] H10 fun H12=>R0 H [Sk i1 [I6 1,I6 n8,.str [],.str [],.str [],I6 0,I6 0,.bool false,.bool false] 124] H12 R (.tuple [.agg [I6 1,I6 n8,.str [],.str [],.str [],I6 0,I6 0,.bool false,.bool false],I6 n4])))):
 CallL cfg 147 [.str s0] H R:=call_wt0 (k:=(.go 2 (.boxP (.go 5 (.facts (.call (.int .i64) (.go 6 (.op .str (.facts (.call (.tuple [.int .i64,.bool]) (.go 12 (.cases 17 (.go 4 (.putP (.go 2 (.facts .ret)))) (.go 7 (.putP (.go 2 (.facts .ret)))))))))))))))) (by kernel_rfl) h
theorem e270t(R:RR)(s0:List UInt8)(s1:List UInt8)(H:LHeap)
(h:Dc ((s0.length:Int)>=(s1.length:Int)) (((0:Int)<=0/\(0<=(s1.length:Int)/\(s1.length:Int)<=(s0.length:Int)))/\(R0 H [] H R (.bool ((subStr s0 0 (s1.length:Int))==s1)))) (R0 H [] H R (.bool false))):
 CallL cfg 270 [.str s0,.str s1] H R:=call_wt0 (k:=(.go 12 (.cases 10 (.go 3 (.op .str (.go 5 (.facts .ret)))) (.go 9 (.facts .ret))))) (by kernel_rfl) h
theorem e232t(R:RR)(s0:List UInt8)(s1:List UInt8)(H:LHeap)
(h:Inv [] H [] H->Ka 270 [.str s0,.str s1] H fun b3 H4=>R0 H [] H4 R (.bool b3)):
 CallL cfg 232 [.str s0,.str s1] H R:=call_wt0 (k:=(.go 8 (.facts (.call .bool (.go 2 (.facts .ret)))))) (by kernel_rfl) h
theorem e212t(R:RR)(s0:List UInt8)(s1:List UInt8)(H:LHeap)
(h:Inv [] H [] H->Ka 270 [.str s0,.str s1] H fun b3 H4=>Cd (!b3) (R0 H [] H4 R (.tuple [.str s0,.bool false])) ((0<=(s1.length:Int)/\((s1.length:Int)<=(s0.length:Int)/\(s0.length:Int)<=(s0.length:Int)))/\(R0 H [] H4 R (.tuple [.str (subStr s0 (s1.length:Int) (s0.length:Int)),.bool true])))):
 CallL cfg 212 [.str s0,.str s1] H R:=call_wt0 (k:=(.go 10 (.facts (.call .bool (.go 2 (.cases 9 (.go 7 (.facts .ret)) (.go 7 (.op .str (.go 3 (.facts .ret)))))))))) (by kernel_rfl) h
theorem e130t(R:RR)(s0:List UInt8)(s1:List UInt8)(H:LHeap)
(h:Inv [] H [] H->Kj 212 [.str s0,.str s1] H fun s3 b4 H5=>R0 H [] H5 R (.tuple [.str s3,.bool b4])):
 CallL cfg 130 [.str s0,.str s1] H R:=call_wt0 (k:=(.go 9 (.facts (.call (.tuple [.str,.bool]) (.go 5 (.facts .ret)))))) (by kernel_rfl) h
theorem e309t(R:RR)(s:(List UInt8))(c:UInt8)(H:LHeap)
(h:Cd ([c]==s) (R0 H [] H R (I6 0)) (Inv [] H [] H->Kc 316 [.str s,.int .u8 (((UInt8.toNat c):Nat):Int)] H fun n1 H2=>R0 H [] H2 R (I6 n1))):
 CallL cfg 309 [.str s,.str [c]] H R:=call_wt0 (k:=(.go 23 (.cases 16 (.go 5 (.facts .ret)) (.go 13 (.facts (.call (.int .i64) (.go 2 (.facts .ret)))))))) (by kernel_rfl) h
theorem e316t(R:RR)(s0:List UInt8)(n1:Int)(H:LHeap)
(h:R0 H [] H R (I6 (findByte (UInt8.ofNat (Int.toNat n1)) s0 0))):
 CallL cfg 316 [.str s0,.int .u8 n1] H R:=call_wt0 (k:=(.go 11 (.facts .ret))) (by kernel_rfl) h
theorem e282t(R:RR)(s:(List UInt8))(c:UInt8)(H:LHeap)
(h:Inv [] H [] H->Kc 309 [.str s,.str [c]] H fun n1 H2=>R0 H [] H2 R (I6 n1)):
 CallL cfg 282 [.str s,.str [c]] H R:=call_wt0 (k:=(.go 8 (.facts (.call (.int .i64) (.go 2 (.facts .ret)))))) (by kernel_rfl) h
theorem e237t(R:RR)(s:(List UInt8))(c:UInt8)(H:LHeap)
(h:Inv [] H [] H->Kc 282 [.str s,.str [c]] H fun n1 H2=>R0 H [] H2 R (.bool (decide (n1>=0)))):
 CallL cfg 237 [.str s,.str [c]] H R:=call_wt0 (k:=(.go 8 (.facts (.call (.int .i64) (.go 3 (.facts .ret)))))) (by kernel_rfl) h
theorem e278t(R:RR)(s:(List UInt8))(c:UInt8)(H:LHeap)
(h:Inv [] H [] H->Kc 309 [.str s,.str [c]] H fun n1 H2=>Dc (n1>=0) (((0:Int)<=0/\(0<=n1/\n1<=(s.length:Int)))/\((0<=(lwrap .i64 (n1+1))/\((lwrap .i64 (n1+1))<=(s.length:Int)/\(s.length:Int)<=(s.length:Int)))/\(([I6 ((1:Nat):Int)]:List LV)=[I6 1]/\(R0 H [] H2 R (.tuple [.str (subStr s 0 n1),.str (subStr s (lwrap .i64 (n1+1)) (s.length:Int)),.bool true]))))) (R0 H [] H2 R (.tuple [.str s,.str [],.bool false]))):
 CallL cfg 278 [.str s,.str [c]] H R:=call_wt0 (k:=(.go 11 (.facts (.call (.int .i64) (.go 7 (.cases 12 (.go 5 (.op .str (.go 5 (.op .str (.go 3 (.check (.go 1 (.facts .ret)))))))) (.go 9 (.facts .ret)))))))) (by kernel_rfl) h
theorem e231t(R:RR)(s:(List UInt8))(c:UInt8)(H:LHeap)
(h:Inv [] H [] H->Ki 278 [.str s,.str [c]] H fun s1 s2 b3 H4=>R0 H [] H4 R (.tuple [.str s1,.str s2,.bool b3])):
 CallL cfg 231 [.str s,.str [c]] H R:=call_wt0 (k:=(.go 10 (.facts (.call (.tuple [.str,.str,.bool]) (.go 7 (.facts .ret)))))) (by kernel_rfl) h
theorem g276t_0(R:RR)(H0:LHeap)(d:Nat->LV)(n0:Int)(s1:List UInt8)(n2:Int)(n3:Int)(p4:Option LAddr)(H:LHeap)
(h:(Inv [] H0 [] H->∃y5 Y H6,(opL cfg (fun (x:Operand)=>denF [] (evalS cfg (qT1_9 s1 n2 n3 d n0 p4) x)) H (Oper.mk (some 13) (Op.next (Operand.tmp 12) true) 0 "num.go:35" (List.toArray []) none)=some [(.value (.tuple (qT1_22 y5)),H6)]/\(PresX Y H H6/\(∀i∈Y,okId [] H0 [] i)))/\(Dc ((Prod.snd y5)<48) (R0 H0 [] H6 R (.tuple [I6 0,.bool false])) (Dc ((Prod.snd y5)>57) (R0 H0 [] H6 R (.tuple [I6 0,.bool false])) (Dc ((lwrap .i64 ((lwrap .i64 (10*n0))+(lwrap .i64 (lwrap .i32 ((Prod.snd y5)-48)))))>1125899906842624) (∀d7,GoesT cfg 276 R [] H0 [] (L276t_0 d7 1125899906842624 s1 n2 n3 p4) (loopAt cfg 276 0) H6) (∀d8,GoesT cfg 276 R [] H0 [] (L276t_0 d8 (lwrap .i64 ((lwrap .i64 (10*n0))+(lwrap .i64 (lwrap .i32 ((Prod.snd y5)-48))))) s1 n2 n3 p4) (loopAt cfg 276 0) H6)))))\/(Inv [] H0 [] H->∃(y9:Unit) (Y:List Nat) (H10:LHeap),(opL cfg (fun (x:Operand)=>denF [] (evalS cfg (qT1_9 s1 n2 n3 d n0 p4) x)) H (Oper.mk (some 13) (Op.next (Operand.tmp 12) true) 0 "num.go:35" (List.toArray []) none)=some [(.value (.tuple [.bool false]),H10)]/\(PresX Y H H10/\(∀i∈Y,okId [] H0 [] i)))/\(Dc ((s1.length:Int)>=n2) (R0 H0 [] H10 R (.tuple [I6 n0,.bool (decide ((s1.length:Int)<=n3))])) (R0 H0 [] H10 R (.tuple [I6 n0,.bool false]))))):
 GoesT cfg 276 R [] H0 [] (L276t_0 d n0 s1 n2 n3 p4) (loopAt cfg 276 0) H:=seg_wt (k:=(.go 2 (.alt (.facts (.any (.cust (Int×Int) (fun (p:Int×Int)=>(.tuple [.bool true,.int .i64 p.1,.int .i32 p.2]:LV))) (.go 17 (.cases 18 (.go 10 (.facts .ret)) (.go 4 (.cases 21 (.go 6 (.facts .ret)) (.go 17 (.cases 29 (.go 6 (.stop [8,0,1,2,12] 0)) (.go 4 (.stop [8,0,1,2,12] 0)))))))))) (.facts (.any (.cust Unit (fun (_:Unit)=>(.tuple [.bool false]:LV))) (.go 13 (.cases 35 (.go 8 (.facts .ret)) (.go 8 (.facts .ret))))))))) (by kernel_rfl) h
theorem e276t(R:RR)(s0:List UInt8)(n1:Int)(n2:Int)(H:LHeap)
(h:Inv [] H [] H->∃p3 Y H4,(opL cfg (fun (x:Operand)=>denF [] (evalS cfg [.lv (.str s0),.lv (I6 n1),.lv (I6 n2),.lv (.tuple []),.lv (.tuple []),.lv (.tuple []),.lv (I6 0),.lv (.bool false),.lv (I6 0),.lv (.tuple []),.lv (.tuple []),.lv (.str s0),.lv (.tuple []),.lv (.tuple []),.lv (.tuple []),.lv (.tuple []),.lv (.tuple []),.lv (.tuple []),.lv (.tuple []),.lv (.tuple []),.lv (.tuple []),.lv (.tuple []),.lv (.tuple []),.lv (.tuple []),.lv (.tuple []),.lv (.tuple []),.lv (.tuple []),.lv (.tuple []),.lv (.tuple []),.lv (.tuple []),.lv (.tuple []),.lv (.tuple []),.lv (.tuple []),.lv (.tuple []),.lv (.tuple []),.lv (.tuple []),.lv (.tuple []),.lv (.tuple []),.lv (.tuple []),.lv (.tuple []),.lv (.tuple [])] x)) H (Oper.mk (some 12) (Op.range 9 (Operand.tmp 11)) 0 "num.go:35" (List.toArray [Edge.mk 0 Go.Ground.data]) none)=some [(.value (.ptr p3),H4)]/\(PresX Y H H4/\(∀i∈Y,okId [] H [] i)))/\(∀d5,GoesT cfg 276 R [] H [] (L276t_0 d5 0 s0 n1 n2 p3) (loopAt cfg 276 0) H4)):
 CallL cfg 276 [.str s0,I6 n1,I6 n2] H R:=call_wt0 (k:=(.go 13 (.facts (.any .ptr (.go 3 (.stop [8,0,1,2,12] 0)))))) (by kernel_rfl) h
theorem e277t(R:RR)(n0:Int)(H:LHeap)
(h:Inv [] H [] H->Ka 294 [I6 n0] H fun b2 H3=>Cd (!b2) (R0 H [] H3 R (.tuple [I6 0,.bool false])) (R0 H [] H3 R (.tuple [I6 n0,.bool true]))):
 CallL cfg 277 [I6 n0] H R:=call_wt0 (k:=(.go 9 (.facts (.call .bool (.go 2 (.cases 6 (.go 6 (.facts .ret)) (.go 8 (.facts .ret)))))))) (by kernel_rfl) h
theorem g230t_0(R:RR)(H0:LHeap)(d:Nat->LV)(n0:Int)(n1:Int)(b2:Bool)(n3:Int)(n4:Int)(H:LHeap)
(h:Dc (n0<n4) (∀d5,GoesT cfg 230 R [] H0 [] (L230t_0 d5 (lwrap .i64 (n0+1)) (lwrap .i64 (n1*10)) b2 n3 n4) (loopAt cfg 230 0) H) (Cd b2 (Inv [] H0 [] H->Kf 277 [I6 (lwrap .i64 (0-(lwrap .i64 ((lwrap .i64 (n3*10000))+n1))))] H fun n7 b8 H9=>R0 H0 [] H9 R (.tuple [I6 n7,.bool b8])) (Inv [] H0 [] H->Kf 277 [I6 (lwrap .i64 ((lwrap .i64 (n3*10000))+n1))] H fun n11 b12 H13=>R0 H0 [] H13 R (.tuple [I6 n11,.bool b12])))):
 GoesT cfg 230 R [] H0 [] (L230t_0 d n0 n1 b2 n3 n4) (loopAt cfg 230 0) H:=seg_wt (k:=(.go 5 (.cases 46 (.go 15 (.stop [45,10,4,8,44] 0)) (.go 15 (.cases 54 (.go 9 (.facts (.call (.tuple [.int .i64,.bool]) (.go 5 (.facts .ret))))) (.go 5 (.facts (.call (.tuple [.int .i64,.bool]) (.go 5 (.facts .ret)))))))))) (by kernel_rfl) h
theorem e230t(R:RR)(s0:List UInt8)(H:LHeap)
(h:Inv [] H [] H->Kj 130 [.str s0,.str [45]] H fun s2 b3 H4=>Inv [] H [] H4->Ki 231 [.str s2,.str [46]] H4 fun s6 s7 b8 H9=>Inv [] H [] H9->Kf 276 [.str s6,I6 1,I6 12] H9 fun n11 b12 H13=>Inv [] H [] H13->Kf 276 [.str s7,I6 1,I6 4] H13 fun n15 b16 H17=>Cd (!b12) (R0 H [] H17 R (.tuple [I6 0,.bool false])) (Cd b8 (Cd (!b16) (R0 H [] H17 R (.tuple [I6 0,.bool false])) (∀d18,GoesT cfg 230 R [] H [] (L230t_0 d18 0 n15 b3 n11 (lwrap .i64 (4-(s7.length:Int)))) (loopAt cfg 230 0) H17)) (∀d19,GoesT cfg 230 R [] H [] (L230t_0 d19 0 n15 b3 n11 (lwrap .i64 (4-(s7.length:Int)))) (loopAt cfg 230 0) H17))):
 CallL cfg 230 [.str s0] H R:=call_wt0 (k:=(.go 8 (.facts (.call (.tuple [.str,.bool]) (.go 9 (.facts (.call (.tuple [.str,.str,.bool]) (.go 11 (.facts (.call (.tuple [.int .i64,.bool]) (.go 9 (.facts (.call (.tuple [.int .i64,.bool]) (.go 12 (.cases 35 (.go 13 (.facts .ret)) (.go 2 (.cases 37 (.go 5 (.cases 41 (.go 6 (.facts .ret)) (.go 12 (.stop [45,10,4,8,44] 0)))) (.go 17 (.stop [45,10,4,8,44] 0))))))))))))))))))) (by kernel_rfl) h
theorem e280t(R:RR)(s0:List UInt8)(H:LHeap)
(h:Inv [] H [] H->Kj 130 [.str s0,.str [36]] H fun s2 b3 H4=>R0 H [] H4 R (.tuple [.str s2,.bool b3])):
 CallL cfg 280 [.str s0] H R:=call_wt0 (k:=(.go 8 (.facts (.call (.tuple [.str,.bool]) (.go 5 (.facts .ret)))))) (by kernel_rfl) h
theorem g236t_0(R:RR)(H0:LHeap)(d:Nat->LV)(n0:Int)(n1:Int)(s2:List UInt8)(n3:Int)(b4:Bool)(b5:Bool)(n6:Int)(i7:Nat)(x8:RefC)(H:LHeap)
(h:Dc (n0<n6) ((0<=n0/\n0<(s2.length:Int))/\(Inv [] H0 [Sk i7 (RefC.cs x8) 69] H->Ka 174 [.int .u8 (byteAt s2 n0)] H fun b11 H12=>Cd (!b11) (qT1_6 i7 H12 H0 R) (Dc (n0>1) (qT1_6 i7 H12 H0 R) (((0:Int)<=0/\0<(s2.length:Int))/\(Cd ((byteAt s2 0)==48) (qT1_6 i7 H12 H0 R) ((0<=n0/\n0<(s2.length:Int))/\(∀d18,GoesT cfg 236 R [] H0 [Sk i7 (RefC.cs x8) 69] (L236t_0 d18 (lwrap .i64 (n0+1)) (lwrap .i64 ((lwrap .i64 (10*n1))+(lwrap .i64 (lwrap .u8 ((byteAt s2 n0)-48))))) s2 n3 b4 b5 n6) (loopAt cfg 236 0) H12))))))) (NX H fun i19 H20=>PX [i19] H20 fun H21=>Inv [] H0 [Sk i7 (RefC.cs x8) 69,Sk i19 (qT1_20 n1 n3 b4 b5) 69] H21->Ka 281 [I6 n1,I6 n3] H21 fun b23 H24=>Cd (!b23) (PX [i7] H24 fun H25=>R0 H0 [Sk i7 qT1_2 69,Sk i19 (qT1_20 n1 n3 b4 b5) 69] H25 R (.tuple [.agg qT1_2,.bool false])) (PX [i7] H24 fun H26=>R0 H0 [Sk i7 (qT1_20 n1 n3 b4 b5) 69,Sk i19 (qT1_20 n1 n3 b4 b5) 69] H26 R (.tuple [.agg (qT1_20 n1 n3 b4 b5),.bool true])))):
 GoesT cfg 236 R [] H0 [Sk i7 (RefC.cs x8) 69] (L236t_0 d n0 n1 s2 n3 b4 b5 n6) (loopAt cfg 236 0) H:=seg_wt (k:=(.go 5 (.cases 39 (.go 14 (.op (.int .u8) (.facts (.call .bool (.go 2 (.cases 46 (.go 13 (.putP (.go 2 (.facts .ret)))) (.go 4 (.cases 50 (.go 9 (.putP (.go 2 (.facts .ret)))) (.go 1 (.op (.int .u8) (.go 3 (.cases 54 (.go 4 (.putP (.go 2 (.facts .ret)))) (.go 7 (.op (.int .u8) (.go 11 (.stop [2,38,7,0,5,6,4,37] 1)))))))))))))))) (.go 9 (.boxP (.putP (.go 6 (.facts (.call .bool (.go 2 (.cases 73 (.go 4 (.putP (.go 2 (.facts .ret)))) (.go 5 (.putP (.go 2 (.facts .ret))))))))))))))) (by kernel_rfl) h
theorem e236t(R:RR)(s0:List UInt8)(H:LHeap)
(h:NX H fun i1 H2=>Inv [] H [Sk i1 qT1_2 69] H2->Kj 280 [.str s0] H2 fun s4 b5 H6=>Cd (s4==[]) (qT1_6 i1 H6 H R) (((0:Int)<=0/\0<(s4.length:Int))/\(Inv [] H [Sk i1 qT1_2 69] H6->Ka 173 [.int .u8 (byteAt s4 0)] H6 fun b10 H11=>Cd (!b10) (qT1_6 i1 H11 H R) (((0:Int)<=0/\0<(s4.length:Int))/\(((0:Int)<=1/\(1<=(s4.length:Int)/\(s4.length:Int)<=(s4.length:Int)))/\(Inv [] H [Sk i1 qT1_2 69] H11->Kj 280 [.str (subStr s4 1 (s4.length:Int))] H11 fun s16 b17 H18=>∀d19,GoesT cfg 236 R [] H [Sk i1 qT1_2 69] (L236t_0 d19 0 0 s16 (lwrap .i64 ((lwrap .i64 (lwrap .u8 ((IntKind.wrap .u8 (((BitVec.toNat (HOr.hOr (BitVec.ofInt 8 (byteAt s4 0)) (BitVec.ofInt 8 32))):Nat):Int))-97)))+1)) b17 b5 (s16.length:Int)) (loopAt cfg 236 0) H18)))))):
 CallL cfg 236 [.str s0] H R:=call_wt0 (k:=(.go 2 (.boxP (.go 5 (.facts (.call (.tuple [.str,.bool]) (.go 12 (.cases 17 (.go 10 (.putP (.go 2 (.facts .ret)))) (.go 1 (.op (.int .u8) (.facts (.call .bool (.go 3 (.cases 22 (.go 4 (.putP (.go 2 (.facts .ret)))) (.go 5 (.op (.int .u8) (.go 9 (.op .str (.facts (.call (.tuple [.str,.bool]) (.go 19 (.stop [2,38,7,0,5,6,4,37] 1)))))))))))))))))))))) (by kernel_rfl) h
theorem e235t(R:RR)(s0:List UInt8)(H:LHeap)
(h:NX H fun i1 H2=>Inv [] H [Sk i1 qT1_2 69] H2->Kj 130 [.str s0,.str [91]] H2 fun s4 b5 H6=>Cd b5 (Inv [] H [Sk i1 qT1_2 69] H6->Ki 231 [.str s4,.str [93]] H6 fun s8 s9 b10 H11=>Cd (!b10) (qT1_6 i1 H11 H R) (Inv [] H [Sk i1 qT1_2 69] H11->Ka 90 [.str s8] H11 fun b14 H15=>Cd (!b14) (qT1_6 i1 H15 H R) (Inv [] H [Sk i1 qT1_2 69] H15->Ka 237 [.str s9,.str [33]] H15 fun b18 H19=>Cd (!b18) (qT1_6 i1 H19 H R) (Inv [] H [Sk i1 qT1_2 69] H19->Ki 231 [.str s9,.str [33]] H19 fun s22 s23 b24 H25=>Cd b24 (Inv [] H [Sk i1 qT1_2 69] H25->Ka 90 [.str s22] H25 fun b27 H28=>Cd (!b27) (qT1_6 i1 H28 H R) (Inv [] H [Sk i1 qT1_2 69] H28->Kd 236 [.str s23] H28 fun x31 b32 H33=>NX H33 fun i34 H35=>PX [i34] H35 fun H36=>Cd (!b32) (qT1_14 i1 H36 H i34 x31 R) (PX [i34] H36 fun H38=>PX [i34] H38 fun H39=>PX [i1] H39 fun H40=>R0 H [Sk i1 (qT1_21 s8 s22 x31) 69,Sk i34 (qT1_21 s8 s22 x31) 69] H40 R (.tuple [.agg (qT1_21 s8 s22 x31),.bool true])))) (Inv [] H [Sk i1 qT1_2 69] H25->Kd 236 [.str s9] H25 fun x42 b43 H44=>NX H44 fun i45 H46=>PX [i45] H46 fun H47=>Cd (!b43) (qT1_14 i1 H47 H i45 x42 R) (PX [i45] H47 fun H49=>PX [i45] H49 fun H50=>PX [i1] H50 fun H51=>R0 H [Sk i1 (qT1_18 s8 x42) 69,Sk i45 (qT1_18 s8 x42) 69] H51 R (.tuple [.agg (qT1_18 s8 x42),.bool true]))))))) (Inv [] H [Sk i1 qT1_2 69] H6->Ki 231 [.str s0,.str [33]] H6 fun s53 s54 b55 H56=>Cd b55 (Inv [] H [Sk i1 qT1_2 69] H56->Ka 90 [.str s53] H56 fun b58 H59=>Cd (!b58) (qT1_6 i1 H59 H R) (Inv [] H [Sk i1 qT1_2 69] H59->Kd 236 [.str s54] H59 fun x62 b63 H64=>NX H64 fun i65 H66=>PX [i65] H66 fun H67=>Cd (!b63) (qT1_14 i1 H67 H i65 x62 R) (PX [i65] H67 fun H69=>PX [i65] H69 fun H70=>PX [i1] H70 fun H71=>R0 H [Sk i1 (qT1_19 s53 x62) 69,Sk i65 (qT1_19 s53 x62) 69] H71 R (.tuple [.agg (qT1_19 s53 x62),.bool true])))) (Inv [] H [Sk i1 qT1_2 69] H56->Kd 236 [.str s0] H56 fun x73 b74 H75=>NX H75 fun i76 H77=>PX [i76] H77 fun H78=>Cd (!b74) (qT1_14 i1 H78 H i76 x73 R) (PX [i76] H78 fun H80=>PX [i76] H80 fun H81=>PX [i1] H81 fun H82=>R0 H [Sk i1 (qT1_17 x73) 69,Sk i76 (qT1_17 x73) 69] H82 R (.tuple [.agg (qT1_17 x73),.bool true]))))):
 CallL cfg 235 [.str s0] H R:=call_wt0 (k:=(.go 2 (.boxP (.go 11 (.facts (.call (.tuple [.str,.bool]) (.go 10 (.cases 21 (.go 4 (.facts (.call (.tuple [.str,.str,.bool]) (.go 14 (.cases 30 (.go 14 (.putP (.go 2 (.facts .ret)))) (.go 1 (.facts (.call .bool (.go 3 (.cases 35 (.go 9 (.putP (.go 2 (.facts .ret)))) (.go 1 (.facts (.call .bool (.go 3 (.cases 39 (.go 4 (.putP (.go 2 (.facts .ret)))) (.go 12 (.facts (.call (.tuple [.str,.str,.bool]) (.go 12 (.cases 49 (.go 5 (.facts (.call .bool (.go 2 (.cases 52 (.go 4 (.putP (.go 2 (.facts .ret)))) (.go 11 (.facts (.call (.tuple [.cust RefC RefC.lv,.bool]) (.go 3 (.boxP (.putP (.go 8 (.cases 62 (.go 4 (.putP (.go 2 (.facts .ret)))) (.go 7 (.putP (.go 1 (.putP (.go 4 (.putP (.go 2 (.facts .ret))))))))))))))))))))) (.go 5 (.facts (.call (.tuple [.cust RefC RefC.lv,.bool]) (.go 3 (.boxP (.putP (.go 8 (.cases 62 (.go 4 (.putP (.go 2 (.facts .ret)))) (.go 7 (.putP (.go 1 (.putP (.go 4 (.putP (.go 2 (.facts .ret)))))))))))))))))))))))))))))))))))) (.go 6 (.facts (.call (.tuple [.str,.str,.bool]) (.go 12 (.cases 49 (.go 5 (.facts (.call .bool (.go 2 (.cases 52 (.go 4 (.putP (.go 2 (.facts .ret)))) (.go 11 (.facts (.call (.tuple [.cust RefC RefC.lv,.bool]) (.go 3 (.boxP (.putP (.go 8 (.cases 62 (.go 4 (.putP (.go 2 (.facts .ret)))) (.go 7 (.putP (.go 1 (.putP (.go 4 (.putP (.go 2 (.facts .ret))))))))))))))))))))) (.go 5 (.facts (.call (.tuple [.cust RefC RefC.lv,.bool]) (.go 3 (.boxP (.putP (.go 8 (.cases 62 (.go 4 (.putP (.go 2 (.facts .ret)))) (.go 7 (.putP (.go 1 (.putP (.go 4 (.putP (.go 2 (.facts .ret))))))))))))))))))))))))))))) (by kernel_rfl) h
theorem e151t(R:RR)(s0:List UInt8)(H:LHeap)
(h:NX H fun i1 H2=>((0:Int)<=0/\0<(s0.length:Int))/\(Cd ((byteAt s0 0)==91) (((0:Int)<=1/\(1<=(s0.length:Int)/\(s0.length:Int)<=(s0.length:Int)))/\(Inv [] H [Sk i1 qT1_1 124] H2->Ki 231 [.str (subStr s0 1 (s0.length:Int)),.str [93]] H2 fun s6 s7 b8 H9=>Cd (!b8) (qT1_10 i1 H9 H R) (Inv [] H [Sk i1 qT1_1 124] H9->Ka 90 [.str s6] H9 fun b12 H13=>Cd (!b12) (qT1_10 i1 H13 H R) ((0<=(lwrap .i64 ((s6.length:Int)+2))/\((lwrap .i64 ((s6.length:Int)+2))<=(s0.length:Int)/\(s0.length:Int)<=(s0.length:Int)))/\(Inv [] H [Sk i1 qT1_1 124] H13->Kc 234 [.str (subStr s0 (lwrap .i64 ((s6.length:Int)+2)) (s0.length:Int))] H13 fun n17 H18=>(0<=(lwrap .i64 ((lwrap .i64 ((s6.length:Int)+2))+n17))/\((lwrap .i64 ((lwrap .i64 ((s6.length:Int)+2))+n17))<=(s0.length:Int)/\(s0.length:Int)<=(s0.length:Int)))/\(Inv [] H [Sk i1 qT1_1 124] H18->Ka 232 [.str (subStr s0 (lwrap .i64 ((lwrap .i64 ((s6.length:Int)+2))+n17)) (s0.length:Int)),.str [33]] H18 fun b21 H22=>Cd b21 ((0<=(lwrap .i64 ((lwrap .i64 ((lwrap .i64 ((s6.length:Int)+2))+n17))+1))/\((lwrap .i64 ((lwrap .i64 ((lwrap .i64 ((s6.length:Int)+2))+n17))+1))<=(s0.length:Int)/\(s0.length:Int)<=(s0.length:Int)))/\(Inv [] H [Sk i1 qT1_1 124] H22->Kc 234 [.str (subStr s0 (lwrap .i64 ((lwrap .i64 ((lwrap .i64 ((s6.length:Int)+2))+n17))+1)) (s0.length:Int))] H22 fun n25 H26=>((0:Int)<=0/\(0<=(lwrap .i64 ((lwrap .i64 ((lwrap .i64 ((s6.length:Int)+2))+n17))+(lwrap .i64 (1+n25))))/\(lwrap .i64 ((lwrap .i64 ((lwrap .i64 ((s6.length:Int)+2))+n17))+(lwrap .i64 (1+n25))))<=(s0.length:Int)))/\(Inv [] H [Sk i1 qT1_1 124] H26->Kd 235 [.str (subStr s0 0 (lwrap .i64 ((lwrap .i64 ((lwrap .i64 ((s6.length:Int)+2))+n17))+(lwrap .i64 (1+n25)))))] H26 fun x29 b30 H31=>NX H31 fun i32 H33=>PX [i32] H33 fun H34=>Cd (!b30) (qT1_13 i1 H34 H i32 x29 R) (PX [i1] H34 fun H36=>R0 H [Sk i1 (qT1_5 x29) 124,Sk i32 (RefC.cs x29) 69] H36 R (.tuple [.agg (qT1_5 x29),I6 (lwrap .i64 ((lwrap .i64 ((lwrap .i64 ((s6.length:Int)+2))+n17))+(lwrap .i64 (1+n25))))]))))) ((0<=(lwrap .i64 ((s6.length:Int)+2))/\((lwrap .i64 ((s6.length:Int)+2))<=(lwrap .i64 ((lwrap .i64 ((s6.length:Int)+2))+n17))/\(lwrap .i64 ((lwrap .i64 ((s6.length:Int)+2))+n17))<=(s0.length:Int)))/\(Cd (s6==[]) (Inv [] H [Sk i1 qT1_1 124] H22->Kd 236 (qT1_11 s0 s6 n17) H22 fun x39 b40 H41=>NX H41 fun i42 H43=>PX [i42] H43 fun H44=>Cd b40 (PX [i1] H44 fun H45=>R0 H [Sk i1 (qT1_5 x39) 124,Sk i42 (RefC.cs x39) 69] H45 R (.tuple [.agg (qT1_5 x39),I6 (lwrap .i64 ((lwrap .i64 ((s6.length:Int)+2))+n17))])) (Inv [] H [Sk i1 qT1_1 124,Sk i42 (RefC.cs x39) 69] H44->Kb 175 (qT1_11 s0 s6 n17) H44 fun s47 H48=>Inv [] H [Sk i1 qT1_1 124,Sk i42 (RefC.cs x39) 69] H48->Ka 90 (qT1_11 s0 s6 n17) H48 fun b50 H51=>Cd (!b50) (Cd (!(s6==[])) (qT1_13 i1 H51 H i42 x39 R) (Cd (!(s47==[84,82,85,69])) (Cd (!(s47==[70,65,76,83,69])) (qT1_13 i1 H51 H i42 x39 R) (PX [i1] H51 fun H54=>R0 H [Sk i1 (qT1_3 s0 s6 n17) 124,Sk i42 (RefC.cs x39) 69] H54 R (.tuple (qT1_12 s0 s6 n17)))) (PX [i1] H51 fun H55=>R0 H [Sk i1 (qT1_3 s0 s6 n17) 124,Sk i42 (RefC.cs x39) 69] H55 R (.tuple (qT1_12 s0 s6 n17))))) (PX [i1] H51 fun H56=>R0 H [Sk i1 (qT1_3 s0 s6 n17) 124,Sk i42 (RefC.cs x39) 69] H56 R (.tuple (qT1_12 s0 s6 n17))))) (Inv [] H [Sk i1 qT1_1 124] H22->Kb 175 (qT1_11 s0 s6 n17) H22 fun s58 H59=>Inv [] H [Sk i1 qT1_1 124] H59->Ka 90 (qT1_11 s0 s6 n17) H59 fun b61 H62=>Cd (!b61) (Cd (!(s6==[])) (qT1_10 i1 H62 H R) (Cd (!(s58==[84,82,85,69])) (Cd (!(s58==[70,65,76,83,69])) (qT1_10 i1 H62 H R) (PX [i1] H62 fun H65=>R0 H [Sk i1 (qT1_3 s0 s6 n17) 124] H65 R (.tuple (qT1_12 s0 s6 n17)))) (PX [i1] H62 fun H66=>R0 H [Sk i1 (qT1_3 s0 s6 n17) 124] H66 R (.tuple (qT1_12 s0 s6 n17))))) (PX [i1] H62 fun H67=>R0 H [Sk i1 (qT1_3 s0 s6 n17) 124] H67 R (.tuple (qT1_12 s0 s6 n17)))))))))))) (((0:Int)<=0/\(0<=(s0.length:Int)/\(s0.length:Int)<=(s0.length:Int)))/\(Inv [] H [Sk i1 qT1_1 124] H2->Kc 234 [.str (subStr s0 0 (s0.length:Int))] H2 fun n70 H71=>(0<=(lwrap .i64 (0+n70))/\((lwrap .i64 (0+n70))<=(s0.length:Int)/\(s0.length:Int)<=(s0.length:Int)))/\(Inv [] H [Sk i1 qT1_1 124] H71->Ka 232 [.str (subStr s0 (lwrap .i64 (0+n70)) (s0.length:Int)),.str [33]] H71 fun b74 H75=>Cd b74 ((0<=(lwrap .i64 ((lwrap .i64 (0+n70))+1))/\((lwrap .i64 ((lwrap .i64 (0+n70))+1))<=(s0.length:Int)/\(s0.length:Int)<=(s0.length:Int)))/\(Inv [] H [Sk i1 qT1_1 124] H75->Kc 234 [.str (subStr s0 (lwrap .i64 ((lwrap .i64 (0+n70))+1)) (s0.length:Int))] H75 fun n78 H79=>((0:Int)<=0/\(0<=(lwrap .i64 ((lwrap .i64 (0+n70))+(lwrap .i64 (1+n78))))/\(lwrap .i64 ((lwrap .i64 (0+n70))+(lwrap .i64 (1+n78))))<=(s0.length:Int)))/\(Inv [] H [Sk i1 qT1_1 124] H79->Kd 235 [.str (subStr s0 0 (lwrap .i64 ((lwrap .i64 (0+n70))+(lwrap .i64 (1+n78)))))] H79 fun x82 b83 H84=>NX H84 fun i85 H86=>PX [i85] H86 fun H87=>Cd (!b83) (qT1_13 i1 H87 H i85 x82 R) (PX [i1] H87 fun H89=>R0 H [Sk i1 (qT1_5 x82) 124,Sk i85 (RefC.cs x82) 69] H89 R (.tuple [.agg (qT1_5 x82),I6 (lwrap .i64 ((lwrap .i64 (0+n70))+(lwrap .i64 (1+n78))))]))))) (((0:Int)<=0/\(0<=(lwrap .i64 (0+n70))/\(lwrap .i64 (0+n70))<=(s0.length:Int)))/\(Inv [] H [Sk i1 qT1_1 124] H75->Kd 236 [.str (subStr s0 0 (lwrap .i64 (0+n70)))] H75 fun x92 b93 H94=>NX H94 fun i95 H96=>PX [i95] H96 fun H97=>Cd b93 (PX [i1] H97 fun H98=>R0 H [Sk i1 (qT1_5 x92) 124,Sk i95 (RefC.cs x92) 69] H98 R (.tuple [.agg (qT1_5 x92),I6 (lwrap .i64 (0+n70))])) (Inv [] H [Sk i1 qT1_1 124,Sk i95 (RefC.cs x92) 69] H97->Kb 175 [.str (subStr s0 0 (lwrap .i64 (0+n70)))] H97 fun s100 H101=>Inv [] H [Sk i1 qT1_1 124,Sk i95 (RefC.cs x92) 69] H101->Ka 90 [.str (subStr s0 0 (lwrap .i64 (0+n70)))] H101 fun b103 H104=>Cd (!b103) (Cd (!(s100==[84,82,85,69])) (Cd (!(s100==[70,65,76,83,69])) (qT1_13 i1 H104 H i95 x92 R) (qT1_8 i1 H104 H s0 n70 i95 x92 R)) (qT1_8 i1 H104 H s0 n70 i95 x92 R)) (qT1_8 i1 H104 H s0 n70 i95 x92 R))))))))):
 CallL cfg 151 [.str s0] H R:=call_wt0 (k:=(.go 2 (.boxP (.go 11 (.op (.int .u8) (.go 2 (.cases 18 (.go 4 (.op .str (.facts (.call (.tuple [.str,.str,.bool]) (.go 14 (.cases 28 (.go 9 (.putP (.go 2 (.facts .ret)))) (.go 1 (.facts (.call .bool (.go 3 (.cases 32 (.go 4 (.putP (.go 2 (.facts .ret)))) (.go 15 (.op .str (.facts (.call (.int .i64) (.go 8 (.op .str (.facts (.call .bool (.go 1 (.cases 47 (.go 7 (.op .str (.facts (.call (.int .i64) (.go 8 (.op .str (.facts (.call (.tuple [.cust RefC RefC.lv,.bool]) (.go 3 (.boxP (.putP (.go 8 (.cases 64 (.go 4 (.putP (.go 2 (.facts .ret)))) (.go 7 (.putP (.go 2 (.facts .ret))))))))))))))))) (.go 7 (.op .str (.go 8 (.cases 74 (.go 4 (.facts (.call (.tuple [.cust RefC RefC.lv,.bool]) (.go 3 (.boxP (.putP (.go 6 (.cases 80 (.go 6 (.putP (.go 2 (.facts .ret)))) (.go 5 (.facts (.call .str (.go 6 (.facts (.call .bool (.go 2 (.cases 89 (.go 3 (.cases 92 (.go 13 (.putP (.go 2 (.facts .ret)))) (.go 3 (.cases 95 (.go 6 (.cases 100 (.go 4 (.putP (.go 2 (.facts .ret)))) (.go 9 (.putP (.go 2 (.facts .ret)))))) (.go 15 (.putP (.go 2 (.facts .ret)))))))) (.go 21 (.putP (.go 2 (.facts .ret)))))))))))))))))))) (.go 5 (.facts (.call .str (.go 6 (.facts (.call .bool (.go 2 (.cases 89 (.go 3 (.cases 92 (.go 13 (.putP (.go 2 (.facts .ret)))) (.go 3 (.cases 95 (.go 6 (.cases 100 (.go 4 (.putP (.go 2 (.facts .ret)))) (.go 9 (.putP (.go 2 (.facts .ret)))))) (.go 15 (.putP (.go 2 (.facts .ret)))))))) (.go 21 (.putP (.go 2 (.facts .ret))))))))))))))))))))))))))))))))))))) (.go 7 (.op .str (.facts (.call (.int .i64) (.go 8 (.op .str (.facts (.call .bool (.go 1 (.cases 47 (.go 7 (.op .str (.facts (.call (.int .i64) (.go 8 (.op .str (.facts (.call (.tuple [.cust RefC RefC.lv,.bool]) (.go 3 (.boxP (.putP (.go 8 (.cases 64 (.go 4 (.putP (.go 2 (.facts .ret)))) (.go 7 (.putP (.go 2 (.facts .ret))))))))))))))))) (.go 7 (.op .str (.go 12 (.facts (.call (.tuple [.cust RefC RefC.lv,.bool]) (.go 3 (.boxP (.putP (.go 6 (.cases 80 (.go 6 (.putP (.go 2 (.facts .ret)))) (.go 5 (.facts (.call .str (.go 6 (.facts (.call .bool (.go 2 (.cases 89 (.go 6 (.cases 95 (.go 6 (.cases 100 (.go 4 (.putP (.go 2 (.facts .ret)))) (.go 9 (.putP (.go 2 (.facts .ret)))))) (.go 15 (.putP (.go 2 (.facts .ret)))))) (.go 21 (.putP (.go 2 (.facts .ret))))))))))))))))))))))))))))))))))))))) (by kernel_rfl) h
theorem e152t(R:RR)(s0:List UInt8)(H:LHeap)
(h:NX H fun i1 H2=>Dc ((s0.length:Int)>1) (((0:Int)<=0/\((0:Int)<=2/\2<=(s0.length:Int)))/\(Cd ((subStr s0 0 2)==[60,62]) (qT1_4 s0 H i1 H2 R) (((0:Int)<=0/\((0:Int)<=2/\2<=(s0.length:Int)))/\(Cd ((subStr s0 0 2)==[60,61]) (qT1_4 s0 H i1 H2 R) (((0:Int)<=0/\((0:Int)<=2/\2<=(s0.length:Int)))/\(Cd ((subStr s0 0 2)==[62,61]) (qT1_4 s0 H i1 H2 R) (qT1_7 s0 H i1 H2 R))))))) (qT1_7 s0 H i1 H2 R)):
 CallL cfg 152 [.str s0] H R:=call_wt0 (k:=(.go 2 (.boxP (.go 13 (.cases 8 (.go 1 (.op .str (.go 2 (.cases 12 (.go 19 (.op .str (.facts (.call .bool (.go 2 (.cases 26 (.go 4 (.putP (.go 2 (.facts .ret)))) (.go 6 (.op .str (.go 2 (.putP (.go 2 (.facts .ret)))))))))))) (.go 1 (.op .str (.go 3 (.cases 17 (.go 14 (.op .str (.facts (.call .bool (.go 2 (.cases 26 (.go 4 (.putP (.go 2 (.facts .ret)))) (.go 6 (.op .str (.go 2 (.putP (.go 2 (.facts .ret)))))))))))) (.go 1 (.op .str (.go 4 (.cases 22 (.go 8 (.op .str (.facts (.call .bool (.go 2 (.cases 26 (.go 4 (.putP (.go 2 (.facts .ret)))) (.go 6 (.op .str (.go 2 (.putP (.go 2 (.facts .ret)))))))))))) (.go 6 (.op .str (.facts (.call .bool (.go 2 (.cases 26 (.go 4 (.putP (.go 2 (.facts .ret)))) (.go 6 (.op .str (.go 2 (.putP (.go 2 (.facts .ret)))))))))))))))))))))))) (.go 21 (.op .str (.facts (.call .bool (.go 2 (.cases 26 (.go 4 (.putP (.go 2 (.facts .ret)))) (.go 6 (.op .str (.go 2 (.putP (.go 2 (.facts .ret))))))))))))))))) (by kernel_rfl) h
theorem e233t(R:RR)(n0:Int)(H:LHeap)
(h:NX H fun i1 H2=>Dc (n0<1) (PX [i1] H2 fun H3=>R0 H [Sk i1 [I6 4,I6 2,.str []] 67] H3 R (.agg [I6 4,I6 2,.str []])) (Dc (n0>8) (PX [i1] H2 fun H4=>R0 H [Sk i1 [I6 4,I6 2,.str []] 67] H4 R (.agg [I6 4,I6 2,.str []])) (PX [i1] H2 fun H5=>R0 H [Sk i1 [I6 4,I6 n0,.str []] 67] H5 R (.agg [I6 4,I6 n0,.str []])))):
 CallL cfg 233 [I6 n0] H R:=call_wt0 (k:=(.go 2 (.boxP (.go 7 (.cases 5 (.go 12 (.putP (.go 1 (.facts .ret)))) (.go 4 (.cases 8 (.go 8 (.putP (.go 1 (.facts .ret)))) (.go 6 (.putP (.go 1 (.facts .ret))))))))))) (by kernel_rfl) h
def L50t_0(d:Nat->LV)(n0:Int)(n1:Int)(a2:Option LAddr)(l3:Nat)(c4:Cap)(n5:Int):List SV:=dl d 0 3++[.lv (I6 n1)]++dl d 4 3++[.lv (.slice a2 l3 c4),.lv (I6 n5),.lv (I6 n0)]++dl d 10 10
def L90t_0(d:Nat->LV)(n0:Int)(n1:Int)(s2:List UInt8)(n3:Int):List SV:=[.lv (.str s2),.lv (d 1),.lv (d 2),.lv (I6 n1)]++dl d 4 16++[.lv (I6 n3),.lv (I6 n0)]++dl d 22 41
def L249t_0(d:Nat->LV)(n0:Int)(a1:Option LAddr)(l2:Nat)(c3:Cap)(n4:Int):List SV:=[.lv (d 0),.lv (.func (Fn.func 250) [] [])]++dl d 2 3++[.lv (.slice a1 l2 c3)]++dl d 6 4++[.lv (I6 n4),.lv (I6 n0)]++dl d 12 14
theorem g50t_0(R:RR)(H0:LHeap)(d:Nat->LV)(n0:Int)(n1:Int)(a2:Option LAddr)(l3:Nat)(c4:Cap)(n5:Int)(H:LHeap)
(h:Dc (n0<n5) ((0<=n0/\(n0<((l3:Nat):Int)/\(Option.isSome a2)=true))/\(Inv [] H0 [] H->∃x8,loadT cfg.P H 72 (Lk (LAddr.id (adr a2)) (LAddr.ver (adr a2)) ((LAddr.off (adr a2))+((Int.toNat n0)*18)))=some (NdC.lv x8)/\(NX H fun i9 H10=>PX [i9] H10 fun H11=>Inv [] H0 [Sk i9 (NdC.cs x8) 72] H11->Kc 50 [NdC.lv x8] H11 fun n13 H14=>∀d15,GoesT cfg 50 R [] H0 [] (L50t_0 d15 (lwrap .i64 (n0+1)) (ite (n13>n1) n13 n1) a2 l3 c4 n5) (loopAt cfg 50 0) H14))) (R0 H0 [] H R (I6 (lwrap .i64 (n1+1))))):
 GoesT cfg 50 R [] H0 [] (L50t_0 d n0 n1 a2 l3 c4 n5) (loopAt cfg 50 0) H:=seg_wt (k:=(.go 5 (.cases 10 (.go 6 (.op (.tuple []) (.facts (.op (.cust NdC NdC.lv) (.boxP (.putP (.go 4 (.facts (.call (.int .i64) (.go 9 (.stop [9,3,7,8] 0))))))))))) (.go 8 (.facts .ret))))) (by kernel_rfl) h
theorem e50t(R:RR)(x0:NdC)(H:LHeap)
(h:NX H fun i1 H2=>∀d3,GoesT cfg 50 R [] H [] (L50t_0 d3 0 0 x0.argsA x0.argsL x0.argsQ ((x0.argsL:Nat):Int)) (loopAt cfg 50 0) H2):
 CallL cfg 50 [NdC.lv x0] H R:=call_wt0 (k:=(.go 2 (.boxP (.go 16 (.stop [9,3,7,8] 0))))) (by kernel_rfl) h
theorem g90t_0(R:RR)(H0:LHeap)(d:Nat->LV)(n0:Int)(n1:Int)(s2:List UInt8)(n3:Int)(H:LHeap)
(h:Dc (n0<n3) ((0<=n0/\n0<(s2.length:Int))/\(Inv [] H0 [] H->Ka 174 [.int .u8 (byteAt s2 n0)] H fun b6 H7=>Cd b6 (∀d8,GoesT cfg 90 R [] H0 [] (L90t_0 d8 (lwrap .i64 (n0+1)) (lwrap .i64 (n1+1)) s2 n3) (loopAt cfg 90 0) H7) ((0<=n0/\n0<(s2.length:Int))/\(Inv [] H0 [] H7->Ka 173 [.int .u8 (byteAt s2 n0)] H7 fun b11 H12=>Cd (!b11) ((0<=n0/\n0<(s2.length:Int))/\(Cd ((byteAt s2 n0)!=95) (R0 H0 [] H12 R (.bool false)) (∀d14,GoesT cfg 90 R [] H0 [] (L90t_0 d14 (lwrap .i64 (n0+1)) n1 s2 n3) (loopAt cfg 90 0) H12))) (∀d15,GoesT cfg 90 R [] H0 [] (L90t_0 d15 (lwrap .i64 (n0+1)) n1 s2 n3) (loopAt cfg 90 0) H12))))) (Inv [] H0 [] H->Kb 175 [.str s2] H fun s17 H18=>Cd (!(s17==[84,82,85,69])) (Cd (!(s17==[70,65,76,83,69])) (Cd (n1==0) (R0 H0 [] H18 R (.bool true)) (R0 H0 [] H18 R (.bool (decide (n1<(lwrap .i64 ((s2.length:Int)-1))))))) (R0 H0 [] H18 R (.bool false))) (R0 H0 [] H18 R (.bool false)))):
 GoesT cfg 90 R [] H0 [] (L90t_0 d n0 n1 s2 n3) (loopAt cfg 90 0) H:=seg_wt (k:=(.go 5 (.cases 22 (.go 14 (.op (.int .u8) (.facts (.call .bool (.go 2 (.cases 24 (.go 13 (.stop [21,3,0,20] 0)) (.go 5 (.op (.int .u8) (.facts (.call .bool (.go 2 (.cases 37 (.go 2 (.op (.int .u8) (.go 4 (.cases 31 (.go 5 (.facts .ret)) (.go 9 (.stop [21,3,0,20] 0)))))) (.go 16 (.stop [21,3,0,20] 0)))))))))))))) (.go 5 (.facts (.call .str (.go 7 (.cases 48 (.go 4 (.cases 52 (.go 3 (.cases 55 (.go 9 (.facts .ret)) (.go 9 (.facts .ret)))) (.go 12 (.facts .ret)))) (.go 16 (.facts .ret)))))))))) (by kernel_rfl) h
theorem e90t(R:RR)(s0:List UInt8)(H:LHeap)
(h:Cd (s0==[]) (R0 H [] H R (.bool false)) (Dc ((s0.length:Int)>16) (R0 H [] H R (.bool false)) (((0:Int)<=0/\0<(s0.length:Int))/\(Inv [] H [] H->Ka 173 [.int .u8 (byteAt s0 0)] H fun b3 H4=>Cd (!b3) (R0 H [] H4 R (.bool false)) (∀d5,GoesT cfg 90 R [] H [] (L90t_0 d5 0 0 s0 (s0.length:Int)) (loopAt cfg 90 0) H4))))):
 CallL cfg 90 [.str s0] H R:=call_wt0 (k:=(.go 10 (.cases 8 (.go 16 (.facts .ret)) (.go 5 (.cases 13 (.go 11 (.facts .ret)) (.go 1 (.op (.int .u8) (.facts (.call .bool (.go 3 (.cases 18 (.go 5 (.facts .ret)) (.go 15 (.stop [21,3,0,20] 0))))))))))))) (by kernel_rfl) h
theorem e281t(R:RR)(n0:Int)(n1:Int)(H:LHeap)
(h:Dc (n0>=1) (Dc (n0<=64) (Dc (n1>=1) (R0 H [] H R (.bool (decide (n1<=26)))) (R0 H [] H R (.bool false))) (R0 H [] H R (.bool false))) (R0 H [] H R (.bool false))):
 CallL cfg 281 [I6 n0,I6 n1] H R:=call_wt0 (k:=(.go 9 (.cases 7 (.go 4 (.cases 11 (.go 4 (.cases 15 (.go 5 (.facts .ret)) (.go 5 (.facts .ret)))) (.go 9 (.facts .ret)))) (.go 13 (.facts .ret))))) (by kernel_rfl) h
theorem e173t(R:RR)(n0:Int)(H:LHeap)
(h:Dc (n0>=97) (Dc (n0<=122) (R0 H [] H R (.bool true)) (Dc (n0>=65) (R0 H [] H R (.bool (decide (n0<=90)))) (R0 H [] H R (.bool false)))) (Dc (n0>=65) (R0 H [] H R (.bool (decide (n0<=90)))) (R0 H [] H R (.bool false)))):
 CallL cfg 173 [.int .u8 n0] H R:=call_wt0 (k:=(.go 9 (.cases 5 (.go 4 (.cases 9 (.go 9 (.facts .ret)) (.go 3 (.cases 12 (.go 6 (.facts .ret)) (.go 6 (.facts .ret)))))) (.go 7 (.cases 12 (.go 6 (.facts .ret)) (.go 6 (.facts .ret))))))) (by kernel_rfl) h
theorem e174t(R:RR)(n0:Int)(H:LHeap)
(h:Dc (n0>=48) (R0 H [] H R (.bool (decide (n0<=57)))) (R0 H [] H R (.bool false))):
 CallL cfg 174 [.int .u8 n0] H R:=call_wt0 (k:=(.go 9 (.cases 5 (.go 5 (.facts .ret)) (.go 5 (.facts .ret))))) (by kernel_rfl) h
theorem e175t(R:RR)(s0:List UInt8)(H:LHeap)
(h:Inv [] H [] H->Kb 249 [.str s0,.func (Fn.func 250) [] []] H fun s2 H3=>R0 H [] H3 R (.str s2)):
 CallL cfg 175 [.str s0] H R:=call_wt0 (k:=(.go 7 (.facts (.call .str (.go 2 (.facts .ret)))))) (by kernel_rfl) h
theorem e250t(R:RR)(n0:Int)(H:LHeap)
(h:Dc (n0>=97) (Dc (n0<=122) (R0 H [] H R (.int .u8 (lwrap .u8 ((lwrap .u8 (n0-97))+65)))) (R0 H [] H R (.int .u8 n0))) (R0 H [] H R (.int .u8 n0))):
 CallL cfg 250 [.int .u8 n0] H R:=call_wt0 (k:=(.go 10 (.cases 5 (.go 4 (.cases 8 (.go 8 (.facts .ret)) (.go 7 (.facts .ret)))) (.go 11 (.facts .ret))))) (by kernel_rfl) h
theorem g249t_0(R:RR)(H0:LHeap)(d:Nat->LV)(n0:Int)(a1:Option LAddr)(l2:Nat)(c3:Cap)(n4:Int)(H:LHeap)
(h:Dc (n0<n4) ((0<=n0/\(n0<((l2:Nat):Int)/\(Option.isSome a1)=true))/\(Inv [] H0 [] H->∃n7,loadT cfg.P H 5 (Lk (LAddr.id (adr a1)) (LAddr.ver (adr a1)) ((LAddr.off (adr a1))+((Int.toNat n0)*1)))=some (.int .u8 n7)/\(Inv [] H0 [] H->CL 250 [.int .u8 n7] H (.int .u8) fun S8=>∀n9 H10,S8 (.int .u8 n9) H10->(0<=n0/\(n0<((l2:Nat):Int)/\(Option.isSome a1)=true))/\(Inv [] H0 [] H10->∃H12,(storeT cfg.P H10 5 (Lk (LAddr.id (adr a1)) (LAddr.ver (adr a1)) ((LAddr.off (adr a1))+((Int.toNat n0)*1))) (.int .u8 n9)=some H12/\okId [] H0 [] (LAddr.id (adr a1)))/\(∀d13,GoesT cfg 249 R [] H0 [] (L249t_0 d13 (lwrap .i64 (n0+1)) a1 l2 c3 n4) (loopAt cfg 249 0) H12))))) (Inv [] H0 [] H->∃s15 H16,(convertL cfg.P H 155 9 (.slice a1 l2 c3))=(some (Prod.mk (.str s15) H16))/\(R0 H0 [] H R (.str s15)))):
 GoesT cfg 249 R [] H0 [] (L249t_0 d n0 a1 l2 c3 n4) (loopAt cfg 249 0) H:=seg_wt (k:=(.go 5 (.cases 12 (.go 15 (.op (.tuple []) (.facts (.op (.int .u8) (.facts (.call (.int .u8) (.op (.tuple []) (.facts (.store (.go 7 (.stop [11,5,1,10] 0))))))))))) (.go 5 (.facts (.op .str (.go 2 (.facts .ret)))))))) (by kernel_rfl) h
theorem e249t(R:RR)(s:(List UInt8))(H:LHeap)
(h:Inv [] H [] H->∃a0 l1 c2 Y H3,(opL cfg (fun (x:Operand)=>denF [] (evalS cfg [.lv (.str s),.lv (.func (Fn.func 250) [] []),.lv (.tuple []),.lv (.tuple []),.lv (.str []),.lv (.tuple []),.lv (.tuple []),.lv (.str s),.lv (.tuple []),.lv (.tuple []),.lv (.tuple []),.lv (.tuple []),.lv (.tuple []),.lv (.tuple []),.lv (.tuple []),.lv (.tuple []),.lv (.tuple []),.lv (.tuple []),.lv (.tuple []),.lv (.tuple []),.lv (.tuple []),.lv (.tuple []),.lv (.tuple []),.lv (.tuple []),.lv (.tuple []),.lv (.tuple [])] x)) H (Oper.mk (some 8) (Op.convert 9 155 (Operand.tmp 7)) 155 "value.go:104" (List.toArray [Edge.mk 0 Go.Ground.data]) none)=some [(.value (.slice a0 l1 c2),H3)]/\(PresX Y H H3/\(∀i∈Y,okId [] H [] i)))/\(∀d4,GoesT cfg 249 R [] H [] (L249t_0 d4 0 a0 l1 c2 ((l1:Nat):Int)) (loopAt cfg 249 0) H3)):
 CallL cfg 249 [.str s,.func (Fn.func 250) [] []] H R:=call_wt0 (k:=(.go 7 (.facts (.any .slice (.go 11 (.stop [11,5,1,10] 0)))))) (by kernel_rfl) h
theorem e260t(R:RR)(x0:ValC)(H:LHeap)
(h:NX H fun i1 H2=>Cd (x0.kind==0) (R0 H [Sk i1 (ValC.cs x0) 67] H2 R (.iface 297 (.agg []))) (Cd (x0.kind==1) (R0 H [Sk i1 (ValC.cs x0) 67] H2 R (.iface 280 (I6 x0.n))) (Cd (x0.kind==2) (R0 H [Sk i1 (ValC.cs x0) 67] H2 R (.iface 281 (.str x0.s))) (Cd (x0.kind==3) (R0 H [Sk i1 (ValC.cs x0) 67] H2 R (.iface 282 (.bool (x0.n !=0)))) (Cd (x0.kind==4) (R0 H [Sk i1 (ValC.cs x0) 67] H2 R (.iface 283 (I6 x0.n))) (R0 H [Sk i1 (ValC.cs x0) 67] H2 R LV.nilIface)))))):
 CallL cfg 260 [ValC.lv x0] H R:=call_wt0 (k:=(.go 2 (.boxP (.go 14 (.cases 5 (.go 7 (.facts .ret)) (.go 6 (.cases 9 (.go 8 (.facts .ret)) (.go 6 (.cases 14 (.go 8 (.facts .ret)) (.go 6 (.cases 19 (.go 9 (.facts .ret)) (.go 6 (.cases 25 (.go 8 (.facts .ret)) (.go 7 (.facts .ret))))))))))))))) (by kernel_rfl) h
theorem e294t(R:RR)(n0:Int)(H:LHeap)
(h:Dc (n0>=(- 100000000000)) (R0 H [] H R (.bool (decide (n0<=100000000000)))) (R0 H [] H R (.bool false))):
 CallL cfg 294 [I6 n0] H R:=call_wt0 (k:=(.go 9 (.cases 5 (.go 5 (.facts .ret)) (.go 5 (.facts .ret))))) (by kernel_rfl) h
inductive Nd where
 |mk (x:NdC) (args:List Nd)
def Nd.root:Nd->NdC
 | .mk x _=>x
mutual
def NdAt(H:LHeap):Nd->Prop
 | .mk x args=>args.length=x.argsL/\x.argsL<=maxLen/\NdsAt H args x.argsA 0
def NdsAt(H:LHeap):List Nd->Option LAddr->Nat->Prop
 |[],_,_=>True
 |n::l,a,i=>(a.isSome=true/\(adr a).id<H.next/\loadT cfg.P H 72 ⟨(adr a).id,(adr a).ver,(adr a).off+i*18⟩=some n.root.lv)/\NdAt H n/\NdsAt H l a (i+1)
end
mutual
theorem NdAt.on{H H':LHeap}(p:PresX [] H H'):∀{n:Nd},NdAt H n->NdAt H' n
 | .mk x args,h=>by
  unfold NdAt at h |-;exact ⟨h.1,h.2.1,NdsAt.on p h.2.2⟩
theorem NdsAt.on{H H':LHeap}(p:PresX [] H H'):∀{l:List Nd} {a:Option LAddr} {i:Nat},NdsAt H l a i->NdsAt H' l a i
 |[],_,_,_=>by unfold NdsAt;trivial
 |n::l,a,i,h=>by
  unfold NdsAt at h |-;obtain ⟨⟨h1,h2,h3⟩,h4,h5⟩:=h;exact ⟨⟨h1,Nat.lt_of_lt_of_le h2 p.next,p.load0 (a:=⟨(adr a).id,(adr a).ver,(adr a).off+i*18⟩) h2 h3⟩,NdAt.on p h4,NdsAt.on p h5⟩
end
theorem NdsAt.len{H:LHeap}:∀{l m:List Nd} {a:Option LAddr} {i:Nat},NdsAt H (l++m) a i->NdsAt H m a (i+l.length)
 |[],m,a,i,h=>h
 |n::l,m,a,i,h=>by
  rw [List.cons_append] at h;unfold NdsAt at h;have:=NdsAt.len h.2.2;rw [List.length_cons]
  rwa [show i+(l.length+1)=i+1+l.length by omega]
theorem rowT:RowT cfg.P 70 72 18 192:=⟨by kernel_rfl,by kernel_rfl,by decide,by kernel_rfl,by kernel_rfl,by kernel_rfl,⟨(⟨0,[],0,0,[],[],[],0,0,false,false,[],[],0,0,false,false,none,0,.exact 0⟩:NdC).lv,by kernel_rfl,rfl⟩⟩
mutual
def NdIds(P:Nat->Prop):Nd->Prop
 | .mk x args=>(args=[]\/P (adr x.argsA).id)/\NdsIds P args
def NdsIds(P:Nat->Prop):List Nd->Prop
 |[]=>True
 |n::l=>NdIds P n/\NdsIds P l
end
mutual
theorem NdIds.mono{P Q:Nat->Prop}(h:∀i,P i->Q i):∀{n:Nd},NdIds P n->NdIds Q n
 | .mk x args,k=>by
  unfold NdIds at k |-;exact ⟨k.1.imp id (h _),NdsIds.mono h k.2⟩
theorem NdsIds.mono{P Q:Nat->Prop}(h:∀i,P i->Q i):∀{l:List Nd},NdsIds P l->NdsIds Q l
 |[],_=>by unfold NdsIds;trivial
 |n::l,k=>by
  unfold NdsIds at k |-;exact ⟨NdIds.mono h k.1,NdsIds.mono h k.2⟩
end
mutual
theorem NdAt.ids{H:LHeap}:∀{n:Nd},NdAt H n->NdIds (·<H.next) n
 | .mk x args,h=>by
  unfold NdAt at h;unfold NdIds;obtain ⟨h1,h2,h3⟩:=h;refine ⟨?_,NdsAt.ids h3⟩;cases args with
  |nil=>exact .inl rfl
  |cons n l=>unfold NdsAt at h3;exact .inr h3.1.2.1
theorem NdsAt.ids{H:LHeap}:∀{l:List Nd} {a:Option LAddr} {i:Nat},NdsAt H l a i->NdsIds (·<H.next) l
 |[],_,_,_=>by unfold NdsIds;trivial
 |n::l,a,i,h=>by
  unfold NdsAt at h;unfold NdsIds;exact ⟨NdAt.ids h.2.1,NdsAt.ids h.2.2⟩
end
mutual
theorem NdAt.onY{H H':LHeap}{Y:List Nat}(p:PresX Y H H'):∀{n:Nd},NdIds (·∉Y) n->NdAt H n->NdAt H' n
 | .mk x args,k,h=>by
  unfold NdAt at h |-;unfold NdIds at k;refine ⟨h.1,h.2.1,?_⟩;rcases k.1 with e |e
  ·subst e;unfold NdsAt;trivial
  ·exact NdsAt.onY p e k.2 h.2.2
theorem NdsAt.onY{H H':LHeap}{Y:List Nat}(p:PresX Y H H'):∀{l:List Nd} {a:Option LAddr} {i:Nat},(adr a).id∉Y->NdsIds (·∉Y) l->NdsAt H l a i->NdsAt H' l a i
 |[],_,_,_,_,_=>by unfold NdsAt;trivial
 |n::l,a,i,ha,k,h=>by
  unfold NdsAt at h |-;unfold NdsIds at k;obtain ⟨⟨h1,h2,h3⟩,h4,h5⟩:=h;exact ⟨⟨h1,Nat.lt_of_lt_of_le h2 p.next,p.load (a:=⟨(adr a).id,(adr a).ver,(adr a).off+i*18⟩) h2 ha h3⟩,NdAt.onY p k.1 h4,NdsAt.onY p ha k.2 h5⟩
end
theorem ndc_len(x:NdC):x.cs.length=18:=rfl
theorem ndc_cells(x:NdC):allCells x.cs=true:=rfl
def cellsOf:List Nd->List LV
 |[]=>[]
 |n::l=>n.root.cs++cellsOf l
theorem cellsOf_len:∀l:List Nd,(cellsOf l).length=l.length*18
 |[]=>rfl
 |n::l=>by rw [cellsOf,List.length_append,cellsOf_len l,ndc_len,List.length_cons];omega
theorem cellsOf_app:∀(l:List Nd) (n:Nd),cellsOf (l++[n])=cellsOf l++n.root.cs
 |[],n=>by simp [cellsOf]
 |m::l,n=>by simp only [List.cons_append,cellsOf,cellsOf_app l n,List.append_assoc]
theorem cellsOf_drop:∀(l:List Nd) (i:Nat) (n:Nd),l[i]? =some n->((cellsOf l).drop (i*18)).take 18=n.root.cs
 |[],i,n,h=>by simp at h
 |m::l,0,n,h=>by
  simp only [List.getElem?_cons_zero,Option.some.injEq] at h;subst h;rw [Nat.zero_mul,List.drop_zero,cellsOf,List.take_append_of_le_length (by rw [ndc_len];omega),List.take_of_length_le (by rw [ndc_len];omega)]
 |m::l,i+1,n,h=>by
  rw [cellsOf,show (i+1)*18=18+i*18 by omega,<-List.drop_drop];rw [show (m.root.cs++cellsOf l).drop 18=cellsOf l by rw [List.drop_append_of_le_length (by rw [ndc_len];omega),List.drop_of_length_le (by rw [ndc_len];omega)];rfl];exact cellsOf_drop l i n (by simpa using h)
theorem nds_row{H:LHeap}{a:Option LAddr}{q:Cap}(ms:List Nd)(hr:RowAt H 72 18 a ms.length q (cellsOf ms))(hm:∀m∈ms,NdAt H m):∀(l:List Nd) (i:Nat),(∀(j:Nat) (n:Nd),l[j]? =some n->ms[i+j]? =some n)->NdsAt H l a i
 |[],i,_=>by unfold NdsAt;trivial
 |n::l,i,h=>by
  have h0:ms[i]? =some n:=h 0 n rfl;have hi:i<ms.length:=(List.getElem?_eq_some_iff.1 h0).1;obtain ⟨h1,h2,h3⟩:=hr.load hi;unfold NdsAt;refine ⟨⟨h1,h2,?_⟩,hm n (List.mem_of_getElem? h0),nds_row ms hr hm l (i+1) fun j m hj=>by
   have:=h (j+1) m (by simpa using hj)
   rwa [show i+1+j=i+(j+1) by omega]⟩
  rw [cellsOf_drop ms i n h0] at h3;exact load_agg (by kernel_rfl) (by kernel_rfl) h3
def NdC.bare(x:NdC):NdC:={ x with argsA:=none,argsL:=0,argsQ:=.exact 0 }
mutual
def NdSm:Nd->Prop
 | .mk x l=>x.argsL<=1000000000/\NdsSm l
def NdsSm:List Nd->Prop
 |[]=>True
 |n::l=>NdSm n/\NdsSm l
end
mutual
def preT:Nd->List NdC
 | .mk x l=>x::preTs l
def preTs:List Nd->List NdC
 |[]=>[]
 |n::l=>preT n++preTs l
end
theorem preTs_app:∀(l m:List Nd),preTs (l++m)=preTs l++preTs m
 |[],m=>by simp [preTs]
 |n::l,m=>by simp only [List.cons_append,preTs,preTs_app l m,List.append_assoc]
theorem preTs_len:∀l:List Nd,l.length<=(preTs l).length
 |[]=>by simp
 | .mk x m::l=>by
  have:=preTs_len l;simp only [preTs,preT,List.length_cons,List.length_append];omega
mutual
theorem ndSm:∀(n:Nd) (H:LHeap),NdAt H n->(preT n).length<=1000000->NdSm n
 | .mk x l,H,h,hs=>by
  unfold NdAt at h;unfold NdSm;rw [preT,List.length_cons] at hs;have:=preTs_len l;exact ⟨by omega,ndsSm l H _ _ h.2.2 (by omega)⟩
theorem ndsSm:∀(l:List Nd) (H:LHeap) (a:Option LAddr) (i:Nat),NdsAt H l a i->(preTs l).length<=1000000->NdsSm l
 |[],_,_,_,_,_=>by unfold NdsSm;trivial
 |n::l,H,a,i,h,hs=>by
  unfold NdsAt at h;unfold NdsSm;rw [preTs,List.length_append] at hs;exact ⟨ndSm n H h.2.1 (by omega),ndsSm l H a (i+1) h.2.2 (by omega)⟩
end
theorem NdC.lv_inj{a b:NdC}(h:a.lv=b.lv):a=b:=by
 have:a.cs=b.cs:=by unfold NdC.lv at h;exact LV.agg.inj h
 cases a;cases b;simp only [NdC.cs,List.cons.injEq,LV.int.injEq,LV.str.injEq,LV.bool.injEq,LV.slice.injEq,true_and,and_true] at this;obtain ⟨h0,h1,h2,h3,h4,h5,h6,h7,h8,h9,h10,h11,h12,h13,h14,h15,h16,h17,h18,h19⟩:=this;subst h0 h1 h2 h3 h4 h5 h6 h7 h8 h9 h10 h11 h12 h13 h14 h15 h16 h17 h18 h19;rfl
def GoodB(P:Prop)(H:LHeap):LV->LHeap->Prop:=fun v H'=>PresX [] H H'/\∃b:Bool,v=.bool b/\(b=true->P)
theorem GoodB.sh{P:Prop}{H:LHeap}:∀v H',GoodB P H v H'->PresX [] H H'/\hasSh .bool v:=fun v H' ⟨h1,b,e,_⟩=>⟨h1,b,e⟩
theorem GoodB.mk{P:Prop}{H H':LHeap}{b:Bool}(h:PresX [] H H')(k:b=true->P):GoodB P H (.bool b) H':=⟨h,b,rfl,k⟩
theorem GoodB.no{P:Prop}{H H':LHeap}(h:PresX [] H H'):GoodB P H (.bool false) H':=⟨h,false,rfl,fun e=>by cases e⟩
theorem GoodB.imp{P Q:Prop}{H:LHeap}{v:LV}{H':LHeap}(h:GoodB P H v H')(k:P->Q):GoodB Q H v H':=⟨h.1,h.2.choose,h.2.choose_spec.1,fun e=>k (h.2.choose_spec.2 e)⟩
def AnyN(H:LHeap):LV->LHeap->Prop:=fun v H'=>PresX [] H H'/\∃n:Int,v=.int .i64 n
theorem AnyN.sh{H:LHeap}:∀v H',AnyN H v H'->PresX [] H H'/\hasSh (.int .i64) v:=fun v H' ⟨h1,b,e⟩=>⟨h1,b,e⟩
def upB(b:UInt8):UInt8:=if 97<=b.toNat/\b.toNat<=122 then UInt8.ofNat (b.toNat-32) else b
def bcs(s:List UInt8):List LV:=s.map fun b=>LV.int .u8 (b.toNat:Int)
theorem bcs_len(s:List UInt8):(bcs s).length=s.length:=by unfold bcs;rw [List.length_map]
theorem bcs_app(s t:List UInt8):bcs (s++t)=bcs s++bcs t:=by unfold bcs;rw [List.map_append]
theorem bytes_bcs:∀s:List UInt8,bytesOfCells (bcs s)=some s
 |[]=>rfl
 |b::s=>by
  show (bytesOfCells (bcs s)).map (UInt8.ofNat (b.toNat:Int).toNat::·)=_;rw [bytes_bcs s];simp
theorem conv_to{H:LHeap}{s:List UInt8}(h:s.length<=9223372036854775807):convertL cfg.P H 9 155 (.str s)=some (.slice (some ⟨H.next,s.length,0⟩) s.length (.free 1),H.push (.cells (bcs s) 5 s.length s.length .mark false false)):=by
 unfold convertL;rw [show cfg.P.underlying 9=some .string by kernel_rfl,show cfg.P.underlying 155=some (.slice 5) by kernel_rfl];simp only;rw [show cfg.P.underlying 5=some (.int .u8) by kernel_rfl];simp only;rw [if_pos (by rw [Nat.ble_eq];exact h)];rfl
theorem conv_from{H:LHeap}{a:LAddr}{n:Nat}{q:Cap}{s:List UInt8}(h:loadN H a n=some (bcs s)):convertL cfg.P H 155 9 (.slice (some a) n q)=some (.str s,H):=by
 unfold convertL;rw [show cfg.P.underlying 9=some .string by kernel_rfl,show cfg.P.underlying 155=some (.slice 5) by kernel_rfl];simp only;rw [show cfg.P.underlying 5=some (.int .u8) by kernel_rfl];simp only [h,bytes_bcs]
theorem u8_lt256(b:UInt8):b.toNat<256:=b.toNat_lt
def GoodS(P:List UInt8->Prop)(H:LHeap):LV->LHeap->Prop:=fun v H'=>PresX [] H H'/\∃s:List UInt8,v=.str s/\P s
theorem GoodS.sh{P:List UInt8->Prop}{H:LHeap}:∀v H',GoodS P H v H'->PresX [] H H'/\hasSh .str v:=fun v H' ⟨h1,b,e,_⟩=>⟨h1,b,e⟩
theorem GoodS.mk{P:List UInt8->Prop}{H H':LHeap}{s:List UInt8}(h:PresX [] H H')(k:P s):GoodS P H (.str s) H':=⟨h,s,rfl,k⟩
end Go.Proofs.YtjihhflffkoffaaGreatDoor.Z
