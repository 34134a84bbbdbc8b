/- Contracts of functions of the program; no condition. -/
import Derived.Test.YtjihhflffkoffaaGreatDoorG0
import Derived.Test.YtjihhflffkoffaaGreatDoorLe
set_option linter.unusedSimpArgs false
set_option linter.unusedVariables false
set_option linter.unusedSectionVars false
set_option linter.unnecessarySimpa false
namespace Go.Proofs.YtjihhflffkoffaaGreatDoor.Z
open Go Go.Lm
set_option maxRecDepth 1000000
set_option maxHeartbeats 0
def L176t_0(d:Nat->LV)(n0:Int)(f1:LAddr)(a2:Option LAddr)(l3:Nat)(c4:Cap)(n5:Int):List SV:=[.lv (.slice a2 l3 c4),.lv (.func (Fn.func 177) [] [.ptr (some f1)])]++dl d 2 5++[.lv (I6 n5),.lv (I6 n0)]++dl d 9 10
def L125b_0(d:Nat->LV)(n0:Int)(f1:LAddr)(f2:LAddr)(a3:Option LAddr)(l4:Nat)(c5:Cap)(n6:Int):List SV:=[.lv (.slice a3 l4 c5),.lv (.func (Fn.func 124) [] [.ptr (some f1),.ptr (some f2)])]++dl d 2 5++[.lv (I6 n6),.lv (I6 n0)]++dl d 9 10
def L125c_0(d:Nat->LV)(n0:Int)(f1:LAddr)(f2:LAddr)(a3:Option LAddr)(l4:Nat)(c5:Cap)(n6:Int):List SV:=[.lv (.slice a3 l4 c5),.lv (.func (Fn.func 126) [] [.ptr (some f1),.ptr (some f2)])]++dl d 2 5++[.lv (I6 n6),.lv (I6 n0)]++dl d 9 10
def L56t_0(d:Nat->LV)(n0:Int)(n1:Int)(a2:Option LAddr)(l3:Nat)(c4:Cap)(n5:Int):List SV:=dl d 0 3++[.lv (I6 n1)]++dl d 4 3++[.lv (.slice a2 l3 c4),.lv (I6 n5),.lv (I6 n0)]++dl d 10 10
def L57t_0(d:Nat->LV)(n0:Int)(n1:Int)(n2:Int)(a3:Option LAddr)(l4:Nat)(c5:Cap)(n6:Int):List SV:=[.lv (d 0),.lv (d 1),.lv (I6 n1),.lv (I6 n2)]++dl d 4 18++[.lv (.slice a3 l4 c5),.lv (I6 n6),.lv (I6 n0)]++dl d 25 16
def L92t_0(d:Nat->LV)(n0:Int)(n1:Int)(a2:Option LAddr)(l3:Nat)(c4:Cap)(n5:Int):List SV:=dl d 0 3++[.lv (I6 n1),.lv (d 4),.lv (d 5),.lv (.slice a2 l3 c4),.lv (I6 n5),.lv (I6 n0)]++dl d 9 29
def L93t_0(d:Nat->LV)(n0:Int)(a1:Option LAddr)(l2:Nat)(c3:Cap)(n4:Int):List SV:=dl d 0 6++[.lv (.slice a1 l2 c3),.lv (I6 n4),.lv (I6 n0)]++dl d 9 10
def L30t_0(d:Nat->LV)(n0:Int)(n1:Int)(a2:Option LAddr)(l3:Nat)(c4:Cap)(n5:Int):List SV:=[.lv (d 0),.own 0 0,.lv (d 2),.lv (I6 n1)]++dl d 4 3++[.lv (.slice a2 l3 c4),.lv (I6 n5),.lv (I6 n0)]++dl d 10 22
theorem e121t(R:RR)(n0:Int)(n1:Int)(H:LHeap)
(h:Dc (n0>=1) (Dc (n0<=64) (Dc (n1>=1) (R0 H [] H R (.bool (decide (n1<=26)))) (R0 H [] H R (.bool false))) (R0 H [] H R (.bool false))) (R0 H [] H R (.bool false))):
 CallL cfg 121 [I6 n0,I6 n1] H R:=call_wt0 (k:=(.go 9 (.cases 7 (.go 4 (.cases 11 (.go 4 (.cases 15 (.go 5 (.facts .ret)) (.go 5 (.facts .ret)))) (.go 9 (.facts .ret)))) (.go 13 (.facts .ret))))) (by kernel_rfl) h
theorem e122t(R:RR)(s0:List UInt8)(H:LHeap)
(h:Dc ((s0.length:Int)>255) (R0 H [] H R (I6 3)) (Cd (s0==[]) (R0 H [] H R (I6 0)) (((0:Int)<=0/\0<(s0.length:Int))/\(Cd ((byteAt s0 0)!=61) (R0 H [] H R (I6 0)) (((0:Int)<=1/\(1<=(s0.length:Int)/\(s0.length:Int)<=(s0.length:Int)))/\(Inv [] H [] H->CL 54 [.str (subStr s0 1 (s0.length:Int))] H (.tuple [.cust NdC NdC.lv,.int .i64]) fun S3=>∀x4 n5 H6,S3 (.tuple [NdC.lv x4,I6 n5]) H6->NX H6 fun i7 H8=>PX [i7] H8 fun H9=>R0 H [Sk i7 (NdC.cs x4) 72] H9 R (I6 n5))))))):
 CallL cfg 122 [.str s0] H R:=call_wt0 (k:=(.go 11 (.cases 7 (.go 5 (.facts .ret)) (.go 8 (.cases 10 (.go 10 (.facts .ret)) (.go 1 (.op (.int .u8) (.go 3 (.cases 14 (.go 5 (.facts .ret)) (.go 5 (.op .str (.facts (.call (.tuple [.cust NdC NdC.lv,.int .i64]) (.go 3 (.boxP (.putP (.go 7 (.facts .ret)))))))))))))))))) (by kernel_rfl) h
theorem e178t(R:RR)(n0:Int)(n1:Int)(H:LHeap)
(h:R0 H [] H R (I6 (lwrap .i64 ((lwrap .i64 (n0*27))+n1)))):
 CallL cfg 178 [I6 n0,I6 n1] H R:=call_wt0 (k:=(.go 12 (.facts .ret))) (by kernel_rfl) h
theorem e117t(R:RR)(b0:Bool)(n1:Int)(H:LHeap)
(h:Cd b0 (R0 H [] H R (I6 0)) (R0 H [] H R (I6 n1))):
 CallL cfg 117 [.bool b0,I6 n1] H R:=call_wt0 (k:=(.go 9 (.cases 5 (.go 5 (.facts .ret)) (.go 7 (.facts .ret))))) (by kernel_rfl) h
theorem e124t(R:RR)(x:CellC)(p:LAddr)(q:LAddr)(H:LHeap)
(h:NX H fun i0 H1=>Inv [] H [Sk i0 (CellC.cs x) 149] H1->∃n3,loadT cfg.P H1 3 p=some (I6 n3)/\(Cd (x.row==n3) (Inv [] H [Sk i0 (CellC.cs x) 149] H1->∃n5,loadT cfg.P H1 3 q=some (I6 n5)/\(R0 H [Sk i0 (CellC.cs x) 149] H1 R (.bool (x.col==n5)))) (R0 H [Sk i0 (CellC.cs x) 149] H1 R (.bool false)))):
 CallL cfg 124 [CellC.lv x,.ptr (some p),.ptr (some q)] H R:=call_wt0 (k:=(.go 2 (.boxP (.go 6 (.facts (.op (.int .i64) (.go 2 (.cases 9 (.go 2 (.facts (.op (.int .i64) (.go 4 (.facts .ret))))) (.go 7 (.facts .ret)))))))))) (by kernel_rfl) h
theorem e126t(R:RR)(x:CellC)(p:LAddr)(q:LAddr)(H:LHeap)
(h:NX H fun i0 H1=>Inv [] H [Sk i0 (CellC.cs x) 149] H1->∃n3,loadT cfg.P H1 3 p=some (I6 n3)/\(Dc (x.row>n3) (R0 H [Sk i0 (CellC.cs x) 149] H1 R (.bool true)) (Inv [] H [Sk i0 (CellC.cs x) 149] H1->∃n5,loadT cfg.P H1 3 p=some (I6 n5)/\(Cd (x.row==n5) (Inv [] H [Sk i0 (CellC.cs x) 149] H1->∃n7,loadT cfg.P H1 3 q=some (I6 n7)/\(R0 H [Sk i0 (CellC.cs x) 149] H1 R (.bool (decide (x.col>n7))))) (R0 H [Sk i0 (CellC.cs x) 149] H1 R (.bool false)))))):
 CallL cfg 126 [CellC.lv x,.ptr (some p),.ptr (some q)] H R:=call_wt0 (k:=(.go 2 (.boxP (.go 6 (.facts (.op (.int .i64) (.go 2 (.cases 9 (.go 13 (.facts .ret)) (.go 2 (.facts (.op (.int .i64) (.go 2 (.cases 14 (.go 2 (.facts (.op (.int .i64) (.go 5 (.facts .ret))))) (.go 8 (.facts .ret))))))))))))))) (by kernel_rfl) h
theorem e177t(R:RR)(x:SheetC)(p:LAddr)(H:LHeap)
(h:NX H fun i0 H1=>Inv [] H [Sk i0 (SheetC.cs x) 142] H1->∃s3,loadT cfg.P H1 9 p=some (.str s3)/\(R0 H [Sk i0 (SheetC.cs x) 142] H1 R (.bool (x.name==s3)))):
 CallL cfg 177 [SheetC.lv x,.ptr (some p)] H R:=call_wt0 (k:=(.go 2 (.boxP (.go 6 (.facts (.op .str (.go 3 (.facts .ret)))))))) (by kernel_rfl) h
theorem g176t_0(R:RR)(H0:LHeap)(d:Nat->LV)(n0:Int)(f1:LAddr)(a2:Option LAddr)(l3:Nat)(c4:Cap)(n5:Int)(H:LHeap)
(h:Dc (n0<n5) ((0<=n0/\(n0<((l3:Nat):Int)/\(Option.isSome a2)=true))/\(Inv [] H0 [] H->∃x8,loadT cfg.P H 142 (Lk (LAddr.id (adr a2)) (LAddr.ver (adr a2)) ((LAddr.off (adr a2))+((Int.toNat n0)*2)))=some (SheetC.lv x8)/\(Inv [] H0 [] H->CL 177 [SheetC.lv x8,.ptr (some f1)] H .bool fun S9=>∀b10 H11,S9 (.bool b10) H11->Cd b10 (R0 H0 [] H11 R (I6 n0)) (∀d12,GoesT cfg 176 R [] H0 [] (L176t_0 d12 (lwrap .i64 (n0+1)) f1 a2 l3 c4 n5) (loopAt cfg 176 0) H11)))) (R0 H0 [] H R (I6 (- 1:Int)))):
 GoesT cfg 176 R [] H0 [] (L176t_0 d n0 f1 a2 l3 c4 n5) (loopAt cfg 176 0) H:=seg_wt (k:=(.go 5 (.cases 9 (.go 14 (.op (.tuple []) (.facts (.op (.cust SheetC SheetC.lv) (.facts (.call .bool (.go 1 (.cases 16 (.go 6 (.facts .ret)) (.go 8 (.stop [8,1,0,7] 0)))))))))) (.go 6 (.facts .ret))))) (by kernel_rfl) h
theorem e176t(R:RR)(a:(Option LAddr))(l:Nat)(c:Cap)(p:LAddr)(H:LHeap)
(h:∀d0,GoesT cfg 176 R [] H [] (L176t_0 d0 0 p a l c ((l:Nat):Int)) (loopAt cfg 176 0) H):
 CallL cfg 176 [.slice a l c,.func (Fn.func 177) [] [.ptr (some p)]] H R:=call_wt0 (k:=(.go 13 (.stop [8,1,0,7] 0))) (by kernel_rfl) h
theorem e91t(R:RR)(x0:BookC)(s1:List UInt8)(H:LHeap)
(h:NX H fun i2 H3=>NX H3 fun i4 H5=>Inv [] H [Sk i2 (BookC.cs x0) 48,Sk i4 [.str s1] 9] H5->CL 176 [.slice x0.sheetsA x0.sheetsL x0.sheetsQ,.func (Fn.func 177) [] [.ptr (some (Lk i4 1 0))]] H5 (.int .i64) fun S6=>∀n7 H8,S6 (I6 n7) H8->R0 H [Sk i2 (BookC.cs x0) 48,Sk i4 [.str s1] 9] H8 R (I6 n7)):
 CallL cfg 91 [BookC.lv x0,.str s1] H R:=call_wt0 (k:=(.go 2 (.boxP (.boxP (.go 7 (.facts (.call (.int .i64) (.go 2 (.facts .ret))))))))) (by kernel_rfl) h
theorem g125b_0(R:RR)(H0:LHeap)(d:Nat->LV)(n0:Int)(f1:LAddr)(f2:LAddr)(a3:Option LAddr)(l4:Nat)(c5:Cap)(n6:Int)(H:LHeap)
(h:Dc (n0<n6) ((0<=n0/\(n0<((l4:Nat):Int)/\(Option.isSome a3)=true))/\(Inv [] H0 [] H->∃x9,loadT cfg.P H 149 (Lk (LAddr.id (adr a3)) (LAddr.ver (adr a3)) ((LAddr.off (adr a3))+((Int.toNat n0)*3)))=some (CellC.lv x9)/\(Inv [] H0 [] H->CL 124 [CellC.lv x9,.ptr (some f1),.ptr (some f2)] H .bool fun S10=>∀b11 H12,S10 (.bool b11) H12->Cd b11 (R0 H0 [] H12 R (I6 n0)) (∀d13,GoesT cfg 125 R [] H0 [] (L125b_0 d13 (lwrap .i64 (n0+1)) f1 f2 a3 l4 c5 n6) (loopAt cfg 125 0) H12)))) (R0 H0 [] H R (I6 (- 1:Int)))):
 GoesT cfg 125 R [] H0 [] (L125b_0 d n0 f1 f2 a3 l4 c5 n6) (loopAt cfg 125 0) H:=seg_wt (k:=(.go 5 (.cases 9 (.go 14 (.op (.tuple []) (.facts (.op (.cust CellC CellC.lv) (.facts (.call .bool (.go 1 (.cases 16 (.go 6 (.facts .ret)) (.go 8 (.stop [8,1,0,7] 0)))))))))) (.go 6 (.facts .ret))))) (by kernel_rfl) h
theorem e125b(R:RR)(a:(Option LAddr))(l:Nat)(c:Cap)(p:LAddr)(q:LAddr)(H:LHeap)
(h:∀d0,GoesT cfg 125 R [] H [] (L125b_0 d0 0 p q a l c ((l:Nat):Int)) (loopAt cfg 125 0) H):
 CallL cfg 125 [.slice a l c,.func (Fn.func 124) [] [.ptr (some p),.ptr (some q)]] H R:=call_wt0 (k:=(.go 13 (.stop [8,1,0,7] 0))) (by kernel_rfl) h
theorem g125c_0(R:RR)(H0:LHeap)(d:Nat->LV)(n0:Int)(f1:LAddr)(f2:LAddr)(a3:Option LAddr)(l4:Nat)(c5:Cap)(n6:Int)(H:LHeap)
(h:Dc (n0<n6) ((0<=n0/\(n0<((l4:Nat):Int)/\(Option.isSome a3)=true))/\(Inv [] H0 [] H->∃x9,loadT cfg.P H 149 (Lk (LAddr.id (adr a3)) (LAddr.ver (adr a3)) ((LAddr.off (adr a3))+((Int.toNat n0)*3)))=some (CellC.lv x9)/\(Inv [] H0 [] H->CL 126 [CellC.lv x9,.ptr (some f1),.ptr (some f2)] H .bool fun S10=>∀b11 H12,S10 (.bool b11) H12->Cd b11 (R0 H0 [] H12 R (I6 n0)) (∀d13,GoesT cfg 125 R [] H0 [] (L125c_0 d13 (lwrap .i64 (n0+1)) f1 f2 a3 l4 c5 n6) (loopAt cfg 125 0) H12)))) (R0 H0 [] H R (I6 (- 1:Int)))):
 GoesT cfg 125 R [] H0 [] (L125c_0 d n0 f1 f2 a3 l4 c5 n6) (loopAt cfg 125 0) H:=seg_wt (k:=(.go 5 (.cases 9 (.go 14 (.op (.tuple []) (.facts (.op (.cust CellC CellC.lv) (.facts (.call .bool (.go 1 (.cases 16 (.go 6 (.facts .ret)) (.go 8 (.stop [8,1,0,7] 0)))))))))) (.go 6 (.facts .ret))))) (by kernel_rfl) h
theorem e125c(R:RR)(a:(Option LAddr))(l:Nat)(c:Cap)(p:LAddr)(q:LAddr)(H:LHeap)
(h:∀d0,GoesT cfg 125 R [] H [] (L125c_0 d0 0 p q a l c ((l:Nat):Int)) (loopAt cfg 125 0) H):
 CallL cfg 125 [.slice a l c,.func (Fn.func 126) [] [.ptr (some p),.ptr (some q)]] H R:=call_wt0 (k:=(.go 13 (.stop [8,1,0,7] 0))) (by kernel_rfl) h
theorem e96t(R:RR)(a0:Option LAddr)(l1:Nat)(c2:Cap)(H:LHeap)
(h:Cd (Option.isNone a0) (R0 H [] H R (.slice none 0 (.exact 0))) (∀H4,H4=(LHeap.push H (LObj.cells [] 149 0 0 .none false true))->Inv [] H [] H4->∃Y a5 l6 c7 H8,(appendL cfg.P H4 [49,49] [.slice (some (Lk (LHeap.next H) 0 0)) 0 (.exact 0),.slice a0 l1 c2]=some ((.slice a5 l6 c7),H8)/\(PresX Y H4 H8/\(∀i∈Y,okId [] H [] i)))/\(R0 H [] H8 R (.slice a5 l6 c7)))):
 CallL cfg 96 [.slice a0 l1 c2] H R:=call_wt0 (k:=(.go 8 (.op .bool (.go 1 (.cases 4 (.go 5 (.facts .ret)) (.go 4 (.row (.go 1 (.facts (.app (.go 2 (.facts .ret)))))))))))) (by kernel_rfl) h
theorem g56t_0(R:RR)(H0:LHeap)(d:Nat->LV)(n0:Int)(n1:Int)(a2:Option LAddr)(l3:Nat)(c4:Cap)(n5:Int)(H:LHeap)
(h:Dc (n0<n5) ((0<=n0/\(n0<((l3:Nat):Int)/\(Option.isSome a2)=true))/\(Inv [] H0 [] H->∃x8,loadT cfg.P H 142 (Lk (LAddr.id (adr a2)) (LAddr.ver (adr a2)) ((LAddr.off (adr a2))+((Int.toNat n0)*2)))=some (SheetC.lv x8)/\(NX H fun i9 H10=>PX [i9] H10 fun H11=>∀d12,GoesT cfg 56 R [] H0 [] (L56t_0 d12 (lwrap .i64 (n0+1)) (lwrap .i64 (n1+((x8.cellsL:Nat):Int))) a2 l3 c4 n5) (loopAt cfg 56 0) H11))) (R0 H0 [] H R (I6 n1))):
 GoesT cfg 56 R [] H0 [] (L56t_0 d n0 n1 a2 l3 c4 n5) (loopAt cfg 56 0) H:=seg_wt (k:=(.go 5 (.cases 10 (.go 6 (.op (.tuple []) (.facts (.op (.cust SheetC SheetC.lv) (.boxP (.putP (.go 15 (.stop [9,3,7,8] 0)))))))) (.go 7 (.facts .ret))))) (by kernel_rfl) h
theorem e56t(R:RR)(x0:BookC)(H:LHeap)
(h:NX H fun i1 H2=>∀d3,GoesT cfg 56 R [] H [] (L56t_0 d3 0 0 x0.sheetsA x0.sheetsL x0.sheetsQ ((x0.sheetsL:Nat):Int)) (loopAt cfg 56 0) H2):
 CallL cfg 56 [BookC.lv x0] H R:=call_wt0 (k:=(.go 2 (.boxP (.go 16 (.stop [9,3,7,8] 0))))) (by kernel_rfl) h
theorem g57t_0(R:RR)(H0:LHeap)(d:Nat->LV)(n0:Int)(n1:Int)(n2:Int)(a3:Option LAddr)(l4:Nat)(c5:Cap)(n6:Int)(H:LHeap)
(h:Dc (n0<n6) ((0<=n0/\(n0<((l4:Nat):Int)/\(Option.isSome a3)=true))/\(Inv [] H0 [] H->∃x9,loadT cfg.P H 149 (Lk (LAddr.id (adr a3)) (LAddr.ver (adr a3)) ((LAddr.off (adr a3))+((Int.toNat n0)*3)))=some (CellC.lv x9)/\(NX H fun i10 H11=>PX [i10] H11 fun H12=>Cd (x9.row==n1) (Cd (x9.col==n2) (R0 H0 [Sk i10 (CellC.cs x9) 149] H12 R (.str x9.text)) (∀d13,GoesT cfg 57 R [] H0 [] (L57t_0 d13 (lwrap .i64 (n0+1)) n1 n2 a3 l4 c5 n6) (loopAt cfg 57 0) H12)) (∀d14,GoesT cfg 57 R [] H0 [] (L57t_0 d14 (lwrap .i64 (n0+1)) n1 n2 a3 l4 c5 n6) (loopAt cfg 57 0) H12)))) (R0 H0 [] H R (.str []))):
 GoesT cfg 57 R [] H0 [] (L57t_0 d n0 n1 n2 a3 l4 c5 n6) (loopAt cfg 57 0) H:=seg_wt (k:=(.go 5 (.cases 25 (.go 6 (.op (.tuple []) (.facts (.op (.cust CellC CellC.lv) (.boxP (.putP (.go 8 (.cases 32 (.go 6 (.cases 37 (.go 7 (.facts .ret)) (.go 8 (.stop [24,2,3,22,23] 0)))) (.go 14 (.stop [24,2,3,22,23] 0)))))))))) (.go 6 (.facts .ret))))) (by kernel_rfl) h
theorem e57t(R:RR)(x0:BookC)(s1:List UInt8)(n2:Int)(n3:Int)(H:LHeap)
(h:NX H fun i4 H5=>Inv [] H [Sk i4 (BookC.cs x0) 48] H5->CL 91 [BookC.lv x0,.str s1] H5 (.int .i64) fun S6=>∀n7 H8,S6 (I6 n7) H8->Dc (n7<0) (R0 H [Sk i4 (BookC.cs x0) 48] H8 R (.str [])) ((0<=n7/\(n7<((x0.sheetsL:Nat):Int)/\(Option.isSome x0.sheetsA)=true))/\(Inv [] H [Sk i4 (BookC.cs x0) 48] H8->∃a11 l12 c13,loadT cfg.P H8 49 (Lk (LAddr.id (adr x0.sheetsA)) (LAddr.ver (adr x0.sheetsA)) (((LAddr.off (adr x0.sheetsA))+((Int.toNat n7)*2))+1))=some (.slice a11 l12 c13)/\(∀d14,GoesT cfg 57 R [] H [] (L57t_0 d14 0 n2 n3 a11 l12 c13 ((l12:Nat):Int)) (loopAt cfg 57 0) H8)))):
 CallL cfg 57 [BookC.lv x0,.str s1,I6 n2,I6 n3] H R:=call_wt0 (k:=(.go 2 (.boxP (.go 6 (.facts (.call (.int .i64) (.go 8 (.cases 16 (.go 5 (.facts .ret)) (.go 8 (.op (.tuple []) (.go 1 (.facts (.op .slice (.go 5 (.stop [24,2,3,22,23] 0))))))))))))))) (by kernel_rfl) h
theorem g92t_0(R:RR)(H0:LHeap)(d:Nat->LV)(n0:Int)(n1:Int)(a2:Option LAddr)(l3:Nat)(c4:Cap)(n5:Int)(H:LHeap)
(h:Dc (n0<n5) ((0<=n0/\(n0<((l3:Nat):Int)/\(Option.isSome a2)=true))/\(Inv [] H0 [] H->∃x8,loadT cfg.P H 149 (Lk (LAddr.id (adr a2)) (LAddr.ver (adr a2)) ((LAddr.off (adr a2))+((Int.toNat n0)*3)))=some (CellC.lv x8)/\(NX H fun i9 H10=>PX [i9] H10 fun H11=>Inv [] H0 [Sk i9 (CellC.cs x8) 149] H11->CL 121 [I6 x8.row,I6 x8.col] H11 .bool fun S12=>∀b13 H14,S12 (.bool b13) H14->Cd (!b13) (R0 H0 [Sk i9 (CellC.cs x8) 149] H14 R (.bool false)) (Cd (x8.text==[]) (R0 H0 [Sk i9 (CellC.cs x8) 149] H14 R (.bool false)) (Inv [] H0 [Sk i9 (CellC.cs x8) 149] H14->CL 178 [I6 x8.row,I6 x8.col] H14 (.int .i64) fun S15=>∀n16 H17,S15 (I6 n16) H17->Dc (n16<=n1) (R0 H0 [Sk i9 (CellC.cs x8) 149] H17 R (.bool false)) (Inv [] H0 [Sk i9 (CellC.cs x8) 149] H17->CL 178 [I6 x8.row,I6 x8.col] H17 (.int .i64) fun S18=>∀n19 H20,S18 (I6 n19) H20->∀d21,GoesT cfg 92 R [] H0 [] (L92t_0 d21 (lwrap .i64 (n0+1)) n19 a2 l3 c4 n5) (loopAt cfg 92 0) H20)))))) (R0 H0 [] H R (.bool true))):
 GoesT cfg 92 R [] H0 [] (L92t_0 d n0 n1 a2 l3 c4 n5) (loopAt cfg 92 0) H:=seg_wt (k:=(.go 5 (.cases 9 (.go 6 (.op (.tuple []) (.facts (.op (.cust CellC CellC.lv) (.boxP (.putP (.go 8 (.facts (.call .bool (.go 2 (.cases 18 (.go 19 (.facts .ret)) (.go 5 (.cases 23 (.go 14 (.facts .ret)) (.go 4 (.facts (.call (.int .i64) (.go 4 (.cases 31 (.go 5 (.facts .ret)) (.go 7 (.facts (.call (.int .i64) (.go 8 (.stop [8,3,6,7] 0))))))))))))))))))))))) (.go 6 (.facts .ret))))) (by kernel_rfl) h
theorem e92t(R:RR)(a0:Option LAddr)(l1:Nat)(c2:Cap)(H:LHeap)
(h:∀d3,GoesT cfg 92 R [] H [] (L92t_0 d3 0 0 a0 l1 c2 ((l1:Nat):Int)) (loopAt cfg 92 0) H):
 CallL cfg 92 [.slice a0 l1 c2] H R:=call_wt0 (k:=(.go 17 (.stop [8,3,6,7] 0))) (by kernel_rfl) h
theorem g93t_0(R:RR)(H0:LHeap)(d:Nat->LV)(n0:Int)(a1:Option LAddr)(l2:Nat)(c3:Cap)(n4:Int)(H:LHeap)
(h:Dc (n0<n4) ((0<=n0/\(n0<((l2:Nat):Int)/\(Option.isSome a1)=true))/\(Inv [] H0 [] H->∃x7,loadT cfg.P H 149 (Lk (LAddr.id (adr a1)) (LAddr.ver (adr a1)) ((LAddr.off (adr a1))+((Int.toNat n0)*3)))=some (CellC.lv x7)/\(NX H fun i8 H9=>PX [i8] H9 fun H10=>Inv [] H0 [Sk i8 (CellC.cs x7) 149] H10->CL 122 [.str x7.text] H10 (.int .i64) fun S11=>∀n12 H13,S11 (I6 n12) H13->Cd (n12 !=0) (R0 H0 [Sk i8 (CellC.cs x7) 149] H13 R (I6 n12)) (∀d14,GoesT cfg 93 R [] H0 [] (L93t_0 d14 (lwrap .i64 (n0+1)) a1 l2 c3 n4) (loopAt cfg 93 0) H13)))) (R0 H0 [] H R (I6 0))):
 GoesT cfg 93 R [] H0 [] (L93t_0 d n0 a1 l2 c3 n4) (loopAt cfg 93 0) H:=seg_wt (k:=(.go 5 (.cases 9 (.go 6 (.op (.tuple []) (.facts (.op (.cust CellC CellC.lv) (.boxP (.putP (.go 5 (.facts (.call (.int .i64) (.go 7 (.cases 16 (.go 6 (.facts .ret)) (.go 8 (.stop [8,6,7] 0))))))))))))) (.go 6 (.facts .ret))))) (by kernel_rfl) h
theorem e93t(R:RR)(a0:Option LAddr)(l1:Nat)(c2:Cap)(H:LHeap)
(h:∀d3,GoesT cfg 93 R [] H [] (L93t_0 d3 0 a0 l1 c2 ((l1:Nat):Int)) (loopAt cfg 93 0) H):
 CallL cfg 93 [.slice a0 l1 c2] H R:=call_wt0 (k:=(.go 13 (.stop [8,6,7] 0))) (by kernel_rfl) h
theorem e116t(R:RR)(n0:Int)(x1:SheetC)(H:LHeap)
(h:NX H fun i2 H3=>Inv [] H [Sk i2 (SheetC.cs x1) 142] H3->CL 90 [.str x1.name] H3 .bool fun S4=>∀b5 H6,S4 (.bool b5) H6->Inv [] H [Sk i2 (SheetC.cs x1) 142] H6->CL 117 [.bool b5,I6 8] H6 (.int .i64) fun S7=>∀n8 H9,S7 (I6 n8) H9->R0 H [Sk i2 (SheetC.cs x1) 142] H9 R (I6 n8)):
 CallL cfg 116 [I6 n0,SheetC.lv x1] H R:=call_wt0 (k:=(.go 2 (.boxP (.go 6 (.facts (.call .bool (.facts (.call (.int .i64) (.go 2 (.facts .ret)))))))))) (by kernel_rfl) h
theorem e119t(R:RR)(n0:Int)(x1:SheetC)(H:LHeap)
(h:NX H fun i2 H3=>Inv [] H [Sk i2 (SheetC.cs x1) 142] H3->CL 92 [.slice x1.cellsA x1.cellsL x1.cellsQ] H3 .bool fun S4=>∀b5 H6,S4 (.bool b5) H6->Inv [] H [Sk i2 (SheetC.cs x1) 142] H6->CL 117 [.bool b5,I6 9] H6 (.int .i64) fun S7=>∀n8 H9,S7 (I6 n8) H9->R0 H [Sk i2 (SheetC.cs x1) 142] H9 R (I6 n8)):
 CallL cfg 119 [I6 n0,SheetC.lv x1] H R:=call_wt0 (k:=(.go 2 (.boxP (.go 6 (.facts (.call .bool (.facts (.call (.int .i64) (.go 2 (.facts .ret)))))))))) (by kernel_rfl) h
theorem e120t(R:RR)(n0:Int)(x1:SheetC)(H:LHeap)
(h:NX H fun i2 H3=>Inv [] H [Sk i2 (SheetC.cs x1) 142] H3->CL 93 [.slice x1.cellsA x1.cellsL x1.cellsQ] H3 (.int .i64) fun S4=>∀n5 H6,S4 (I6 n5) H6->R0 H [Sk i2 (SheetC.cs x1) 142] H6 R (I6 n5)):
 CallL cfg 120 [I6 n0,SheetC.lv x1] H R:=call_wt0 (k:=(.go 2 (.boxP (.go 6 (.facts (.call (.int .i64) (.go 2 (.facts .ret)))))))) (by kernel_rfl) h
theorem e118t(R:RR)(i:Int)(x:SheetC)(p:LAddr)(H:LHeap)
(h:NX H fun i0 H1=>Inv [] H [Sk i0 (SheetC.cs x) 142] H1->∃x3,loadT cfg.P H1 48 p=some (BookC.lv x3)/\(Inv [] H [Sk i0 (SheetC.cs x) 142] H1->CL 91 [BookC.lv x3,.str x.name] H1 (.int .i64) fun S4=>∀n5 H6,S4 (I6 n5) H6->Inv [] H [Sk i0 (SheetC.cs x) 142] H6->CL 117 [.bool (n5==i),I6 7] H6 (.int .i64) fun S7=>∀n8 H9,S7 (I6 n8) H9->R0 H [Sk i0 (SheetC.cs x) 142] H9 R (I6 n8))):
 CallL cfg 118 [I6 i,SheetC.lv x,.ptr (some p)] H R:=call_wt0 (k:=(.go 2 (.boxP (.go 4 (.facts (.op (.cust BookC BookC.lv) (.go 2 (.facts (.call (.int .i64) (.go 2 (.facts (.call (.int .i64) (.go 2 (.facts .ret)))))))))))))) (by kernel_rfl) h
theorem e179t(R:RR)(a0:Option LAddr)(l1:Nat)(c2:Cap)(H:LHeap)
(h:Cd (Option.isNone a0) (R0 H [] H R (.slice none 0 (.exact 0))) (∀H4,H4=(LHeap.push H (LObj.cells [] 152 0 0 .none false true))->Inv [] H [] H4->∃Y a5 l6 c7 H8,(appendL cfg.P H4 [46,46] [.slice (some (Lk (LHeap.next H) 0 0)) 0 (.exact 0),.slice a0 l1 c2]=some ((.slice a5 l6 c7),H8)/\(PresX Y H4 H8/\(∀i∈Y,okId [] H [] i)))/\(R0 H [] H8 R (.slice a5 l6 c7)))):
 CallL cfg 179 [.slice a0 l1 c2] H R:=call_wt0 (k:=(.go 8 (.op .bool (.go 1 (.cases 4 (.go 5 (.facts .ret)) (.go 4 (.row (.go 1 (.facts (.app (.go 2 (.facts .ret)))))))))))) (by kernel_rfl) h
theorem g30t_0(R:RR)(H0:LHeap)(d:Nat->LV)(n0:Int)(n1:Int)(a2:Option LAddr)(l3:Nat)(c4:Cap)(n5:Int)(i6:Nat)(x7:BookC)(H:LHeap)
(h:Dc (n0<n5) ((0<=n0/\(n0<((l3:Nat):Int)/\(Option.isSome a2)=true))/\(Inv [] H0 [Sk i6 (BookC.cs x7) 48] H->∃x10,loadT cfg.P H 142 (Lk (LAddr.id (adr a2)) (LAddr.ver (adr a2)) ((LAddr.off (adr a2))+((Int.toNat n0)*2)))=some (SheetC.lv x10)/\(NX H fun i11 H12=>PX [i11] H12 fun H13=>∀d14,GoesT cfg 30 R [] H0 [Sk i6 (BookC.cs x7) 48] (L30t_0 d14 (lwrap .i64 (n0+1)) (lwrap .i64 (n1+(lwrap .i64 (1+((x10.cellsL:Nat):Int))))) a2 l3 c4 n5) (loopAt cfg 30 0) H13))) (Dc (n1<1000) (R0 H0 [Sk i6 (BookC.cs x7) 48] H R (.bool (decide ((lwrap .i64 (((x7.namesL:Nat):Int)+((x7.linksL:Nat):Int)))<300)))) (R0 H0 [Sk i6 (BookC.cs x7) 48] H R (.bool false)))):
 GoesT cfg 30 R [] H0 [Sk i6 (BookC.cs x7) 48] (L30t_0 d n0 n1 a2 l3 c4 n5) (loopAt cfg 30 0) H:=seg_wt (k:=(.go 5 (.cases 10 (.go 6 (.op (.tuple []) (.facts (.op (.cust SheetC SheetC.lv) (.boxP (.putP (.go 16 (.stop [9,3,7,1,8] 1)))))))) (.go 7 (.cases 22 (.go 11 (.facts .ret)) (.go 11 (.facts .ret))))))) (by kernel_rfl) h
theorem e30t(R:RR)(x0:BookC)(H:LHeap)
(h:NX H fun i1 H2=>∀d3,GoesT cfg 30 R [] H [Sk i1 (BookC.cs x0) 48] (L30t_0 d3 0 0 x0.sheetsA x0.sheetsL x0.sheetsQ ((x0.sheetsL:Nat):Int)) (loopAt cfg 30 0) H2):
 CallL cfg 30 [BookC.lv x0] H R:=call_wt0 (k:=(.go 2 (.boxP (.go 16 (.stop [9,3,7,1,8] 1))))) (by kernel_rfl) h
def L123b_0(d:Nat->LV)(n0:Int)(n1:Int)(a2:Option LAddr)(l3:Nat)(c4:Cap)(f5:LAddr)(f6:LAddr):List SV:=[.lv (.slice a2 l3 c4),.lv (.func (Fn.func 124) [] [.ptr (some f5),.ptr (some f6)])]++dl d 2 3++[.lv (I6 n1),.lv (I6 n0)]++dl d 7 35
theorem g123b_0(R:RR)(X:List Nat)(H0:LHeap)(d:Nat->LV)(n0:Int)(n1:Int)(a2:Option LAddr)(l3:Nat)(c4:Cap)(f5:LAddr)(f6:LAddr)(H:LHeap)
(h:Dc (n0<((l3:Nat):Int)) ((0<=n0/\(n0<((l3:Nat):Int)/\(Option.isSome a2)=true))/\(Inv X H0 [] H->∃x9,loadT cfg.P H 149 (Lk (LAddr.id (adr a2)) (LAddr.ver (adr a2)) ((LAddr.off (adr a2))+((Int.toNat n0)*3)))=some (CellC.lv x9)/\(NX H fun i10 H11=>PX [i10] H11 fun H12=>Inv X H0 [Sk i10 (CellC.cs x9) 149] H12->CL 124 [CellC.lv x9,.ptr (some f5),.ptr (some f6)] H12 .bool fun S13=>∀b14 H15,S13 (.bool b14) H15->Cd (!b14) ((0<=n1/\(n1<((l3:Nat):Int)/\(Option.isSome a2)=true))/\(Inv X H0 [Sk i10 (CellC.cs x9) 149] H15->∃H17,(storeT cfg.P H15 149 (Lk (LAddr.id (adr a2)) (LAddr.ver (adr a2)) ((LAddr.off (adr a2))+((Int.toNat n1)*3))) (CellC.lv x9)=some H17/\okId X H0 [Sk i10 (CellC.cs x9) 149] (LAddr.id (adr a2)))/\(∀d18,GoesT cfg 123 R X H0 [] (L123b_0 d18 (lwrap .i64 (n0+1)) (lwrap .i64 (n1+1)) a2 l3 c4 f5 f6) (loopAt cfg 123 0) H17))) (∀d19,GoesT cfg 123 R X H0 [] (L123b_0 d19 (lwrap .i64 (n0+1)) n1 a2 l3 c4 f5 f6) (loopAt cfg 123 0) H15)))) (∃a21 l22 c23,(sliceL cfg.P 49 (.slice a2 l3 c4) (some (I6 n1)) none none)=(some (.slice a21 l22 c23))/\(Inv X H0 [] H->∃Y H24,(opB cfg H Go.Builtin.clear [49] [.slice a21 l22 c23]=some [(.value (.tuple []),H24)]/\(PresX Y H H24/\(∀i∈Y,okId X H0 [] i)))/\(∃a26 l27 c28,(sliceL cfg.P 49 (.slice a2 l3 c4) none (some (I6 n1)) none)=(some (.slice a26 l27 c28))/\(RX X H0 [] H24 R (.slice a26 l27 c28)))))):
 GoesT cfg 123 R X H0 [] (L123b_0 d n0 n1 a2 l3 c4 f5 f6) (loopAt cfg 123 0) H:=seg_wt (k:=(.go 8 (.cases 19 (.go 8 (.op (.tuple []) (.facts (.op (.cust CellC CellC.lv) (.boxP (.putP (.go 5 (.facts (.call .bool (.go 2 (.cases 29 (.go 6 (.op (.tuple []) (.facts (.store (.go 13 (.stop [6,5,0,1] 0)))))) (.go 9 (.stop [6,5,0,1] 0))))))))))))) (.go 6 (.op .slice (.facts (.any (.tuple []) (.go 5 (.op .slice (.go 2 (.facts .ret))))))))))) (by kernel_rfl) h
theorem e123b(R:RR)(X:List Nat)(a:(Option LAddr))(l:Nat)(c:Cap)(p:LAddr)(q:LAddr)(H:LHeap)
(h:Inv X H [] H->CL 125 [.slice a l c,.func (Fn.func 124) [] [.ptr (some p),.ptr (some q)]] H (.int .i64) fun S0=>∀n1 H2,S0 (I6 n1) H2->Cd (n1==(- 1:Int)) (RX X H [] H2 R (.slice a l c)) (∀d3,GoesT cfg 123 R X H [] (L123b_0 d3 (lwrap .i64 (n1+1)) n1 a l c p q) (loopAt cfg 123 0) H2)):
 CallL cfg 123 [.slice a l c,.func (Fn.func 124) [] [.ptr (some p),.ptr (some q)]] H R:=call_wtX (X:=X) (k:=(.go 8 (.facts (.call (.int .i64) (.go 8 (.cases 12 (.go 6 (.facts .ret)) (.go 11 (.stop [6,5,0,1] 0)))))))) (by kernel_rfl) h
theorem e127e(R:RR)(X:List Nat)(a:(Option LAddr))(n:Nat)(c:Nat)(i:Int)(b:LAddr)(H:LHeap)
(h:∃a1 l2 c3,(sliceL cfg.P 49 (.slice a n (.exact c)) (some (I6 i)) none none)=(some (.slice a1 l2 c3))/\(Cd (i==((n:Nat):Int)) (Inv X H [] H->∃Y a4 l5 c6 H7,(appendL cfg.P H [49,49] [.slice a n (.exact c),.slice (some b) 1 (.exact 1)]=some ((.slice a4 l5 c6),H7)/\(PresX Y H H7/\(∀i∈Y,okId X H [] i)))/\(RX X H [] H7 R (.slice a4 l5 c6))) (Dc ((lwrap .i64 (((n:Nat):Int)+1))>((c:Nat):Int)) (∃a9 l10 c11,(sliceL cfg.P 49 (.slice a n (.exact c)) none (some (I6 i)) none)=(some (.slice a9 l10 c11))/\(Inv X H [] H->∃Y a12 l13 c14 H15,(appendL cfg.P H [49,3] [.slice a9 l10 c11,I6 (lwrap .i64 ((lwrap .i64 (((n:Nat):Int)+1))-i))]=some ((.slice a12 l13 c14),H15)/\(PresX Y H H15/\(∀i∈Y,okId X H [] i)))/\(∃a17 l18 c19,(sliceL cfg.P 49 (.slice a12 l13 c14) (some (I6 i)) none none)=(some (.slice a17 l18 c19))/\(Inv X H [] H15->∃n20 Y H21,(opB cfg H15 Go.Builtin.copy [49,49] [.slice a17 l18 c19,.slice (some b) 1 (.exact 1)]=some [(.value (I6 n20),H21)]/\(PresX Y H15 H21/\(∀i∈Y,okId X H [] i)))/\(∃a23 l24 c25,(sliceL cfg.P 49 (.slice a12 l13 c14) (some (I6 (lwrap .i64 (i+1)))) none none)=(some (.slice a23 l24 c25))/\(∃a27 l28 c29,(sliceL cfg.P 49 (.slice a n (.exact c)) (some (I6 i)) none none)=(some (.slice a27 l28 c29))/\(Inv X H [] H21->∃n31 Y H32,(opB cfg H21 Go.Builtin.copy [49,49] [.slice a23 l24 c25,.slice a27 l28 c29]=some [(.value (I6 n31),H32)]/\(PresX Y H21 H32/\(∀i∈Y,okId X H [] i)))/\(RX X H [] H32 R (.slice a12 l13 c14))))))))) (∃a35 l36 c37,(sliceL cfg.P 49 (.slice a n (.exact c)) none (some (I6 (lwrap .i64 (((n:Nat):Int)+1)))) none)=(some (.slice a35 l36 c37))/\(∃a39 l40 c41,(sliceL cfg.P 49 (.slice a35 l36 c37) (some (I6 (lwrap .i64 (i+1)))) none none)=(some (.slice a39 l40 c41))/\(∃b43 H44,(extL cfg.P H (Ext.overlaps 49) [.slice (some b) 1 (.exact 1),.slice a39 l40 c41])=(some (Prod.mk (.bool b43) H44))/\(Cd (!b43) (∃a46 l47 c48,(sliceL cfg.P 49 (.slice a35 l36 c37) (some (I6 (lwrap .i64 (i+1)))) none none)=(some (.slice a46 l47 c48))/\(∃a50 l51 c52,(sliceL cfg.P 49 (.slice a35 l36 c37) (some (I6 i)) none none)=(some (.slice a50 l51 c52))/\(Inv X H [] H->∃n54 Y H55,(opB cfg H Go.Builtin.copy [49,49] [.slice a46 l47 c48,.slice a50 l51 c52]=some [(.value (I6 n54),H55)]/\(PresX Y H H55/\(∀i∈Y,okId X H [] i)))/\(∃a58 l59 c60,(sliceL cfg.P 49 (.slice a35 l36 c37) (some (I6 i)) none none)=(some (.slice a58 l59 c60))/\(Inv X H [] H55->∃n61 Y H62,(opB cfg H55 Go.Builtin.copy [49,49] [.slice a58 l59 c60,.slice (some b) 1 (.exact 1)]=some [(.value (I6 n61),H62)]/\(PresX Y H55 H62/\(∀i∈Y,okId X H [] i)))/\(RX X H [] H62 R (.slice a35 l36 c37))))))) (∃a64 l65 c66,(sliceL cfg.P 49 (.slice a35 l36 c37) (some (I6 ((n:Nat):Int))) none none)=(some (.slice a64 l65 c66))/\(Inv X H [] H->∃n67 Y H68,(opB cfg H Go.Builtin.copy [49,49] [.slice a64 l65 c66,.slice (some b) 1 (.exact 1)]=some [(.value (I6 n67),H68)]/\(PresX Y H H68/\(∀i∈Y,okId X H [] i)))/\(∃a70 l71 c72,(sliceL cfg.P 49 (.slice a35 l36 c37) (some (I6 i)) none none)=(some (.slice a70 l71 c72))/\(Inv X H [] H68->CL 208 [.slice a70 l71 c72,I6 1] H68 (.tuple []) fun S73=>∀H74,S73 (.tuple []) H74->RX X H [] H74 R (.slice a35 l36 c37)))))))))))):
 CallL cfg 127 [.slice a n (.exact c),I6 i,.slice (some b) 1 (.exact 1)] H R:=call_wtX (X:=X) (k:=(.go 8 (.op .slice (.go 28 (.cases 22 (.go 5 (.facts (.app (.go 2 (.facts .ret))))) (.go 12 (.cases 31 (.go 5 (.op .slice (.go 5 (.facts (.app (.go 6 (.op .slice (.go 1 (.facts (.any (.int .i64) (.go 7 (.op .slice (.go 2 (.op .slice (.check (.facts (.any (.int .i64) (.check (.go 6 (.facts .ret)))))))))))))))))))) (.go 8 (.op .slice (.go 10 (.op .slice (.op .bool (.go 2 (.cases 68 (.go 7 (.op .slice (.go 2 (.op .slice (.check (.facts (.any (.int .i64) (.check (.go 5 (.op .slice (.go 1 (.facts (.any (.int .i64) (.go 6 (.facts .ret))))))))))))))) (.go 6 (.op .slice (.go 1 (.facts (.any (.int .i64) (.go 5 (.op .slice (.go 1 (.facts (.call (.tuple []) (.go 6 (.facts .ret)))))))))))))))))))))))))) (by kernel_rfl) h
theorem e95e(R:RR)(X:List Nat)(a:(Option LAddr))(n:Nat)(c:Nat)(i:Int)(b:LAddr)(H:LHeap)
(h:∃a1 l2 c3,(sliceL cfg.P 45 (.slice a n (.exact c)) (some (I6 i)) none none)=(some (.slice a1 l2 c3))/\(Cd (i==((n:Nat):Int)) (Inv X H [] H->∃Y a4 l5 c6 H7,(appendL cfg.P H [45,45] [.slice a n (.exact c),.slice (some b) 1 (.exact 1)]=some ((.slice a4 l5 c6),H7)/\(PresX Y H H7/\(∀i∈Y,okId X H [] i)))/\(RX X H [] H7 R (.slice a4 l5 c6))) (Dc ((lwrap .i64 (((n:Nat):Int)+1))>((c:Nat):Int)) (∃a9 l10 c11,(sliceL cfg.P 45 (.slice a n (.exact c)) none (some (I6 i)) none)=(some (.slice a9 l10 c11))/\(Inv X H [] H->∃Y a12 l13 c14 H15,(appendL cfg.P H [45,3] [.slice a9 l10 c11,I6 (lwrap .i64 ((lwrap .i64 (((n:Nat):Int)+1))-i))]=some ((.slice a12 l13 c14),H15)/\(PresX Y H H15/\(∀i∈Y,okId X H [] i)))/\(∃a17 l18 c19,(sliceL cfg.P 45 (.slice a12 l13 c14) (some (I6 i)) none none)=(some (.slice a17 l18 c19))/\(Inv X H [] H15->∃n20 Y H21,(opB cfg H15 Go.Builtin.copy [45,45] [.slice a17 l18 c19,.slice (some b) 1 (.exact 1)]=some [(.value (I6 n20),H21)]/\(PresX Y H15 H21/\(∀i∈Y,okId X H [] i)))/\(∃a23 l24 c25,(sliceL cfg.P 45 (.slice a12 l13 c14) (some (I6 (lwrap .i64 (i+1)))) none none)=(some (.slice a23 l24 c25))/\(∃a27 l28 c29,(sliceL cfg.P 45 (.slice a n (.exact c)) (some (I6 i)) none none)=(some (.slice a27 l28 c29))/\(Inv X H [] H21->∃n31 Y H32,(opB cfg H21 Go.Builtin.copy [45,45] [.slice a23 l24 c25,.slice a27 l28 c29]=some [(.value (I6 n31),H32)]/\(PresX Y H21 H32/\(∀i∈Y,okId X H [] i)))/\(RX X H [] H32 R (.slice a12 l13 c14))))))))) (∃a35 l36 c37,(sliceL cfg.P 45 (.slice a n (.exact c)) none (some (I6 (lwrap .i64 (((n:Nat):Int)+1)))) none)=(some (.slice a35 l36 c37))/\(∃a39 l40 c41,(sliceL cfg.P 45 (.slice a35 l36 c37) (some (I6 (lwrap .i64 (i+1)))) none none)=(some (.slice a39 l40 c41))/\(∃b43 H44,(extL cfg.P H (Ext.overlaps 45) [.slice (some b) 1 (.exact 1),.slice a39 l40 c41])=(some (Prod.mk (.bool b43) H44))/\(Cd (!b43) (∃a46 l47 c48,(sliceL cfg.P 45 (.slice a35 l36 c37) (some (I6 (lwrap .i64 (i+1)))) none none)=(some (.slice a46 l47 c48))/\(∃a50 l51 c52,(sliceL cfg.P 45 (.slice a35 l36 c37) (some (I6 i)) none none)=(some (.slice a50 l51 c52))/\(Inv X H [] H->∃n54 Y H55,(opB cfg H Go.Builtin.copy [45,45] [.slice a46 l47 c48,.slice a50 l51 c52]=some [(.value (I6 n54),H55)]/\(PresX Y H H55/\(∀i∈Y,okId X H [] i)))/\(∃a58 l59 c60,(sliceL cfg.P 45 (.slice a35 l36 c37) (some (I6 i)) none none)=(some (.slice a58 l59 c60))/\(Inv X H [] H55->∃n61 Y H62,(opB cfg H55 Go.Builtin.copy [45,45] [.slice a58 l59 c60,.slice (some b) 1 (.exact 1)]=some [(.value (I6 n61),H62)]/\(PresX Y H55 H62/\(∀i∈Y,okId X H [] i)))/\(RX X H [] H62 R (.slice a35 l36 c37))))))) (∃a64 l65 c66,(sliceL cfg.P 45 (.slice a35 l36 c37) (some (I6 ((n:Nat):Int))) none none)=(some (.slice a64 l65 c66))/\(Inv X H [] H->∃n67 Y H68,(opB cfg H Go.Builtin.copy [45,45] [.slice a64 l65 c66,.slice (some b) 1 (.exact 1)]=some [(.value (I6 n67),H68)]/\(PresX Y H H68/\(∀i∈Y,okId X H [] i)))/\(∃a70 l71 c72,(sliceL cfg.P 45 (.slice a35 l36 c37) (some (I6 i)) none none)=(some (.slice a70 l71 c72))/\(Inv X H [] H68->CL 181 [.slice a70 l71 c72,I6 1] H68 (.tuple []) fun S73=>∀H74,S73 (.tuple []) H74->RX X H [] H74 R (.slice a35 l36 c37)))))))))))):
 CallL cfg 95 [.slice a n (.exact c),I6 i,.slice (some b) 1 (.exact 1)] H R:=call_wtX (X:=X) (k:=(.go 8 (.op .slice (.go 28 (.cases 22 (.go 5 (.facts (.app (.go 2 (.facts .ret))))) (.go 12 (.cases 31 (.go 5 (.op .slice (.go 5 (.facts (.app (.go 6 (.op .slice (.go 1 (.facts (.any (.int .i64) (.go 7 (.op .slice (.go 2 (.op .slice (.check (.facts (.any (.int .i64) (.check (.go 6 (.facts .ret)))))))))))))))))))) (.go 8 (.op .slice (.go 10 (.op .slice (.op .bool (.go 2 (.cases 68 (.go 7 (.op .slice (.go 2 (.op .slice (.check (.facts (.any (.int .i64) (.check (.go 5 (.op .slice (.go 1 (.facts (.any (.int .i64) (.go 6 (.facts .ret))))))))))))))) (.go 6 (.op .slice (.go 1 (.facts (.any (.int .i64) (.go 5 (.op .slice (.go 1 (.facts (.call (.tuple []) (.go 6 (.facts .ret)))))))))))))))))))))))))) (by kernel_rfl) h
theorem e102t(R:RR)(X:List Nat)(a0:Option LAddr)(l1:Nat)(c2:Cap)(n3:Int)(n4:Int)(H:LHeap)
(h:∃a6 l7 c8,(sliceL cfg.P 45 (.slice a0 l1 c2) (some (I6 n3)) (some (I6 n4)) (some (I6 ((l1:Nat):Int))))=(some (.slice a6 l7 c8))/\(Cd (n3==n4) (RX X H [] H R (.slice a0 l1 c2)) (∃a10 l11 c12,(sliceL cfg.P 45 (.slice a0 l1 c2) none (some (I6 n3)) none)=(some (.slice a10 l11 c12))/\(∃a14 l15 c16,(sliceL cfg.P 45 (.slice a0 l1 c2) (some (I6 n4)) none none)=(some (.slice a14 l15 c16))/\(Inv X H [] H->∃Y a18 l19 c20 H21,(appendL cfg.P H [45,45] [.slice a10 l11 c12,.slice a14 l15 c16]=some ((.slice a18 l19 c20),H21)/\(PresX Y H H21/\(∀i∈Y,okId X H [] i)))/\(∃a24 l25 c26,(sliceL cfg.P 45 (.slice a18 l19 c20) (some (I6 ((l19:Nat):Int))) (some (I6 ((l1:Nat):Int))) none)=(some (.slice a24 l25 c26))/\(Inv X H [] H21->∃Y H27,(opB cfg H21 Go.Builtin.clear [45] [.slice a24 l25 c26]=some [(.value (.tuple []),H27)]/\(PresX Y H21 H27/\(∀i∈Y,okId X H [] i)))/\(RX X H [] H27 R (.slice a18 l19 c20))))))))):
 CallL cfg 102 [.slice a0 l1 c2,I6 n3,I6 n4] H R:=call_wtX (X:=X) (k:=(.go 11 (.op .slice (.go 8 (.cases 16 (.go 6 (.facts .ret)) (.go 12 (.op .slice (.go 2 (.op .slice (.check (.facts (.app (.go 1 (.check (.go 7 (.op .slice (.facts (.any (.tuple []) (.go 6 (.facts .ret)))))))))))))))))))) (by kernel_rfl) h
def nilCell:CellC:=⟨0,0,[]⟩
def idxK(p:CellC->Bool):List CellC->Nat->Int
 |[],_=> -1
 |x::l,i=>if p x then i else idxK p l (i+1)
theorem idxK_neg{p:CellC->Bool}:∀{l:List CellC} {i:Nat},idxK p l i= -1↔∀x∈l,p x=false
 |[],i=>by simp [idxK]
 |x::l,i=>by
  unfold idxK;by_cases h:p x=true
  ·rw [if_pos h];simp [h]
  ·rw [if_neg h,idxK_neg];simp [h]
theorem idxK_at{p:CellC->Bool}:∀{l:List CellC} {i:Nat},idxK p l i≠-1->∃j x,l[j]? =some x/\p x=true/\idxK p l i=((i+j:Nat):Int)/\∀y∈l.take j,p y=false
 |[],i,h=>absurd rfl h
 |x::l,i,h=>by
  unfold idxK at h |-;by_cases hp:p x=true
  ·rw [if_pos hp] at h |-;exact ⟨0,x,rfl,hp,rfl,fun y hy=>by simp at hy⟩
  ·rw [if_neg hp] at h |-;obtain ⟨j,y,h1,h2,h3,h4⟩:=idxK_at h;refine ⟨j+1,y,by simpa using h1,h2,by rw [h3];omega,fun z hz=> ?_⟩;rw [List.take_succ_cons] at hz;rcases List.mem_cons.1 hz with rfl |hz
   ·simpa using hp
   ·exact h4 z hz
def cellsK(l:List CellC):List LV:=l.flatMap CellC.cs
theorem cellsK_len:∀l:List CellC,(cellsK l).length=l.length*3
 |[]=>rfl
 |x::l=>by
  have:=cellsK_len l;unfold cellsK at this |-;rw [List.flatMap_cons,List.length_append,this,List.length_cons,Nat.add_mul];simp only [CellC.cs,List.length_cons,List.length_nil];omega
theorem cellsK_app(l m:List CellC):cellsK (l++m)=cellsK l++cellsK m:=by unfold cellsK;exact List.flatMap_append
theorem cellsK_one(x:CellC):cellsK [x]=x.cs:=by simp [cellsK]
theorem cellsK_all:∀l:List CellC,allCells (cellsK l)=true
 |[]=>rfl
 |x::l=>by
  have:=cellsK_all l;unfold cellsK at this |-;rw [List.flatMap_cons];exact allCells_app rfl this
theorem cellsK_split{l:List CellC}{i:Nat}{x:CellC}(h:l[i]? =some x):cellsK l=cellsK (l.take i)++(x.cs++cellsK (l.drop (i+1)))/\(cellsK (l.take i)).length=i*3:=by
 obtain ⟨h1,h2⟩:=List.getElem?_eq_some_iff.1 h;refine ⟨?_,by rw [cellsK_len,List.length_take,Nat.min_eq_left (Nat.le_of_lt h1)]⟩;rw [<-cellsK_one,<-cellsK_app,<-cellsK_app,List.singleton_append,<-h2,<-List.drop_eq_getElem_cons h1,List.take_append_drop]
structure KAt (H:LHeap) (a:Option LAddr) (n:Nat) (q:Cap) (l:List CellC):Prop where
 len:l.length=n
 small:n<=1000
 cells:firstCellsL H 3 n (.slice a n q)=some (cellsK l)
 id:∀ad,a=some ad->ad.id<H.next
theorem KAt.load{H:LHeap}{ad:LAddr}{n:Nat}{q:Cap}{l:List CellC}(h:KAt H (some ad) n q l):loadN H ad (n*3)=some (cellsK l):=by
 have:=h.cells;simp only [firstCellsL,Nat.ble_eq,Nat.le_refl,if_true] at this;exact this
theorem KAt.on{H H':LHeap}{a:Option LAddr}{n:Nat}{q:Cap}{l:List CellC}(h:KAt H a n q l){X:List Nat}(p:PresX X H H')(hx:∀ad,a=some ad->ad.id∉X):KAt H' a n q l:=by
 refine ⟨h.len,h.small,?_,fun ad e=>Nat.lt_of_lt_of_le (h.id ad e) p.next⟩;cases a with
 |none=>exact h.cells
 |some ad=>
  simp only [firstCellsL,Nat.ble_eq,Nat.le_refl,if_true];exact (p.keep ad.id (h.id ad rfl) (hx ad rfl)).loads ad _ _ rfl h.load
theorem KAt.on0{H H':LHeap}{a:Option LAddr}{n:Nat}{q:Cap}{l:List CellC}(h:KAt H a n q l)(p:PresX [] H H'):KAt H' a n q l:=h.on p fun _ _=>by simp
theorem KAt.at{H:LHeap}{a:Option LAddr}{n:Nat}{q:Cap}{l:List CellC}(h:KAt H a n q l){i:Nat}{x:CellC}(hx:l[i]? =some x):
  a.isSome=true/\(adr a).id<H.next/\loadT cfg.P H 149 ⟨(adr a).id,(adr a).ver,(adr a).off+i*3⟩=some x.lv:=by
 have hi:=(List.getElem?_eq_some_iff.1 hx).1;cases a with
 |none=>
  have:=h.cells;simp only [firstCellsL] at this;split at this
  ·rename_i hn;have:=Nat.eq_of_beq_eq_true hn;have:=h.len;omega
  ·cases this
 |some ad=>
  refine ⟨rfl,h.id ad rfl,?_⟩;have hl:=h.load;obtain ⟨h1,h2⟩:=cellsK_split hx;rw [h1] at hl;have:=loadN_mid hl;rw [h2] at this;exact load_agg (by kernel_rfl) (by kernel_rfl) this
theorem loop125b(a:Option LAddr)(l:Nat)(c:Cap)(nm:List CellC)(P:CellC->Bool)(p q:LAddr)(H0:LHeap)(hN:KAt H0 a l c nm)(hcl:∀(y:CellC) (H:LHeap),PresX [] H0 H->CallL cfg 124 [y.lv,.ptr (some p),.ptr (some q)] H (Ret (.bool (P y)) H)):
  ∀(m i:Nat),i+m=l->∀(d:Nat->LV) (H:LHeap),GoesT cfg 125 (Ret (.int .i64 (idxK P (nm.drop i) i)) H0) [] H0 [] (L125b_0 d (i:Int) p q a l c (l:Int)) (loopAt cfg 125 0) H
 |0,i,hi,d,H=>by
  intro hin hI;refine g125b_0 _ H0 d i p q a l c l H ⟨fun h=> ?_,fun h hI=> ?_⟩ hin hI
  ·simp at h;omega
  ·rw [List.drop_eq_nil_of_le (by rw [hN.len];omega)];exact .mk hI.pres
 |m+1,i,hi,d,H=>by
  intro hin hI;have hil:i<nm.length:=by rw [hN.len];omega
  obtain ⟨hs,_,hld⟩:=(hN.on0 hI.pres).at (List.getElem?_eq_getElem hil);have hdrop:nm.drop i=nm[i]::nm.drop (i+1):=List.drop_eq_getElem_cons hil;refine g125b_0 _ H0 d i p q a l c l H ⟨fun h=>⟨⟨by omega,by omega,hs⟩,fun _=>⟨nm[i],by simpa using hld,fun hI=>⟨_,hcl nm[i] H hI.pres,Ret.use ⟨_,rfl⟩,fun b H1 ⟨e,p1⟩=>⟨fun hb hI=> ?yes,fun hb d1=> ?no⟩⟩⟩⟩,fun h=> ?ge⟩ hin hI
  case ge=>simp at h;omega
  case yes=>
   cases e;rw [hdrop];unfold idxK;rw [if_pos hb];exact .mk hI.pres
  case no=>
   cases e;rw [hdrop];unfold idxK;rw [hb];have:=hN.small;rw [lwrap_small (by omega) (by omega)];exact loop125b a l c nm P p q H0 hN hcl m (i+1) (by omega) d1 H1
theorem s125b(a:Option LAddr)(l:Nat)(c:Cap)(nm:List CellC)(P:CellC->Bool)(p q:LAddr)(H0:LHeap)(hN:KAt H0 a l c nm)(hcl:∀(y:CellC) (H:LHeap),PresX [] H0 H->CallL cfg 124 [y.lv,.ptr (some p),.ptr (some q)] H (Ret (.bool (P y)) H)):
  CallL cfg 125 [.slice a l c,.func (.func 124) [] [.ptr (some p),.ptr (some q)]] H0 (Ret (.int .i64 (idxK P nm 0)) H0):=
 e125b _ a l c p q H0 fun d=>loop125b a l c nm P p q H0 hN hcl l 0 (by omega) d H0
theorem loop125c(a:Option LAddr)(l:Nat)(c:Cap)(nm:List CellC)(P:CellC->Bool)(p q:LAddr)(H0:LHeap)(hN:KAt H0 a l c nm)(hcl:∀(y:CellC) (H:LHeap),PresX [] H0 H->CallL cfg 126 [y.lv,.ptr (some p),.ptr (some q)] H (Ret (.bool (P y)) H)):
  ∀(m i:Nat),i+m=l->∀(d:Nat->LV) (H:LHeap),GoesT cfg 125 (Ret (.int .i64 (idxK P (nm.drop i) i)) H0) [] H0 [] (L125c_0 d (i:Int) p q a l c (l:Int)) (loopAt cfg 125 0) H
 |0,i,hi,d,H=>by
  intro hin hI;refine g125c_0 _ H0 d i p q a l c l H ⟨fun h=> ?_,fun h hI=> ?_⟩ hin hI
  ·simp at h;omega
  ·rw [List.drop_eq_nil_of_le (by rw [hN.len];omega)];exact .mk hI.pres
 |m+1,i,hi,d,H=>by
  intro hin hI;have hil:i<nm.length:=by rw [hN.len];omega
  obtain ⟨hs,_,hld⟩:=(hN.on0 hI.pres).at (List.getElem?_eq_getElem hil);have hdrop:nm.drop i=nm[i]::nm.drop (i+1):=List.drop_eq_getElem_cons hil;refine g125c_0 _ H0 d i p q a l c l H ⟨fun h=>⟨⟨by omega,by omega,hs⟩,fun _=>⟨nm[i],by simpa using hld,fun hI=>⟨_,hcl nm[i] H hI.pres,Ret.use ⟨_,rfl⟩,fun b H1 ⟨e,p1⟩=>⟨fun hb hI=> ?yes,fun hb d1=> ?no⟩⟩⟩⟩,fun h=> ?ge⟩ hin hI
  case ge=>simp at h;omega
  case yes=>
   cases e;rw [hdrop];unfold idxK;rw [if_pos hb];exact .mk hI.pres
  case no=>
   cases e;rw [hdrop];unfold idxK;rw [hb];have:=hN.small;rw [lwrap_small (by omega) (by omega)];exact loop125c a l c nm P p q H0 hN hcl m (i+1) (by omega) d1 H1
theorem s125c(a:Option LAddr)(l:Nat)(c:Cap)(nm:List CellC)(P:CellC->Bool)(p q:LAddr)(H0:LHeap)(hN:KAt H0 a l c nm)(hcl:∀(y:CellC) (H:LHeap),PresX [] H0 H->CallL cfg 126 [y.lv,.ptr (some p),.ptr (some q)] H (Ret (.bool (P y)) H)):
  CallL cfg 125 [.slice a l c,.func (.func 126) [] [.ptr (some p),.ptr (some q)]] H0 (Ret (.int .i64 (idxK P nm 0)) H0):=
 e125c _ a l c p q H0 fun d=>loop125c a l c nm P p q H0 hN hcl l 0 (by omega) d H0
theorem rowT149:RowT cfg.P 49 149 3 32:=⟨by kernel_rfl,by kernel_rfl,by decide,by kernel_rfl,by kernel_rfl,by kernel_rfl,⟨nilCell.lv,by kernel_rfl,rfl⟩⟩
def CloneK(n:Nat)(l:List CellC)(H:LHeap):LV->LHeap->Prop:=fun v H'=>PresX [] H H'/\∃a q,v=.slice a n q/\RowAt H' 149 3 a n q (cellsK l)/\(∀ad,a=some ad->H.next<=ad.id)/\(0<n->q=.free 3)/\(n=0->q=.exact 0)
theorem s96(a:Option LAddr)(l:Nat)(c:Cap)(nm:List CellC)(H:LHeap)(hN:KAt H a l c nm):CallL cfg 96 [.slice a l c] H (CloneK l nm H):=by
 refine e96t _ a l c H ⟨fun h hI=> ?_,fun h H4 e4 hI=> ?_⟩
 ·cases a with
  |some a=>cases h
  |none=>
   have:=hN.cells;simp only [firstCellsL] at this;split at this
   ·rename_i hn;have h0:=Nat.eq_of_beq_eq_true hn;subst h0;have:nm=[]:=List.eq_nil_of_length_eq_zero hN.len;subst this;exact ⟨hI.pres,none,.exact 0,rfl,.nil,(fun ad e=>by cases e),fun h=>absurd h (Nat.lt_irrefl _),fun _=>rfl⟩
   ·cases this
 ·have hp4:PresX [] H H4:=hI.pres;have hrow0:RowAt H4 149 3 (some ⟨H.next,0,0⟩) 0 (.exact 0) []:=by
   refine .full _ 0 [] (by rw [e4];exact Nat.lt_succ_self _) ?_ rfl rfl;unfold loadN;rw [e4,LHeap.get_push,if_pos rfl];rfl
  have hc:=(hN.on0 hp4).cells;by_cases hl0:l=0
  ·subst hl0;have:nm=[]:=List.eq_nil_of_length_eq_zero hN.len;subst this;exact ⟨[],_,0,_,H4,⟨app_nilN rowT149 rfl hc,.refl _ _,fun i hi=>by cases hi⟩,fun hI2=>⟨hI2.pres,_,_,rfl,hrow0,(fun ad e=>by cases e;exact Nat.le_refl _),fun h=>absurd h (Nat.lt_irrefl _),fun _=>rfl⟩⟩
  obtain ⟨Y,a',q',H',h1,h2,h3,h4,h5,h6⟩:=hrow0.append2 rowT149 (x:=.slice a l c) (m:=l) (new:=cellsK nm) rfl hc (by rw [cellsK_len,hN.len]) (cellsK_all nm) (by have:=hN.small;omega);rw [Nat.zero_add] at h1 h3;rw [List.nil_append] at h3;refine ⟨Y,a',l,q',H',⟨h1,h2,fun i hi=> ?_⟩,fun hI2=>⟨hI2.pres,a',q',rfl,h3,fun ad e=> ?_,h6,fun h0=>absurd h0 hl0⟩⟩
  ·obtain ⟨ad,e,rfl⟩:=h4 i hi;cases e;exact ⟨.inr (Nat.le_refl _),fun k s hs=>by simp [nth] at hs⟩
  ·rcases h5 ad e with ⟨ad',e',e''⟩ |hge
   ·cases e';rw [<-e''];exact Nat.le_refl _
   ·exact Nat.le_trans hp4.next hge
def keepK(P:CellC->Bool)(l:List CellC):List CellC:=l.filter fun y=> !P y
theorem wat_elemK{H:LHeap}{ad:LAddr}{A B:List LV}{cur:List CellC}(h:WAt H ad 149 A (cellsK cur) B){j:Nat}{x:CellC}(hx:cur[j]? =some x):loadT cfg.P H 149 ⟨ad.id,ad.ver,ad.off+j*3⟩=some x.lv:=by
 obtain ⟨h1,h2⟩:=cellsK_split hx;rw [h1] at h;have:=h.loadAt;rw [h2] at this;exact load_agg (by kernel_rfl) (by kernel_rfl) this
theorem set_cellsK{cur:List CellC}{i:Nat}(hi:i<cur.length)(x:CellC):cellsK (cur.set i x)=cellsK (cur.take i)++(x.cs++cellsK (cur.drop (i+1))):=by
 rw [List.set_eq_take_append_cons_drop,if_pos hi,cellsK_app,<-List.singleton_append,cellsK_app,cellsK_one]
theorem set_takeK{cur:List CellC}{i:Nat}(hi:i<cur.length)(x:CellC):(cur.set i x).take (i+1)=cur.take i++[x]:=by
 rw [List.set_eq_take_append_cons_drop,if_pos hi];have hl:(cur.take i).length=i:=by rw [List.length_take];omega
 have:=List.take_length_add_append (l₁:=cur.take i) (l₂:=x::cur.drop (i+1)) 1;rw [hl] at this;rw [this];rfl
theorem set_dropK{cur:List CellC}{i j:Nat}(h:i<j)(x:CellC):(cur.set i x).drop j=cur.drop j:=by
 apply List.ext_getElem?;intro k;rw [List.getElem?_drop,List.getElem?_drop,List.getElem?_set];rw [if_neg (by omega)]
theorem store149{H:LHeap}{ad:LAddr}{A B:List LV}{cur:List CellC}(h:WAt H ad 149 A (cellsK cur) B){i:Nat}(hi:i<cur.length)(x:CellC):
  ∃H',storeT cfg.P H 149 ⟨ad.id,ad.ver,ad.off+i*3⟩ x.lv=some H'/\WAt H' ad 149 A (cellsK (cur.set i x)) B/\PresX [ad.id] H H':=by
 obtain ⟨h1,h2⟩:=cellsK_split (List.getElem?_eq_getElem hi);rw [h1] at h;obtain ⟨H',g1,g2,g3⟩:=h.putAt (V:=x.cs) rfl rfl;refine ⟨H',?_,by rw [set_cellsK hi];exact g2,g3⟩;rw [h2] at g1;unfold storeT;rw [show sizeOfT cfg.P 149=some 3 by kernel_rfl];exact g1
def zerosK(k:Nat):List LV:=repl k nilCell.lv.cells []
theorem zerosK_eq(k:Nat):zerosK k=cellsK (List.replicate k nilCell):=by
 unfold zerosK;rw [repl_eq,List.append_nil];unfold cellsK;rw [List.flatMap_replicate];rfl
theorem clear_ofK{H H':LHeap}{b:LAddr}{k:Nat}{q:Cap}(h:storeN H b (zerosK k)=some H'):clearL cfg.P H [49] [.slice (some b) k q]=some (.tuple [],H'):=by
 unfold clearL;simp only [show cfg.P.underlying 49=some (.slice 149) by kernel_rfl,show zeroOf cfg.P 149=some nilCell.lv by kernel_rfl];unfold zerosK at h;rw [h]
theorem keep_stepK{P:CellC->Bool}{nm:List CellC}{j:Nat}(hj:j<nm.length):keepK P (nm.take (j+1))=keepK P (nm.take j)++if P nm[j] then [] else [nm[j]]:=by
 unfold keepK;rw [List.take_succ_eq_append_getElem hj,List.filter_append];congr 1;by_cases h:P nm[j]=true
 ·simp [h]
 ·simp [h]
def DelK(ad:LAddr)(q:Cap)(A B:List LV)(nm:List CellC)(P:CellC->Bool)(H:LHeap):LV->LHeap->Prop:=fun v H'=>
 PresX [ad.id] H H'/\v=.slice (some ad) (keepK P nm).length q/\∃C,WAt H' ad 149 A (cellsK (keepK P nm)++C) B
theorem del_endK{ad:LAddr}{n:Nat}{q:Cap}{nm:List CellC}{P:CellC->Bool}{A B:List LV}{H0 H:LHeap}(hn:nm.length=n)(hq:QOK ad n 3 q){i:Nat}{cur:List CellC}(hi:i<=n)(hc:cur.length=n)
  (ht:cur.take i=keepK P nm) (hW:WAt H ad 149 A (cellsK cur) B) (hlt:ad.id<H0.next) (hI:Inv [ad.id] H0 [] H):
  ∃a26 l27 c28,sliceL cfg.P 49 (.slice (some ad) n q) (some (.int .i64 i)) none none=some (.slice a26 l27 c28)/\(Inv [ad.id] H0 [] H->∃(Y:List Nat) (H24:LHeap),(opB cfg H .clear [49] [.slice a26 l27 c28]=some [(.value (.tuple []),H24)]/\PresX Y H H24/\∀i∈Y,okId [ad.id] H0 [] i)/\
   ∃a l c,sliceL cfg.P 49 (.slice (some ad) n q) none (some (.int .i64 i)) none=some (.slice a l c)/\(Inv [ad.id] H0 [] H24->DelK ad q A B nm P H0 (.slice a l c) H24)):=by
 have u49:cfg.P.underlying 49=some (.slice 149):=by kernel_rfl
 have z149:sizeOfT cfg.P 149=some 3:=by kernel_rfl
 have hil:(keepK P nm).length=i:=by rw [<-ht,List.length_take];omega
 obtain ⟨b,q',hs,hb,hqo,hbo⟩:=slice_lo (k:=.i64) u49 z149 (by decide) hq hi;have hcells:cellsK cur=cellsK (keepK P nm)++(cellsK (cur.drop i)++[]):=by rw [List.append_nil,<-ht,<-cellsK_app,List.take_append_drop]
 have hA:(cellsK (keepK P nm)).length=i*3:=by rw [cellsK_len,hil]
 have ok:∀x∈[ad.id],okId [ad.id] H0 [] x:=fun x hx=>⟨.inl hx,fun k s hs=>by simp [nth] at hs⟩;refine ⟨some b,n-i,q',hs,fun _=> ?_⟩;rw [hcells] at hW;by_cases hin:i<n
 ·obtain ⟨H',g1,g2,g3⟩:=hW.putAt (V:=zerosK (n-i)) (by rw [zerosK_eq,cellsK_len,cellsK_len,List.length_replicate,List.length_drop,hc]) (by rw [zerosK_eq];exact cellsK_all _);rw [hA] at g1;refine ⟨[ad.id],H',⟨opB_clear (clear_ofK (by rw [hbo hin];exact g1)),g3,ok⟩,some ad,i,q,slice_hi u49 z149 (by decide) hq hi,fun hI2=>⟨hI2.pres,by rw [hil],_,g2⟩⟩
 ·have h0:n-i=0:=by omega
  refine ⟨[],H,⟨opB_clear (clear_ofK (by rw [h0];rfl)),.refl _ _,fun i hi=>by cases hi⟩,some ad,i,q,slice_hi u49 z149 (by decide) hq hi,fun hI2=>⟨hI2.pres,by rw [hil],_,hW⟩⟩
theorem loop123b(ad:LAddr)(n:Nat)(qq:Cap)(nm:List CellC)(P:CellC->Bool)(p q:LAddr)(A B:List LV)(H0:LHeap)(hn:nm.length=n)(hsm:n<=1000)(hq:QOK ad n 3 qq)(hlt:ad.id<H0.next)
  (hcl:∀(y:CellC) (H:LHeap),PresX [ad.id] H0 H->CallL cfg 124 [y.lv,.ptr (some p),.ptr (some q)] H (Ret (.bool (P y)) H)):
  ∀(m j i:Nat) (cur:List CellC),j+m=n->i<=j->cur.length=n->cur.take i=keepK P (nm.take j)->cur.drop j=nm.drop j->∀(d:Nat->LV) (H:LHeap),WAt H ad 149 A (cellsK cur) B->
   GoesT cfg 123 (DelK ad qq A B nm P H0) [ad.id] H0 [] (L123b_0 d (j:Int) (i:Int) (some ad) n qq p q) (loopAt cfg 123 0) H
 |0,j,i,cur,hj,hij,hc,ht,hd,d,H,hW=>by
  intro hin hI;have hjn:j=n:=by omega
  have ht':cur.take i=keepK P nm:=by rw [ht,List.take_of_length_le (by omega)]
  obtain ⟨x1,x2,x3,g1,g2⟩:=del_endK (i:=i) hn hq (by omega) hc ht' hW hlt hI;refine g123b_0 _ [ad.id] H0 d j i (some ad) n qq p q H ⟨fun h=> ?_,fun h=>⟨x1,x2,x3,g1,fun hI=> ?_⟩⟩ hin hI
  ·simp at h;omega
  ·obtain ⟨Y,H24,g3,y1,y2,y3,g4⟩:=g2 hI;exact ⟨Y,H24,g3,y1,y2,y3,g4⟩
 |m+1,j,i,cur,hj,hij,hc,ht,hd,d,H,hW=>by
  intro hin hI;have hjn:j<nm.length:=by omega
  have hx:cur[j]? =some nm[j]:=by
   have:=congrArg (fun l=>l[0]?) hd;simp only [List.getElem?_drop,Nat.add_zero] at this;rw [this,List.getElem?_eq_getElem hjn]
  have hnext:=hI.pres.next;refine g123b_0 _ [ad.id] H0 d j i (some ad) n qq p q H ⟨fun h=>⟨⟨by omega,by omega,rfl⟩,fun _=>⟨nm[j],by simpa [adr] using wat_elemK hW hx,fun k H1 gk p1 H2 p2 hI2=>⟨_,hcl nm[j] H2 hI2.pres,Ret.use ⟨_,rfl⟩,fun b H3 ⟨e,p3⟩=>⟨fun hb=>⟨⟨by omega,by omega,rfl⟩,fun hI3=> ?keep⟩,fun hb d1=> ?gone⟩⟩⟩⟩,fun h=> ?ge⟩ hin hI
  case ge=>simp at h;omega
  case keep=>
   cases e;have hW3:WAt H3 ad 149 A (cellsK cur) B:=((hW.on p1 (by simp)).on p2 (by simp;omega)).on p3 (by simp);obtain ⟨H17,g1,g2,g3⟩:=store149 hW3 (i:=i) (by omega) nm[j];refine ⟨H17,⟨by simpa [adr] using g1,.inl (by simp [adr]),fun k' s hs=> ?_⟩,fun d18=> ?_⟩
   ·cases k' with
    |zero=>cases hs;show k≠ad.id;omega
    |succ k'=>simp [nth] at hs
   ·rw [lwrap_small (by omega) (by omega),lwrap_small (by omega) (by omega)];refine loop123b ad n qq nm P p q A B H0 hn hsm hq hlt hcl m (j+1) (i+1) (cur.set i nm[j]) (by omega) (by omega) (by rw [List.length_set,hc]) ?_ ?_ d18 H17 g2
    ·have hb':P nm[j]=false:=by simpa using hb
     rw [set_takeK (by omega),keep_stepK hjn,ht,hb'];rfl
    ·rw [set_dropK (by omega)];have:=congrArg (List.drop 1) hd
     rwa [List.drop_drop,List.drop_drop] at this
  case gone=>
   cases e;have hW3:WAt H3 ad 149 A (cellsK cur) B:=((hW.on p1 (by simp)).on p2 (by simp;omega)).on p3 (by simp);rw [lwrap_small (by omega) (by omega)];refine loop123b ad n qq nm P p q A B H0 hn hsm hq hlt hcl m (j+1) i cur (by omega) (by omega) hc ?_ ?_ d1 H3 hW3
   ·have hb':P nm[j]=true:=by simpa using hb
    rw [keep_stepK hjn,ht,hb'];simp
   ·have:=congrArg (List.drop 1) hd
    rwa [List.drop_drop,List.drop_drop] at this
theorem s123b(ad:LAddr)(n:Nat)(qq:Cap)(nm:List CellC)(P:CellC->Bool)(p q:LAddr)(A B:List LV)(H:LHeap)(hn:nm.length=n)(hsm:n<=1000)(hq:QOK ad n 3 qq)(hW:WAt H ad 149 A (cellsK nm) B)
  (hcl:∀(y:CellC) (H':LHeap),PresX [ad.id] H H'->CallL cfg 124 [y.lv,.ptr (some p),.ptr (some q)] H' (Ret (.bool (P y)) H')):
  CallL cfg 123 [.slice (some ad) n qq,.func (.func 124) [] [.ptr (some p),.ptr (some q)]] H (DelK ad qq A B nm P H):=by
 have hlt:=hW.lt;have hN:KAt H (some ad) n qq nm:=⟨hn,hsm,by
  simp only [firstCellsL,Nat.ble_eq,Nat.le_refl,if_true];have:=hW.load;rw [cellsK_len,hn] at this;exact this,fun x e=>by cases e;exact hlt⟩
 refine e123b _ [ad.id] (some ad) n qq p q H fun hI=>⟨_,s125b (some ad) n qq nm P p q H hN fun y H' p=>hcl y H' (p.mono (by simp)),Ret.use ⟨_,rfl⟩,fun i H2 ⟨e,p2⟩=> ?_⟩;cases e;have hW2:=hW.on p2 (by simp);have hcl2:∀(y:CellC) (H':LHeap),PresX [ad.id] H2 H'->CallL cfg 124 [y.lv,.ptr (some p),.ptr (some q)] H' (Ret (.bool (P y)) H'):=fun y H' p=>hcl y H' ((p2.mono (by simp)).trans p fun i hi=>.inl hi);by_cases h0:idxK P nm 0= -1
 ·rw [h0];refine ⟨fun _ hI2=>⟨hI2.pres,?_,[],?_⟩,fun h=>by simp at h⟩
  all_goals
   have hk:keepK P nm=nm:=List.filter_eq_self.2 fun y hy=>by rw [idxK_neg.1 h0 y hy];rfl
   rw [hk]
  ·rw [hn]
  ·rw [List.append_nil];exact hW2
 ·obtain ⟨j,x,h1,h2,h3,h4⟩:=idxK_at h0;rw [Nat.zero_add] at h3;have hj:=(List.getElem?_eq_some_iff.1 h1).1;rw [h3];refine ⟨fun h=>by simp at h,fun h d3=> ?_⟩;rw [lwrap_small (by omega) (by omega)];have hk:keepK P (nm.take j)=nm.take j:=List.filter_eq_self.2 fun y hy=>by rw [h4 y hy];rfl
  have hkj:nm.take j=keepK P (nm.take (j+1)):=by
   have hxe:nm[j]=x:=by rw [List.getElem?_eq_getElem hj] at h1;exact Option.some.inj h1
   rw [keep_stepK hj,hk,hxe,h2];simp
  intro hin hI2;have key:=loop123b ad n qq nm P p q A B H hn hsm hq hlt hcl (n-(j+1)) (j+1) j nm (by omega) (by omega) hn hkj rfl d3 H2 hW2;exact key hin hI2
theorem row_cellsK{H:LHeap}{a:Option LAddr}{n:Nat}{q:Cap}{l:List CellC}(h:RowAt H 149 3 a n q (cellsK l))(hs:n<=1000):KAt H a n q l:=by
 have:=h.len;rw [cellsK_len] at this;exact ⟨by omega,hs,h.loadAll,fun ad e=>by subst e;exact h.id⟩
theorem clone_useK{n:Nat}{l:List CellC}{H:LHeap}:∀v H',CloneK n l H v H'->PresX [] H H'/\hasSh .slice v:=fun v H' ⟨p,a,q,e,_⟩=>⟨p,by rw [e];exact ⟨_,_,_,rfl⟩⟩
end Go.Proofs.YtjihhflffkoffaaGreatDoor.Z
