/- Contracts of functions of the program; no condition. -/
import Derived.Test.YtjihhflffkoffaaGreatDoorG0
import Derived.Test.YtjihhflffkoffaaGreatDoorLe
import Derived.Test.YtjihhflffkoffaaGreatDoorG11
set_option linter.unusedSimpArgs false
set_option linter.unusedVariables false
set_option linter.unusedSectionVars false
set_option linter.unnecessarySimpa false
namespace Go.Proofs.YtjihhflffkoffaaGreatDoor.Z
open Go Go.Lm
set_option maxRecDepth 1000000
set_option maxHeartbeats 0
def L128d_0(d:Nat->LV)(n0:Int):List SV:=[.own 0 0,.lv (I6 n0),.lv (d 2),.lv (d 3),.own 1 0,.own 2 0]++dl d 6 37
def L209d_0(d:Nat->LV):List SV:=[.own 0 0,.lv (d 1),.own 1 0,.lv (d 3),.own 2 0]++dl d 5 28
def L315d_0(d:Nat->LV):List SV:=[.own 0 0]++dl d 1 3++[.own 1 0,.own 2 0]++dl d 6 36
abbrev qP6_1:List LV:=[I6 0,.str [],I6 0,I6 0,.str [],.str [],.str [],I6 0,I6 0,.bool false,.bool false,.str [],.str [],I6 0,I6 0,.bool false,.bool false,.slice none 0 (.exact 0)]
abbrev qP6_24(H':LHeap)(i1:Nat):Prop:=∃cs,hasSh (.agg [.slice,.bool]) (.agg cs)/\(List.length cs=2/\H'.get i1=some (Slot.obj ⟨i1,cs,184⟩))
abbrev qP6_2(S25:RR)(i1:Nat)(H24:LHeap):Prop:=∀v H',S25 v H'->PresX [i1] H24 H'/\(hasSh (.cust NdC NdC.lv) v/\ (qP6_24 H' i1))
abbrev qP6_3(x8:NdC)(a19:Option LAddr)(l20:Nat)(c21:Cap):List LV:=[I6 x8.kind,.str x8.s,I6 x8.valueKind,I6 x8.valueN,.str x8.valueS,.str x8.refBook,.str x8.refSheet,I6 x8.refRow,I6 x8.refCol,.bool x8.refFixRow,.bool x8.refFixCol,.str x8.toBook,.str x8.toSheet,I6 x8.toRow,I6 x8.toCol,.bool x8.toFixRow,.bool x8.toFixCol,.slice a19 l20 c21]
abbrev qP6_4(S19:RR)(i1:Nat)(H18:LHeap):Prop:=∀v H',S19 v H'->PresX [i1] H18 H'/\(hasSh (.tuple []) v/\ (qP6_24 H' i1))
abbrev qP6_17(ii:Nat)(a:(Option LAddr))(k:Nat)(q:Cap)(w:Bool)(i0:Nat)(t:TokC)(i2:Nat):List Slot:=[Sk ii [.slice a k q,.bool w] 184,Sk i0 (TokC.cs t) 127,Sk i2 qP6_1 72]
abbrev qP6_22(n19:Int):List LV:=[I6 1,.str [],I6 3,I6 n19,.str [],.str [],.str [],I6 0,I6 0,.bool false,.bool false,.str [],.str [],I6 0,I6 0,.bool false,.bool false,.slice none 0 (.exact 0)]
abbrev qP6_13(t:TokC):List LV:=[I6 4,.str t.s,I6 0,I6 0,.str [],.str t.refBook,.str t.refSheet,I6 t.refRow,I6 t.refCol,.bool t.refFixRow,.bool t.refFixCol,.str [],.str [],I6 0,I6 0,.bool false,.bool false,.slice none 0 (.exact 0)]
abbrev qP6_5(ii:Nat)(H:LHeap)(a:(Option LAddr))(k:Nat)(q:Cap)(w:Bool)(i0:Nat)(t:TokC)(i2:Nat)(H6:LHeap)(R:RR):Prop:=Inv [ii] H (qP6_17 ii a k q w i0 t i2) H6->Kc 182 [.str t.s] H6 fun n19 H20=>Dc (n19>=0) (PX [i2] H20 fun H21=>RX [ii] H [Sk ii [.slice a k q,.bool w] 184,Sk i0 (TokC.cs t) 127,Sk i2 (qP6_22 n19) 72] H21 R (.agg (qP6_22 n19))) (PX [i2] H20 fun H22=>RX [ii] H [Sk ii [.slice a k q,.bool w] 184,Sk i0 (TokC.cs t) 127,Sk i2 (qP6_13 t) 72] H22 R (.agg (qP6_13 t)))
abbrev qP6_6(s:(List UInt8)):List LV:=[I6 7,.str s,I6 0,I6 0,.str [],.str [],.str [],I6 0,I6 0,.bool false,.bool false,.str [],.str [],I6 0,I6 0,.bool false,.bool false,.slice none 0 (.exact 0)]
abbrev qP6_7(S14:RR)(ii:Nat)(H13:LHeap)(i2:Nat)(H:LHeap)(i0:Nat)(t:TokC)(R:RR):Prop:=(qP6_2 S14 ii H13) /\(∀x15 a16 l17 c18 b19 H20,S14 (NdC.lv x15) H20->H20.get ii=some (Slot.obj (Sk ii [.slice a16 l17 c18,.bool b19] 184))->PX [i2] H20 fun H21=>RX [ii] H [Sk ii [.slice a16 l17 c18,.bool b19] 184,Sk i0 (TokC.cs t) 127,Sk i2 (NdC.cs x15) 72] H21 R (NdC.lv x15))
abbrev qP6_8(i1:Nat)(a2:Option LAddr)(l3:Nat)(c4:Cap)(b5:Bool)(i6:Nat)(x7:NdC)(i8:Nat)(x9:NdC):List Slot:=[Sk i1 [.slice a2 l3 c4,.bool b5] 184,Sk i6 (NdC.cs x7) 72,Sk i8 (NdC.cs x9) 72]
abbrev qP6_9(S32:RR)(ii:Nat)(H28:LHeap)(i0:Nat)(H:LHeap)(i21:Nat)(x20:TokC)(R:RR):Prop:=(qP6_2 S32 ii H28) /\(∀x33 a34 l35 c36 b37 H38,S32 (NdC.lv x33) H38->H38.get ii=some (Slot.obj (Sk ii [.slice a34 l35 c36,.bool b37] 184))->PX [i0] H38 fun H39=>RX [ii] H [Sk ii [.slice a34 l35 c36,.bool b37] 184,Sk i0 (NdC.cs x33) 72,Sk i21 (TokC.cs x20) 127] H39 R (NdC.lv x33))
abbrev qP6_10(S2:RR)(ii:Nat)(H1:LHeap)(i0:Nat)(H:LHeap)(R:RR):Prop:=(qP6_2 S2 ii H1) /\(∀x3 a4 l5 c6 b7 H8,S2 (NdC.lv x3) H8->H8.get ii=some (Slot.obj (Sk ii [.slice a4 l5 c6,.bool b7] 184))->PX [i0] H8 fun H9=>RX [ii] H [Sk ii [.slice a4 l5 c6,.bool b7] 184,Sk i0 (NdC.cs x3) 72] H9 R (NdC.lv x3))
abbrev qP6_11(i6:Nat)(H15:LHeap)(i1:Nat)(H0:LHeap)(a2:Option LAddr)(l3:Nat)(c4:Cap)(b5:Bool)(x9:NdC)(i8:Nat)(R:RR):Prop:=PX [i6] H15 fun H38=>RX [i1] H0 [Sk i1 [.slice a2 l3 c4,.bool b5] 184,Sk i6 (NdC.cs x9) 72,Sk i8 (NdC.cs x9) 72] H38 R (NdC.lv x9)
abbrev qP6_12(t:TokC)(x46:RefC):List LV:=[I6 3,.str [],I6 0,I6 0,.str [],.str t.refBook,.str t.refSheet,I6 t.refRow,I6 t.refCol,.bool t.refFixRow,.bool t.refFixCol,.str x46.book,.str x46.sheet,I6 x46.row,I6 x46.col,.bool x46.fixRow,.bool x46.fixCol,.slice none 0 (.exact 0)]
abbrev qP6_14(t:TokC):List LV:=[I6 2,.str [],I6 0,I6 0,.str [],.str t.refBook,.str t.refSheet,I6 t.refRow,I6 t.refCol,.bool t.refFixRow,.bool t.refFixCol,.str [],.str [],I6 0,I6 0,.bool false,.bool false,.slice none 0 (.exact 0)]
abbrev qP6_15(ii:Nat)(H:LHeap)(a9:Option LAddr)(l10:Nat)(c11:Cap)(b12:Bool)(i0:Nat)(t:TokC)(i2:Nat)(H13:LHeap)(R:RR):Prop:=Inv [ii] H [Sk ii [.slice a9 l10 c11,.bool b12] 184,Sk i0 (TokC.cs t) 127,Sk i2 qP6_1 72] H13->∃S14,CallL cfg 302 [.ptr (some (Lk ii 2 0))] H13 S14/\ (qP6_7 S14 ii H13 i2 H i0 t R)
abbrev qP6_16(H20:LHeap):List LV:=[I6 5,.str [45],I6 0,I6 0,.str [],.str [],.str [],I6 0,I6 0,.bool false,.bool false,.str [],.str [],I6 0,I6 0,.bool false,.bool false,.slice (some (Lk (LHeap.next H20) 18 0)) 1 (.exact 1)]
abbrev qP6_18(ii:Nat)(a:(Option LAddr))(k:Nat)(q:Cap)(w:Bool)(i0:Nat):List Slot:=[Sk ii [.slice a k q,.bool w] 184,Sk i0 qP6_1 72]
abbrev qP6_19(x20:TokC):List LV:=[I6 1,.str [],I6 1,I6 x20.n,.str [],.str [],.str [],I6 0,I6 0,.bool false,.bool false,.str [],.str [],I6 0,I6 0,.bool false,.bool false,.slice none 0 (.exact 0)]
abbrev qP6_20(x20:TokC):List LV:=[I6 1,.str [],I6 4,I6 x20.n,.str [],.str [],.str [],I6 0,I6 0,.bool false,.bool false,.str [],.str [],I6 0,I6 0,.bool false,.bool false,.slice none 0 (.exact 0)]
abbrev qP6_21(x20:TokC):List LV:=[I6 1,.str [],I6 2,I6 0,.str x20.s,.str [],.str [],I6 0,I6 0,.bool false,.bool false,.str [],.str [],I6 0,I6 0,.bool false,.bool false,.slice none 0 (.exact 0)]
abbrev qP6_23(i0:Nat)(a12:Option LAddr)(l13:Nat)(c14:Cap)(b15:Bool)(i5:Nat)(x6:NdC)(i7:Nat)(x8:NdC)(a19:Option LAddr)(l20:Nat)(c21:Cap):List Slot:=[Sk i0 [.slice a12 l13 c14,.bool b15] 184,Sk i5 (NdC.cs x6) 72,Sk i7 (qP6_3 x8 a19 l20 c21) 72]
theorem g128d_0(R:RR)(H0:LHeap)(d:Nat->LV)(n0:Int)(i1:Nat)(a2:Option LAddr)(l3:Nat)(c4:Cap)(b5:Bool)(i6:Nat)(x7:NdC)(i8:Nat)(x9:NdC)(H:LHeap)
 (h:Cd (!b5) (Inv [i1] H0 (qP6_8 i1 a2 l3 c4 b5 i6 x7 i8 x9) H->Kb 210 [.ptr (some (Lk i1 2 0))] H fun s11 H12=>Inv [i1] H0 (qP6_8 i1 a2 l3 c4 b5 i6 x7 i8 x9) H12->Kc 204 [.str s11] H12 fun n14 H15=>Cd (n14==n0) (Inv [i1] H0 (qP6_8 i1 a2 l3 c4 b5 i6 x7 i8 x9) H15->Kb 210 [.ptr (some (Lk i1 2 0))] H15 fun s17 H18=>Inv [i1] H0 (qP6_8 i1 a2 l3 c4 b5 i6 x7 i8 x9) H18->∃S19,CallL cfg 211 [.ptr (some (Lk i1 2 0)),.str s17] H18 S19/\((qP6_4 S19 i1 H18) /\(∀a20 l21 c22 b23 H24,S19 (.tuple []) H24->H24.get i1=some (Slot.obj (Sk i1 [.slice a20 l21 c22,.bool b23] 184))->Inv [i1] H0 (qP6_8 i1 a20 l21 c22 b23 i6 x7 i8 x9) H24->∃S25,CallL cfg 128 [.ptr (some (Lk i1 2 0)),I6 (lwrap .i64 (n0+1))] H24 S25/\((qP6_2 S25 i1 H24) /\(∀x26 a27 l28 c29 b30 H31,S25 (NdC.lv x26) H31->H31.get i1=some (Slot.obj (Sk i1 [.slice a27 l28 c29,.bool b30] 184))->NX H31 fun i32 H33=>PX [i32] H33 fun H34=>∀H35,H35=(LHeap.push H34 (LObj.cells [I6 x9.kind,.str x9.s,I6 x9.valueKind,I6 x9.valueN,.str x9.valueS,.str x9.refBook,.str x9.refSheet,I6 x9.refRow,I6 x9.refCol,.bool x9.refFixRow,.bool x9.refFixCol,.str x9.toBook,.str x9.toSheet,I6 x9.toRow,I6 x9.toCol,.bool x9.toFixRow,.bool x9.toFixCol,.slice x9.argsA x9.argsL x9.argsQ,I6 x26.kind,.str x26.s,I6 x26.valueKind,I6 x26.valueN,.str x26.valueS,.str x26.refBook,.str x26.refSheet,I6 x26.refRow,I6 x26.refCol,.bool x26.refFixRow,.bool x26.refFixCol,.str x26.toBook,.str x26.toSheet,I6 x26.toRow,I6 x26.toCol,.bool x26.toFixRow,.bool x26.toFixCol,.slice x26.argsA x26.argsL x26.argsQ] 72 36 36 .none false true))->PX [i8] H35 fun H36=>∀d37,GoesT cfg 128 R [i1] H0 [Sk i1 [.slice a27 l28 c29,.bool b30] 184,Sk i6 (NdC.cs x7) 72,Sk i8 [I6 6,.str s17,I6 0,I6 0,.str [],.str [],.str [],I6 0,I6 0,.bool false,.bool false,.str [],.str [],I6 0,I6 0,.bool false,.bool false,.slice (some (Lk (LHeap.next H34) 36 0)) 2 (.exact 2)] 72] (L128d_0 d37 n0) (loopAt cfg 128 0) H36))))) (qP6_11 i6 H15 i1 H0 a2 l3 c4 b5 x9 i8 R)) (qP6_11 i6 H i1 H0 a2 l3 c4 b5 x9 i8 R)):
 GoesT cfg 128 R [i1] H0 [Sk i1 [.slice a2 l3 c4,.bool b5] 184,Sk i6 (NdC.cs x7) 72,Sk i8 (NdC.cs x9) 72] (L128d_0 d n0) (loopAt cfg 128 0) H:=seg_wt (k:=(.go 9 (.cases 21 (.go 1 (.facts (.call .str (.facts (.call (.int .i64) (.go 4 (.cases 27 (.go 6 (.facts (.call .str (.go 6 (.facts (.callO 0 (.agg [.slice,.bool]) (.tuple []) (.go 6 (.facts (.callO 0 (.agg [.slice,.bool]) (.cust NdC NdC.lv) (.boxP (.putP (.go 5 (.row (.go 1 (.putP (.go 3 (.stop [5,0,1,4] 3))))))))))))))))) (.go 5 (.putP (.go 1 (.facts .ret))))))))))) (.go 12 (.putP (.go 1 (.facts .ret))))))) (by kernel_rfl) h
theorem e128d(R:RR)(a:(Option LAddr))(k:Nat)(q:Cap)(w:Bool)(b:Int)(ii:Nat)(H:LHeap)(hI:Inv [ii] H [(Sk ii [(.slice a k q),(.bool w)] 184)] H)
 (h:NX H fun i0 H1=>Dc (b>5) (Inv [ii] H (qP6_18 ii a k q w i0) H1->∃S2,CallL cfg 209 [.ptr (some (Lk ii 2 0))] H1 S2/\ (qP6_10 S2 ii H1 i0 H R)) (Inv [ii] H (qP6_18 ii a k q w i0) H1->∃S10,CallL cfg 128 [.ptr (some (Lk ii 2 0)),I6 (lwrap .i64 (b+1))] H1 S10/\((qP6_2 S10 ii H1) /\(∀x11 a12 l13 c14 b15 H16,S10 (NdC.lv x11) H16->H16.get ii=some (Slot.obj (Sk ii [.slice a12 l13 c14,.bool b15] 184))->NX H16 fun i17 H18=>PX [i17] H18 fun H19=>∀d20,GoesT cfg 128 R [ii] H [Sk ii [.slice a12 l13 c14,.bool b15] 184,Sk i0 qP6_1 72,Sk i17 (NdC.cs x11) 72] (L128d_0 d20 b) (loopAt cfg 128 0) H19)))):
 CallL cfg 128 [.ptr (some (Lk ii 2 0)),I6 b] H R:=call_wt (k:=(.go 2 (.boxP (.go 7 (.cases 9 (.go 4 (.facts (.callO 0 (.agg [.slice,.bool]) (.cust NdC NdC.lv) (.putP (.go 1 (.facts .ret)))))) (.go 7 (.facts (.callO 0 (.agg [.slice,.bool]) (.cust NdC NdC.lv) (.boxP (.putP (.go 4 (.stop [5,0,1,4] 3)))))))))))) (kn:=[Sk ii [.slice a k q,.bool w] 184]) (args:=[.own 0 0,.lv (I6 b)]) (by kernel_rfl) h hI (fun x hx=>List.all_eq_true.1 (show List.all [.own 0 0,.lv (I6 b)] (inR 1)=true from rfl) x hx)
theorem g209d_0(R:RR)(H0:LHeap)(d:Nat->LV)(i0:Nat)(a1:Option LAddr)(l2:Nat)(c3:Cap)(b4:Bool)(i5:Nat)(x6:NdC)(i7:Nat)(x8:NdC)(H:LHeap)
 (h:Cd (!b4) (Inv [i0] H0 (qP6_8 i0 a1 l2 c3 b4 i5 x6 i7 x8) H->Kb 210 [.ptr (some (Lk i0 2 0))] H fun s10 H11=>Cd (s10==[37]) (Inv [i0] H0 (qP6_8 i0 a1 l2 c3 b4 i5 x6 i7 x8) H11->∃S12,CallL cfg 211 [.ptr (some (Lk i0 2 0)),.str [37]] H11 S12/\((qP6_4 S12 i0 H11) /\(∀a13 l14 c15 b16 H17,S12 (.tuple []) H17->H17.get i0=some (Slot.obj (Sk i0 [.slice a13 l14 c15,.bool b16] 184))->∀H18,H18=(LHeap.push H17 (LObj.cells (NdC.cs x8) 72 18 18 .none false true))->PX [i7] H18 fun H19=>∀d20,GoesT cfg 209 R [i0] H0 [Sk i0 [.slice a13 l14 c15,.bool b16] 184,Sk i5 (NdC.cs x6) 72,Sk i7 [I6 5,.str [37],I6 0,I6 0,.str [],.str [],.str [],I6 0,I6 0,.bool false,.bool false,.str [],.str [],I6 0,I6 0,.bool false,.bool false,.slice (some (Lk (LHeap.next H17) 18 0)) 1 (.exact 1)] 72] (L209d_0 d20) (loopAt cfg 209 0) H19))) (qP6_11 i5 H11 i0 H0 a1 l2 c3 b4 x8 i7 R)) (qP6_11 i5 H i0 H0 a1 l2 c3 b4 x8 i7 R)):
 GoesT cfg 209 R [i0] H0 [Sk i0 [.slice a1 l2 c3,.bool b4] 184,Sk i5 (NdC.cs x6) 72,Sk i7 (NdC.cs x8) 72] (L209d_0 d) (loopAt cfg 209 0) H:=seg_wt (k:=(.go 9 (.cases 22 (.go 1 (.facts (.call .str (.go 3 (.cases 26 (.go 6 (.facts (.callO 0 (.agg [.slice,.bool]) (.tuple []) (.go 3 (.row (.go 1 (.putP (.go 3 (.stop [4,0,2] 3))))))))) (.go 5 (.putP (.go 1 (.facts .ret))))))))) (.go 10 (.putP (.go 1 (.facts .ret))))))) (by kernel_rfl) h
theorem e209d(R:RR)(a:(Option LAddr))(k:Nat)(q:Cap)(w:Bool)(ii:Nat)(H:LHeap)(hI:Inv [ii] H [(Sk ii [(.slice a k q),(.bool w)] 184)] H)
 (h:NX H fun i0 H1=>Inv [ii] H (qP6_18 ii a k q w i0) H1->Kb 210 [.ptr (some (Lk ii 2 0))] H1 fun s3 H4=>Cd (s3==[45]) (Inv [ii] H (qP6_18 ii a k q w i0) H4->∃S5,CallL cfg 211 [.ptr (some (Lk ii 2 0)),.str [45]] H4 S5/\((qP6_4 S5 ii H4) /\(∀a6 l7 c8 b9 H10,S5 (.tuple []) H10->H10.get ii=some (Slot.obj (Sk ii [.slice a6 l7 c8,.bool b9] 184))->Inv [ii] H [Sk ii [.slice a6 l7 c8,.bool b9] 184,Sk i0 qP6_1 72] H10->∃S11,CallL cfg 209 [.ptr (some (Lk ii 2 0))] H10 S11/\((qP6_2 S11 ii H10) /\(∀x12 a13 l14 c15 b16 H17,S11 (NdC.lv x12) H17->H17.get ii=some (Slot.obj (Sk ii [.slice a13 l14 c15,.bool b16] 184))->NX H17 fun i18 H19=>PX [i18] H19 fun H20=>∀H21,H21=(LHeap.push H20 (LObj.cells (NdC.cs x12) 72 18 18 .none false true))->PX [i0] H21 fun H22=>RX [ii] H [Sk ii [.slice a13 l14 c15,.bool b16] 184,Sk i0 (qP6_16 H20) 72,Sk i18 (NdC.cs x12) 72] H22 R (.agg (qP6_16 H20))))))) (Inv [ii] H (qP6_18 ii a k q w i0) H4->∃S23,CallL cfg 269 [.ptr (some (Lk ii 2 0))] H4 S23/\((qP6_2 S23 ii H4) /\(∀x24 a25 l26 c27 b28 H29,S23 (NdC.lv x24) H29->H29.get ii=some (Slot.obj (Sk ii [.slice a25 l26 c27,.bool b28] 184))->NX H29 fun i30 H31=>PX [i30] H31 fun H32=>∀d33,GoesT cfg 209 R [ii] H [Sk ii [.slice a25 l26 c27,.bool b28] 184,Sk i0 qP6_1 72,Sk i30 (NdC.cs x24) 72] (L209d_0 d33) (loopAt cfg 209 0) H32)))):
 CallL cfg 209 [.ptr (some (Lk ii 2 0))] H R:=call_wt (k:=(.go 2 (.boxP (.go 5 (.facts (.call .str (.go 2 (.cases 7 (.go 4 (.facts (.callO 0 (.agg [.slice,.bool]) (.tuple []) (.go 4 (.facts (.callO 0 (.agg [.slice,.bool]) (.cust NdC NdC.lv) (.boxP (.putP (.go 4 (.row (.go 1 (.putP (.go 1 (.facts .ret)))))))))))))) (.go 5 (.facts (.callO 0 (.agg [.slice,.bool]) (.cust NdC NdC.lv) (.boxP (.putP (.go 4 (.stop [4,0,2] 3))))))))))))))) (kn:=[Sk ii [.slice a k q,.bool w] 184]) (args:=[.own 0 0]) (by kernel_rfl) h hI (fun x hx=>List.all_eq_true.1 (show List.all [.own 0 0] (inR 1)=true from rfl) x hx)
theorem e269d(R:RR)(a:(Option LAddr))(k:Nat)(q:Cap)(w:Bool)(ii:Nat)(H:LHeap)(hI:Inv [ii] H [(Sk ii [(.slice a k q),(.bool w)] 184)] H)
 (h:NX H fun i0 H1=>Cd w (Inv [ii] H (qP6_18 ii a k q w i0) H1->∃S2,CallL cfg 302 [.ptr (some (Lk ii 2 0))] H1 S2/\ (qP6_10 S2 ii H1 i0 H R)) (Cd (((k:Nat):Int)==0) (Inv [ii] H (qP6_18 ii a k q w i0) H1->∃S10,CallL cfg 302 [.ptr (some (Lk ii 2 0))] H1 S10/\ (qP6_10 S10 ii H1 i0 H R)) (((0:Int)<=0/\(0<((k:Nat):Int)/\(Option.isSome a)=true))/\(Inv [ii] H (qP6_18 ii a k q w i0) H1->∃x20,loadT cfg.P H1 127 (Lk (LAddr.id (adr a)) (LAddr.ver (adr a)) ((LAddr.off (adr a))+0))=some (TokC.lv x20)/\(NX H1 fun i21 H22=>PX [i21] H22 fun H23=>∃a25 l26 c27,(sliceL cfg.P 26 (.slice a k q) (some (I6 1)) none none)=(some (.slice a25 l26 c27))/\(PX [ii] H23 fun H28=>Cd (x20.kind==1) (PX [i0] H28 fun H29=>RX [ii] H [Sk ii [.slice a25 l26 c27,.bool w] 184,Sk i0 (qP6_19 x20) 72,Sk i21 (TokC.cs x20) 127] H29 R (.agg (qP6_19 x20))) (Cd (x20.kind==2) (PX [i0] H28 fun H30=>RX [ii] H [Sk ii [.slice a25 l26 c27,.bool w] 184,Sk i0 (qP6_21 x20) 72,Sk i21 (TokC.cs x20) 127] H30 R (.agg (qP6_21 x20))) (Cd (x20.kind==6) (PX [i0] H28 fun H31=>RX [ii] H [Sk ii [.slice a25 l26 c27,.bool w] 184,Sk i0 (qP6_20 x20) 72,Sk i21 (TokC.cs x20) 127] H31 R (.agg (qP6_20 x20))) (Cd (x20.kind==3) (Inv [ii] H [Sk ii [.slice a25 l26 c27,.bool w] 184,Sk i0 qP6_1 72,Sk i21 (TokC.cs x20) 127] H28->∃S32,CallL cfg 303 [.ptr (some (Lk ii 2 0)),TokC.lv x20] H28 S32/\ (qP6_9 S32 ii H28 i0 H i21 x20 R)) (Cd (x20.kind==4) (Inv [ii] H [Sk ii [.slice a25 l26 c27,.bool w] 184,Sk i0 qP6_1 72,Sk i21 (TokC.cs x20) 127] H28->∃S40,CallL cfg 304 [.ptr (some (Lk ii 2 0)),TokC.lv x20] H28 S40/\ (qP6_9 S40 ii H28 i0 H i21 x20 R)) (Cd (x20.s==[40]) (Inv [ii] H [Sk ii [.slice a25 l26 c27,.bool w] 184,Sk i0 qP6_1 72,Sk i21 (TokC.cs x20) 127] H28->∃S48,CallL cfg 128 [.ptr (some (Lk ii 2 0)),I6 1] H28 S48/\((qP6_2 S48 ii H28) /\(∀x49 a50 l51 c52 b53 H54,S48 (NdC.lv x49) H54->H54.get ii=some (Slot.obj (Sk ii [.slice a50 l51 c52,.bool b53] 184))->NX H54 fun i55 H56=>PX [i55] H56 fun H57=>Inv [ii] H [Sk ii [.slice a50 l51 c52,.bool b53] 184,Sk i0 qP6_1 72,Sk i21 (TokC.cs x20) 127,Sk i55 (NdC.cs x49) 72] H57->∃S58,CallL cfg 211 [.ptr (some (Lk ii 2 0)),.str [41]] H57 S58/\((qP6_4 S58 ii H57) /\(∀a59 l60 c61 b62 H63,S58 (.tuple []) H63->H63.get ii=some (Slot.obj (Sk ii [.slice a59 l60 c61,.bool b62] 184))->PX [i0] H63 fun H64=>RX [ii] H [Sk ii [.slice a59 l60 c61,.bool b62] 184,Sk i0 (NdC.cs x49) 72,Sk i21 (TokC.cs x20) 127,Sk i55 (NdC.cs x49) 72] H64 R (NdC.lv x49)))))) (Inv [ii] H [Sk ii [.slice a25 l26 c27,.bool w] 184,Sk i0 qP6_1 72,Sk i21 (TokC.cs x20) 127] H28->∃S65,CallL cfg 302 [.ptr (some (Lk ii 2 0))] H28 S65/\ (qP6_9 S65 ii H28 i0 H i21 x20 R))))))))))))):
 CallL cfg 269 [.ptr (some (Lk ii 2 0))] H R:=call_wt (k:=(.go 2 (.boxP (.go 9 (.cases 9 (.go 12 (.facts (.callO 0 (.agg [.slice,.bool]) (.cust NdC NdC.lv) (.putP (.go 1 (.facts .ret)))))) (.go 8 (.cases 16 (.go 4 (.facts (.callO 0 (.agg [.slice,.bool]) (.cust NdC NdC.lv) (.putP (.go 1 (.facts .ret)))))) (.go 8 (.op (.tuple []) (.facts (.op (.cust TokC TokC.lv) (.boxP (.putP (.go 8 (.op .slice (.go 2 (.putP (.go 13 (.cases 35 (.go 7 (.putP (.go 1 (.facts .ret)))) (.go 6 (.cases 41 (.go 7 (.putP (.go 1 (.facts .ret)))) (.go 6 (.cases 47 (.go 7 (.putP (.go 1 (.facts .ret)))) (.go 6 (.cases 53 (.go 5 (.facts (.callO 0 (.agg [.slice,.bool]) (.cust NdC NdC.lv) (.putP (.go 1 (.facts .ret)))))) (.go 6 (.cases 58 (.go 5 (.facts (.callO 0 (.agg [.slice,.bool]) (.cust NdC NdC.lv) (.putP (.go 1 (.facts .ret)))))) (.go 10 (.cases 65 (.go 4 (.facts (.callO 0 (.agg [.slice,.bool]) (.cust NdC NdC.lv) (.boxP (.putP (.go 4 (.facts (.callO 0 (.agg [.slice,.bool]) (.tuple []) (.go 4 (.putP (.go 1 (.facts .ret)))))))))))) (.go 5 (.facts (.callO 0 (.agg [.slice,.bool]) (.cust NdC NdC.lv) (.putP (.go 1 (.facts .ret))))))))))))))))))))))))))))))))))) (kn:=[Sk ii [.slice a k q,.bool w] 184]) (args:=[.own 0 0]) (by kernel_rfl) h hI (fun x hx=>List.all_eq_true.1 (show List.all [.own 0 0] (inR 1)=true from rfl) x hx)
theorem e303d(R:RR)(a:(Option LAddr))(k:Nat)(q:Cap)(w:Bool)(t:TokC)(ii:Nat)(H:LHeap)(hI:Inv [ii] H [(Sk ii [(.slice a k q),(.bool w)] 184)] H)
 (h:NX H fun i0 H1=>NX H1 fun i2 H3=>Inv [ii] H (qP6_17 ii a k q w i0 t i2) H3->Kb 210 [.ptr (some (Lk ii 2 0))] H3 fun s5 H6=>Cd (!(s5==[58])) (PX [i2] H6 fun H7=>RX [ii] H [Sk ii [.slice a k q,.bool w] 184,Sk i0 (TokC.cs t) 127,Sk i2 (qP6_14 t) 72] H7 R (.agg (qP6_14 t))) (Inv [ii] H (qP6_17 ii a k q w i0 t i2) H6->∃S8,CallL cfg 211 [.ptr (some (Lk ii 2 0)),.str [58]] H6 S8/\((qP6_4 S8 ii H6) /\(∀a9 l10 c11 b12 H13,S8 (.tuple []) H13->H13.get ii=some (Slot.obj (Sk ii [.slice a9 l10 c11,.bool b12] 184))->Cd (((l10:Nat):Int)==0) (qP6_15 ii H a9 l10 c11 b12 i0 t i2 H13 R) (((0:Int)<=0/\(0<((l10:Nat):Int)/\(Option.isSome a9)=true))/\(Inv [ii] H [Sk ii [.slice a9 l10 c11,.bool b12] 184,Sk i0 (TokC.cs t) 127,Sk i2 qP6_1 72] H13->∃n24,loadT cfg.P H13 3 (Lk (LAddr.id (adr a9)) (LAddr.ver (adr a9)) (((LAddr.off (adr a9))+0)+0))=some (I6 n24)/\(Cd (n24 !=3) (qP6_15 ii H a9 l10 c11 b12 i0 t i2 H13 R) (((0:Int)<=0/\(0<((l10:Nat):Int)/\(Option.isSome a9)=true))/\(Inv [ii] H [Sk ii [.slice a9 l10 c11,.bool b12] 184,Sk i0 (TokC.cs t) 127,Sk i2 qP6_1 72] H13->∃s35,loadT cfg.P H13 9 (Lk (LAddr.id (adr a9)) (LAddr.ver (adr a9)) ((((LAddr.off (adr a9))+0)+3)+1))=some (.str s35)/\(Cd (!(s35==[])) (qP6_15 ii H a9 l10 c11 b12 i0 t i2 H13 R) (((0:Int)<=0/\(0<((l10:Nat):Int)/\(Option.isSome a9)=true))/\(Inv [ii] H [Sk ii [.slice a9 l10 c11,.bool b12] 184,Sk i0 (TokC.cs t) 127,Sk i2 qP6_1 72] H13->∃x46,loadT cfg.P H13 69 (Lk (LAddr.id (adr a9)) (LAddr.ver (adr a9)) (((LAddr.off (adr a9))+0)+3))=some (RefC.lv x46)/\(NX H13 fun i47 H48=>PX [i47] H48 fun H49=>∃a51 l52 c53,(sliceL cfg.P 26 (.slice a9 l10 c11) (some (I6 1)) none none)=(some (.slice a51 l52 c53))/\(PX [ii] H49 fun H54=>PX [i2] H54 fun H55=>RX [ii] H [Sk ii [.slice a51 l52 c53,.bool b12] 184,Sk i0 (TokC.cs t) 127,Sk i2 (qP6_12 t x46) 72,Sk i47 (RefC.cs x46) 69] H55 R (.agg (qP6_12 t x46)))))))))))))))):
 CallL cfg 303 [.ptr (some (Lk ii 2 0)),TokC.lv t] H R:=call_wt (k:=(.go 2 (.boxP (.boxP (.go 5 (.facts (.call .str (.go 2 (.cases 8 (.go 6 (.putP (.go 1 (.facts .ret)))) (.go 5 (.facts (.callO 0 (.agg [.slice,.bool]) (.tuple []) (.go 11 (.cases 20 (.go 25 (.facts (.callO 0 (.agg [.slice,.bool]) (.cust NdC NdC.lv) (.putP (.go 1 (.facts .ret)))))) (.go 4 (.op (.tuple []) (.go 1 (.facts (.op (.int .i64) (.go 3 (.cases 30 (.go 15 (.facts (.callO 0 (.agg [.slice,.bool]) (.cust NdC NdC.lv) (.putP (.go 1 (.facts .ret)))))) (.go 4 (.op (.tuple []) (.go 2 (.facts (.op .str (.go 3 (.cases 40 (.go 4 (.facts (.callO 0 (.agg [.slice,.bool]) (.cust NdC NdC.lv) (.putP (.go 1 (.facts .ret)))))) (.go 8 (.op (.tuple []) (.go 1 (.facts (.op (.cust RefC RefC.lv) (.boxP (.putP (.go 8 (.op .slice (.go 2 (.putP (.go 7 (.putP (.go 1 (.facts .ret))))))))))))))))))))))))))))))))))))))))))) (kn:=[Sk ii [.slice a k q,.bool w] 184]) (args:=[.own 0 0,.lv (TokC.lv t)]) (by kernel_rfl) h hI (fun x hx=>List.all_eq_true.1 (show List.all [.own 0 0,.lv (TokC.lv t)] (inR 1)=true from rfl) x hx)
theorem e304d(R:RR)(a:(Option LAddr))(k:Nat)(q:Cap)(w:Bool)(t:TokC)(ii:Nat)(H:LHeap)(hI:Inv [ii] H [(Sk ii [(.slice a k q),(.bool w)] 184)] H)
 (h:NX H fun i0 H1=>NX H1 fun i2 H3=>Inv [ii] H (qP6_17 ii a k q w i0 t i2) H3->Kb 210 [.ptr (some (Lk ii 2 0))] H3 fun s5 H6=>Cd (s5==[40]) (Cd (t.refBook==[]) (Inv [ii] H (qP6_17 ii a k q w i0 t i2) H6->Kb 252 [.str t.s] H6 fun s8 H9=>Inv [ii] H (qP6_17 ii a k q w i0 t i2) H9->∃S10,CallL cfg 315 [.ptr (some (Lk ii 2 0)),.str s8] H9 S10/\ (qP6_7 S10 ii H9 i2 H i0 t R)) (qP6_5 ii H a k q w i0 t i2 H6 R)) (qP6_5 ii H a k q w i0 t i2 H6 R)):
 CallL cfg 304 [.ptr (some (Lk ii 2 0)),TokC.lv t] H R:=call_wt (k:=(.go 2 (.boxP (.boxP (.go 5 (.facts (.call .str (.go 2 (.cases 9 (.go 6 (.cases 14 (.go 6 (.facts (.call .str (.facts (.callO 0 (.agg [.slice,.bool]) (.cust NdC NdC.lv) (.putP (.go 1 (.facts .ret)))))))) (.go 7 (.facts (.call (.int .i64) (.go 7 (.cases 24 (.go 6 (.putP (.go 1 (.facts .ret)))) (.go 9 (.putP (.go 1 (.facts .ret))))))))))) (.go 13 (.facts (.call (.int .i64) (.go 7 (.cases 24 (.go 6 (.putP (.go 1 (.facts .ret)))) (.go 9 (.putP (.go 1 (.facts .ret)))))))))))))))))) (kn:=[Sk ii [.slice a k q,.bool w] 184]) (args:=[.own 0 0,.lv (TokC.lv t)]) (by kernel_rfl) h hI (fun x hx=>List.all_eq_true.1 (show List.all [.own 0 0,.lv (TokC.lv t)] (inR 1)=true from rfl) x hx)
theorem g315d_0(R:RR)(H0:LHeap)(d:Nat->LV)(i0:Nat)(a1:Option LAddr)(l2:Nat)(c3:Cap)(b4:Bool)(i5:Nat)(x6:NdC)(i7:Nat)(x8:NdC)(H:LHeap)
 (h:Cd (!b4) (([.slice x8.argsA x8.argsL x8.argsQ]:List LV)=[.slice x8.argsA x8.argsL x8.argsQ]/\(Inv [i0] H0 (qP6_8 i0 a1 l2 c3 b4 i5 x6 i7 x8) H->∃S10,CallL cfg 128 [.ptr (some (Lk i0 2 0)),I6 1] H S10/\((qP6_2 S10 i0 H) /\(∀x11 a12 l13 c14 b15 H16,S10 (NdC.lv x11) H16->H16.get i0=some (Slot.obj (Sk i0 [.slice a12 l13 c14,.bool b15] 184))->∀H17,H17=(LHeap.push H16 (LObj.cells (NdC.cs x11) 72 18 18 .none false true))->([.slice x8.argsA x8.argsL x8.argsQ]:List LV)=[.slice x8.argsA x8.argsL x8.argsQ]/\(Inv [i0] H0 (qP6_8 i0 a12 l13 c14 b15 i5 x6 i7 x8) H17->∃Y a19 l20 c21 H22,(appendL cfg.P H17 [70,70] [.slice x8.argsA x8.argsL x8.argsQ,.slice (some (Lk (LHeap.next H16) 18 0)) 1 (.exact 1)]=some ((.slice a19 l20 c21),H22)/\(PresX Y H17 H22/\(∀i∈Y,okId [i0] H0 (qP6_8 i0 a12 l13 c14 b15 i5 x6 i7 x8) i)))/\(PX [i7] H22 fun H24=>Inv [i0] H0 (qP6_23 i0 a12 l13 c14 b15 i5 x6 i7 x8 a19 l20 c21) H24->Kb 210 [.ptr (some (Lk i0 2 0))] H24 fun s27 H28=>Cd (!(s27==[44])) (Inv [i0] H0 (qP6_23 i0 a12 l13 c14 b15 i5 x6 i7 x8 a19 l20 c21) H28->∃S29,CallL cfg 211 [.ptr (some (Lk i0 2 0)),.str [41]] H28 S29/\((qP6_4 S29 i0 H28) /\(∀a30 l31 c32 b33 H34,S29 (.tuple []) H34->H34.get i0=some (Slot.obj (Sk i0 [.slice a30 l31 c32,.bool b33] 184))->Dc (((l20:Nat):Int)>16) (Inv [i0] H0 (qP6_23 i0 a30 l31 c32 b33 i5 x6 i7 x8 a19 l20 c21) H34->∃S35,CallL cfg 302 [.ptr (some (Lk i0 2 0))] H34 S35/\((qP6_2 S35 i0 H34) /\(∀x36 a37 l38 c39 b40 H41,S35 (NdC.lv x36) H41->H41.get i0=some (Slot.obj (Sk i0 [.slice a37 l38 c39,.bool b40] 184))->PX [i5] H41 fun H42=>RX [i0] H0 (qP6_23 i0 a37 l38 c39 b40 i5 x36 i7 x8 a19 l20 c21) H42 R (NdC.lv x36)))) (PX [i5] H34 fun H43=>RX [i0] H0 [Sk i0 [.slice a30 l31 c32,.bool b33] 184,Sk i5 (qP6_3 x8 a19 l20 c21) 72,Sk i7 (qP6_3 x8 a19 l20 c21) 72] H43 R (.agg (qP6_3 x8 a19 l20 c21)))))) (Inv [i0] H0 (qP6_23 i0 a12 l13 c14 b15 i5 x6 i7 x8 a19 l20 c21) H28->∃S44,CallL cfg 211 [.ptr (some (Lk i0 2 0)),.str [44]] H28 S44/\((qP6_4 S44 i0 H28) /\(∀a45 l46 c47 b48 H49,S44 (.tuple []) H49->H49.get i0=some (Slot.obj (Sk i0 [.slice a45 l46 c47,.bool b48] 184))->∀d50,GoesT cfg 315 R [i0] H0 (qP6_23 i0 a45 l46 c47 b48 i5 x6 i7 x8 a19 l20 c21) (L315d_0 d50) (loopAt cfg 315 0) H49))))))))) (Inv [i0] H0 (qP6_8 i0 a1 l2 c3 b4 i5 x6 i7 x8) H->∃S51,CallL cfg 211 [.ptr (some (Lk i0 2 0)),.str [41]] H S51/\((qP6_4 S51 i0 H) /\(∀a52 l53 c54 b55 H56,S51 (.tuple []) H56->H56.get i0=some (Slot.obj (Sk i0 [.slice a52 l53 c54,.bool b55] 184))->Dc (((x8.argsL:Nat):Int)>16) (Inv [i0] H0 (qP6_8 i0 a52 l53 c54 b55 i5 x6 i7 x8) H56->∃S57,CallL cfg 302 [.ptr (some (Lk i0 2 0))] H56 S57/\((qP6_2 S57 i0 H56) /\(∀x58 a59 l60 c61 b62 H63,S57 (NdC.lv x58) H63->H63.get i0=some (Slot.obj (Sk i0 [.slice a59 l60 c61,.bool b62] 184))->PX [i5] H63 fun H64=>RX [i0] H0 (qP6_8 i0 a59 l60 c61 b62 i5 x58 i7 x8) H64 R (NdC.lv x58)))) (qP6_11 i5 H56 i0 H0 a52 l53 c54 b55 x8 i7 R))))):
 GoesT cfg 315 R [i0] H0 [Sk i0 [.slice a1 l2 c3,.bool b4] 184,Sk i5 (NdC.cs x6) 72,Sk i7 (NdC.cs x8) 72] (L315d_0 d) (loopAt cfg 315 0) H:=seg_wt (k:=(.go 9 (.cases 20 (.go 8 (.check (.facts (.callO 0 (.agg [.slice,.bool]) (.cust NdC NdC.lv) (.row (.check (.facts (.app (.go 1 (.check (.putP (.check (.go 5 (.facts (.call .str (.go 2 (.cases 30 (.go 5 (.facts (.callO 0 (.agg [.slice,.bool]) (.tuple []) (.go 9 (.cases 38 (.go 4 (.facts (.callO 0 (.agg [.slice,.bool]) (.cust NdC NdC.lv) (.putP (.go 1 (.facts .ret)))))) (.go 5 (.putP (.go 1 (.facts .ret))))))))) (.go 4 (.facts (.callO 0 (.agg [.slice,.bool]) (.tuple []) (.go 3 (.stop [4,0,5] 3)))))))))))))))))))))) (.go 5 (.facts (.callO 0 (.agg [.slice,.bool]) (.tuple []) (.go 9 (.cases 38 (.go 4 (.facts (.callO 0 (.agg [.slice,.bool]) (.cust NdC NdC.lv) (.putP (.go 1 (.facts .ret)))))) (.go 5 (.putP (.go 1 (.facts .ret)))))))))))) (by kernel_rfl) h
theorem e315d(R:RR)(a:(Option LAddr))(k:Nat)(q:Cap)(w:Bool)(s:(List UInt8))(ii:Nat)(H:LHeap)(hI:Inv [ii] H [(Sk ii [(.slice a k q),(.bool w)] 184)] H)
 (h:NX H fun i0 H1=>NX H1 fun i2 H3=>PX [i2] H3 fun H4=>Inv [ii] H [Sk ii [.slice a k q,.bool w] 184,Sk i0 qP6_1 72,Sk i2 (qP6_6 s) 72] H4->∃S5,CallL cfg 211 [.ptr (some (Lk ii 2 0)),.str [40]] H4 S5/\((qP6_4 S5 ii H4) /\(∀a6 l7 c8 b9 H10,S5 (.tuple []) H10->H10.get ii=some (Slot.obj (Sk ii [.slice a6 l7 c8,.bool b9] 184))->Inv [ii] H [Sk ii [.slice a6 l7 c8,.bool b9] 184,Sk i0 qP6_1 72,Sk i2 (qP6_6 s) 72] H10->Kb 210 [.ptr (some (Lk ii 2 0))] H10 fun s12 H13=>Cd (s12==[41]) (Inv [ii] H [Sk ii [.slice a6 l7 c8,.bool b9] 184,Sk i0 qP6_1 72,Sk i2 (qP6_6 s) 72] H13->∃S14,CallL cfg 211 [.ptr (some (Lk ii 2 0)),.str [41]] H13 S14/\((qP6_4 S14 ii H13) /\(∀a15 l16 c17 b18 H19,S14 (.tuple []) H19->H19.get ii=some (Slot.obj (Sk ii [.slice a15 l16 c17,.bool b18] 184))->PX [i0] H19 fun H20=>RX [ii] H [Sk ii [.slice a15 l16 c17,.bool b18] 184,Sk i0 (qP6_6 s) 72,Sk i2 (qP6_6 s) 72] H20 R (.agg (qP6_6 s))))) (∀d21,GoesT cfg 315 R [ii] H [Sk ii [.slice a6 l7 c8,.bool b9] 184,Sk i0 qP6_1 72,Sk i2 (qP6_6 s) 72] (L315d_0 d21) (loopAt cfg 315 0) H13)))):
 CallL cfg 315 [.ptr (some (Lk ii 2 0)),.str s] H R:=call_wt (k:=(.go 2 (.boxP (.go 5 (.boxP (.putP (.go 4 (.facts (.callO 0 (.agg [.slice,.bool]) (.tuple []) (.go 5 (.facts (.call .str (.go 2 (.cases 12 (.go 4 (.facts (.callO 0 (.agg [.slice,.bool]) (.tuple []) (.go 4 (.putP (.go 1 (.facts .ret))))))) (.go 5 (.stop [4,0,5] 3)))))))))))))))) (kn:=[Sk ii [.slice a k q,.bool w] 184]) (args:=[.own 0 0,.lv (.str s)]) (by kernel_rfl) h hI (fun x hx=>List.all_eq_true.1 (show List.all [.own 0 0,.lv (.str s)] (inR 1)=true from rfl) x hx)
abbrev qP7_1:List LV:=[I6 0,.str [],I6 0,I6 0,.str [],.str [],.str [],I6 0,I6 0,.bool false,.bool false,.str [],.str [],I6 0,I6 0,.bool false,.bool false,.slice none 0 (.exact 0)]
abbrev qP7_2(i0:Nat)(H20 H:LHeap)(i9:Nat)(a13:Option LAddr)(l14:Nat)(c15:Cap)(b16:Bool)(i18:Nat)(x12:NdC)(R:RR):Prop:=PX [i0] H20 fun H21=>R0 H [Sk i0 qP7_1 72,Sk i9 [.slice a13 l14 c15,.bool b16] 184,Sk i18 (NdC.cs x12) 72] H21 R (.tuple [.agg qP7_1,I6 10])
theorem e59d(R:RR)(s:(List UInt8))(H:LHeap)
 (h:NX H fun i0 H1=>Inv [] H [Sk i0 qP7_1 72] H1->CL 19 [.str s] H1 (.tuple [.slice,.int .i64]) fun S2=>∀a3 l4 c5 n6 H7,S2 (.tuple [.slice a3 l4 c5,I6 n6]) H7->Cd (n6 !=0) (PX [i0] H7 fun H8=>R0 H [Sk i0 qP7_1 72] H8 R (.tuple [.agg qP7_1,I6 n6])) (NX H7 fun i9 H10=>Inv [] H [Sk i0 qP7_1 72,Sk i9 [.slice a3 l4 c5,.bool false] 184] H10->∃S11,CallL cfg 128 [.ptr (some (Lk i9 2 0)),I6 1] H10 S11/\((∀v H',S11 v H'->PresX [i9] H10 H'/\(hasSh (.cust NdC NdC.lv) v/\(∃cs,hasSh (.agg [.slice,.bool]) (.agg cs)/\(List.length cs=2/\H'.get i9=some (Slot.obj ⟨i9,cs,184⟩)))))/\(∀x12 a13 l14 c15 b16 H17,S11 (NdC.lv x12) H17->H17.get i9=some (Slot.obj (Sk i9 [.slice a13 l14 c15,.bool b16] 184))->NX H17 fun i18 H19=>PX [i18] H19 fun H20=>Cd b16 (qP7_2 i0 H20 H i9 a13 l14 c15 b16 i18 x12 R) (Dc (((l14:Nat):Int)>0) (qP7_2 i0 H20 H i9 a13 l14 c15 b16 i18 x12 R) (Inv [] H [Sk i0 qP7_1 72,Sk i9 [.slice a13 l14 c15,.bool b16] 184,Sk i18 (NdC.cs x12) 72] H20->Kc 51 [NdC.lv x12] H20 fun n24 H25=>Dc (n24>24) (qP7_2 i0 H25 H i9 a13 l14 c15 b16 i18 x12 R) (PX [i0] H25 fun H27=>R0 H [Sk i0 (NdC.cs x12) 72,Sk i9 [.slice a13 l14 c15,.bool b16] 184,Sk i18 (NdC.cs x12) 72] H27 R (.tuple [NdC.lv x12,I6 0])))))))):
 CallL cfg 59 [.str s] H R:=call_wt0 (k:=(.go 2 (.boxP (.go 5 (.facts (.call (.tuple [.slice,.int .i64]) (.go 12 (.cases 14 (.go 5 (.putP (.go 2 (.facts .ret)))) (.go 6 (.boxP (.go 5 (.facts (.callO 1 (.agg [.slice,.bool]) (.cust NdC NdC.lv) (.boxP (.putP (.go 9 (.cases 26 (.go 17 (.putP (.go 2 (.facts .ret)))) (.go 8 (.cases 34 (.go 9 (.putP (.go 2 (.facts .ret)))) (.go 1 (.facts (.call (.int .i64) (.go 3 (.cases 38 (.go 4 (.putP (.go 2 (.facts .ret)))) (.go 5 (.putP (.go 2 (.facts .ret)))))))))))))))))))))))))))) (by kernel_rfl) h
theorem sl26:cfg.P.underlying 26=some (.slice 127):=by kernel_rfl
theorem sz127:sizeOfT cfg.P 127=some 9:=by kernel_rfl
theorem ag127:isAggT cfg.P 127=some true:=by kernel_rfl
def opS:List TokC->List UInt8
 |[]=>[]
 |t::_=>if t.kind=5 then t.s else []
theorem opS_cons(t:TokC)(r:List TokC):opS (t::r)=if t.kind=5 then t.s else []:=rfl
theorem opM_opS{s:List UInt8}(hs:s≠[])(ts:List TokC):opM s ts=if opS ts=s then some ts.tail else none:=by
 cases ts with
 |nil=>unfold opM opS;rw [if_neg (fun e=>hs e.symm)]
 |cons t r=>
  rw [opM_cons,opS_cons]
  by_cases h5:t.kind=5
  ·rw [if_pos h5]
   by_cases h:t.s=s
   ·rw [if_pos ⟨h5,h⟩,if_pos h];rfl
   ·rw [if_neg (fun e=>h e.2),if_neg h]
  ·rw [if_neg h5,if_neg (fun e=>h5 e.1),if_neg (fun e=>hs e.symm)]
def DS(i:Nat)(w:Bool)(r:List TokC)(H0 H:LHeap):Prop:=PresX [i] H0 H/\∃a k q,H.get i=some (Slot.obj ⟨i,[.slice a k q,.bool w],184⟩)/\TokAt H i 127 a k q r
theorem ds_at{i:Nat}{w b:Bool}{r:List TokC}{H H':LHeap}(h:DS i w r H H'){a:Option LAddr}{k:Nat}{q:Cap}(hg:H'.get i=some (Slot.obj (Slot.mk i [.slice a k q,.bool b] 184))):b=w/\TokAt H' i 127 a k q r:=by
 obtain ⟨p,a',k',q',hg',hT⟩:=h
 rw [hg'] at hg
 simp only [Slot.obj,Option.some.injEq,LObj.cells.injEq,List.cons.injEq,LV.slice.injEq,LV.bool.injEq,and_true] at hg
 obtain ⟨⟨⟨rfl,rfl,rfl⟩,rfl⟩,_⟩:=hg
 exact ⟨rfl,hT⟩
theorem ds_sh{i:Nat}{w:Bool}{r:List TokC}{H H':LHeap}(h:DS i w r H H'):PresX [i] H H'/\∃cs,hasSh (.agg [.slice,.bool]) (.agg cs)/\List.length cs=2/\H'.get i=some (Slot.obj ⟨i,cs,184⟩):=by
 obtain ⟨p,a,k,q,hg,_⟩:=h
 exact ⟨p,_,⟨_,_,_,_,rfl⟩,rfl,hg⟩
theorem tok_nil(H:LHeap)(i:Nat)(ty:TypeId):TokAt H i ty none 0 (.exact 0) []:=⟨rfl,by omega,.inl ⟨0,rfl,Nat.le_refl _⟩,fun j x hx=>by simp at hx⟩
theorem d204(s:List UInt8)(H:LHeap):CallL cfg 204 [.str s] H (Ret (.int .i64 (bindFp s)) H):=by
 refine e204 _ s H ?_
 unfold bindFp
 refine ⟨fun h=> ?_,fun h=>⟨fun h=> ?_,fun h=>⟨fun h=> ?_,fun h=>⟨fun h=> ?_,fun h=>⟨fun h=> ?_,fun h=>⟨fun h=> ?_,fun h=>⟨fun h=> ?_,fun h=>⟨fun h=> ?_,fun h=>⟨fun h=> ?_,fun h=>⟨fun h=> ?_,fun h=>⟨fun h=> ?_,fun h=>⟨fun h=> ?_,fun h=> ?_⟩⟩⟩⟩⟩⟩⟩⟩⟩⟩⟩⟩
 all_goals (intro hI;refine ⟨?_,hI.pres⟩;simp_all)
theorem d210(i:Nat)(w:Bool)(ts:List TokC)(a:Option LAddr)(k:Nat)(q:Cap)(H:LHeap)(hI:Inv [i] H [⟨i,[.slice a k q,.bool w],184⟩] H)(hT:TokAt H i 127 a k q ts):
  CallL cfg 210 [.ptr (some ⟨i,2,0⟩)] H (Ret (.str (opS ts)) H):=by
 have hl:=hT.len
 refine e210d _ a k q w i H hI ⟨fun h=> ?_,fun h hI2=> ?_⟩
 ·match ts,hT,hl with
  |[],hT,hl=>simp [hl] at h
  |t::r,hT,hl=>
   obtain ⟨h1,h2,h3,h4,h5⟩:=hT.tok 0 t rfl
   rw [List.length_cons] at hl
   have hc:((0:Int)<=(0:Int))/\((0:Int)<((k:Nat):Int))/\(Option.isSome a)=Bool.true:=⟨by omega,by omega,h1⟩
   refine ⟨hc,fun hI2=>⟨t.kind,load_field (a:=⟨(adr a).id,(adr a).ver,(adr a).off+0⟩) (k:=0) ag127 sz127 h5 ag3 rfl,fun hk=>⟨hc,fun hI3=>⟨t.s,load_field (a:=⟨(adr a).id,(adr a).ver,(adr a).off+0⟩) (k:=2) ag127 sz127 h5 ag9 rfl,fun hI4=>⟨?_,.refl _ _⟩⟩⟩,fun hk hI3=>⟨?_,.refl _ _⟩⟩⟩
   ·rw [opS_cons,if_pos (by simpa using hk)]
   ·rw [opS_cons,if_neg (by simpa using hk)]
 ·have h0:ts=[]:=by
   cases ts with
   |nil=>rfl
   |cons t r=>simp [hl] at h
  subst h0
  exact ⟨rfl,.refl _ _⟩
def TakeS(i:Nat)(s:List UInt8)(w:Bool)(ts:List TokC)(H:LHeap):LV->LHeap->Prop:=fun v H'=>v=.tuple []/\((∃r,opM s ts=some r/\DS i w r H H')\/(opM s ts=none/\DS i true [] H H'))
theorem takeS_sh{i:Nat}{s:List UInt8}{w:Bool}{ts:List TokC}{H:LHeap}(v:LV)(H':LHeap)(h:TakeS i s w ts H v H'):PresX [i] H H'/\hasSh (.tuple []) v/\∃cs,hasSh (.agg [.slice,.bool]) (.agg cs)/\List.length cs=2/\H'.get i=some (Slot.obj ⟨i,cs,184⟩):=by
 obtain ⟨rfl,⟨r,_,hd⟩ |⟨_,hd⟩⟩:=h
 ·exact ⟨(ds_sh hd).1,rfl,(ds_sh hd).2⟩
 ·exact ⟨(ds_sh hd).1,rfl,(ds_sh hd).2⟩
theorem d211(i:Nat)(s:List UInt8)(hs:s≠[])(w:Bool)(ts:List TokC)(a:Option LAddr)(k:Nat)(q:Cap)(H:LHeap)(hI:Inv [i] H [⟨i,[.slice a k q,.bool w],184⟩] H)(hT:TokAt H i 127 a k q ts):
  CallL cfg 211 [.ptr (some ⟨i,2,0⟩),.str s] H (TakeS i s w ts H):=by
 refine e211d _ a k q w s i H hI fun hI1=>⟨_,d210 i w ts a k q H hI1 hT,Ret.use ⟨_,rfl⟩,fun s1 H2 hS=> ?_⟩
 obtain ⟨e,p2⟩:=hS
 cases e
 have ho:=opM_opS hs ts
 have hi:i<H.next:=(hI.slot 0 _ rfl).1
 refine ⟨fun h H3 p3 H4 p4 hI4=>⟨rfl,.inr ⟨?_,hI4.pres,_,_,_,slot_i hI4,tok_nil _ _ _⟩⟩,fun h=> ?_⟩
 ·rw [ho,if_neg (by simpa using h)]
 ·have he:opS ts=s:=by simpa using h
  rw [if_pos he] at ho
  match ts,hT,ho,he with
  |[],hT,ho,he=>exact absurd he.symm hs
  |t::r,hT,ho,he=>
   obtain ⟨a',k',q',hsl,hT'⟩:=hT.tail sl26 sz127
   exact ⟨a',k',q',hsl,fun H9 p9 hI9=>⟨rfl,.inl ⟨r,ho,hI9.pres,a',k',q',slot_i hI9,hT'.on hI9.pres ge_one⟩⟩⟩
theorem d302(i:Nat)(w:Bool)(a:Option LAddr)(k:Nat)(q:Cap)(H:LHeap)(hI:Inv [i] H [⟨i,[.slice a k q,.bool w],184⟩] H):
  CallL cfg 302 [.ptr (some ⟨i,2,0⟩)] H (fun v H'=>v=nilNp.lv/\DS i true [] H H'):=
 e302d _ a k q w i H hI fun i0 H1 l0 p1 H2 p2 H3 p3 H4 p4 hI4=>⟨rfl,hI4.pres,_,_,_,slot_i hI4,tok_nil _ _ _⟩
theorem failS_sh{i:Nat}{H:LHeap}(v:LV)(H':LHeap)(h:v=nilNp.lv/\DS i true [] H H'):PresX [i] H H'/\hasSh (.cust NdC NdC.lv) v/\∃cs,hasSh (.agg [.slice,.bool]) (.agg cs)/\List.length cs=2/\H'.get i=some (Slot.obj ⟨i,cs,184⟩):=by
 obtain ⟨rfl,hd⟩:=h
 exact ⟨(ds_sh hd).1,⟨_,rfl⟩,(ds_sh hd).2⟩
def DocS(i:Nat)(q:DQ)(H:LHeap):LV->LHeap->Prop:=fun v H'=>
 (∃nd r,PD q (some ([bareN nd],r))/\v=nd.root.lv/\NdAt H' nd/\NdIds (H.next<=·) nd/\DS i false r H H')\/(∃x:NdC,PD q none/\v=x.lv/\DS i true [] H H')
theorem docS_sh{i:Nat}{q:DQ}{H:LHeap}(v:LV)(H':LHeap)(h:DocS i q H v H'):PresX [i] H H'/\hasSh (.cust NdC NdC.lv) v/\∃cs,hasSh (.agg [.slice,.bool]) (.agg cs)/\List.length cs=2/\H'.get i=some (Slot.obj ⟨i,cs,184⟩):=by
 rcases h with ⟨nd,r,_,rfl,_,_,hd⟩ |⟨x,_,rfl,hd⟩
 ·exact ⟨(ds_sh hd).1,⟨_,rfl⟩,(ds_sh hd).2⟩
 ·exact ⟨(ds_sh hd).1,⟨_,rfl⟩,(ds_sh hd).2⟩
def BinC(ts:List TokC):Prop:=∀(i:Nat) (b:Int) (a:Option LAddr) (k:Nat) (q:Cap) (H:LHeap),1<=b->b<=6->Inv [i] H [⟨i,[.slice a k q,.bool false],184⟩] H->TokAt H i 127 a k q ts->
 CallL cfg 128 [.ptr (some ⟨i,2,0⟩),.int .i64 b] H (DocS i (.bin b ts) H)
def UnC(ts:List TokC):Prop:=∀(i:Nat) (a:Option LAddr) (k:Nat) (q:Cap) (H:LHeap),Inv [i] H [⟨i,[.slice a k q,.bool false],184⟩] H->TokAt H i 127 a k q ts->
 CallL cfg 209 [.ptr (some ⟨i,2,0⟩)] H (DocS i (.un ts) H)
def PlainC(ts:List TokC):Prop:=∀(i:Nat) (a:Option LAddr) (k:Nat) (q:Cap) (H:LHeap),Inv [i] H [⟨i,[.slice a k q,.bool false],184⟩] H->TokAt H i 127 a k q ts->
 CallL cfg 269 [.ptr (some ⟨i,2,0⟩)] H (DocS i (.plain ts) H)
theorem dloop209(i:Nat)(H0:LHeap)(hi:i<H0.next)(R:LV->LHeap->Prop)(i5:Nat)(x6:NdC)(i7:Nat)(h5:H0.next<=i5)(h7:H0.next<=i7):∀(n:Nat) (ts:List TokC) (nd:Nd) (d:Nat->LV) (a:Option LAddr) (k:Nat) (q:Cap) (H:LHeap),ts.length<n->TokAt H i 127 a k q ts->NdAt H nd->
  NdIds (fun j=>H0.next<=j/\j≠i5/\j≠i7) nd->(∀nd' v H',bareN nd'=(pctM (bareN nd) ts).1->v=nd'.root.lv->NdAt H' nd'->NdIds (H0.next<=·) nd'->DS i false (pctM (bareN nd) ts).2 H0 H'->R v H')->
  GoesT cfg 209 R [i] H0 [⟨i,[.slice a k q,.bool false],184⟩,⟨i5,x6.cs,72⟩,⟨i7,nd.root.cs,72⟩] (L209d_0 d) (loopAt cfg 209 0) H
 |0,_,_,_,_,_,_,_,h,_,_,_,_=>by omega
 |n+1,ts,nd,d,a,k,q,H,hn,hT,hN,hD,hR=>by
  intro hin hI
  have ho:=opM_opS (s:=[37]) (by decide) ts
  have l5:=(hI.slot 1 _ rfl).1
  have l7:=(hI.slot 2 _ rfl).1
  simp only at l5 l7
  refine g209d_0 _ H0 d i a k q false i5 x6 i7 nd.root H ⟨fun _ hI1=>⟨_,d210 i false ts a k q H (inv_one hI1) hT,Ret.use ⟨_,rfl⟩,fun s10 H11 hS=> ?_⟩,fun h=>by cases h⟩ hin hI
  obtain ⟨e,p11⟩:=hS
  cases e
  have p11':PresX [i] H0 H11:=hI.pres.trans0 p11
  have hT11:=hT.via hI.pres p11' hi
  have n11:=p11.next
  refine ⟨fun h hI11=>⟨_,d211 i [37] (by decide) false ts a k q H11 (inv_one hI11) hT11,takeS_sh,fun a13 l14 c15 b16 H17 hS g17 H18 e18 H19 p19 d20=> ?_⟩,fun h H21 p21 hI21=> ?_⟩
  ·have he:opS ts=[37]:=by simpa using h
   rw [if_pos he] at ho
   rcases hS.2 with ⟨r,hr,hd⟩ |⟨hr,_⟩
   ·obtain ⟨rfl,hT17⟩:=ds_at hd g17
    have p17:PresX [i] H0 H17:=p11'.trans hd.1 (fun y h=>.inl h)
    have n17:=hd.1.next
    have hN17:NdAt H17 nd:=NdAt.onY hd.1 (NdIds.mono (fun j hj hm=>by have:=List.mem_singleton.1 hm;omega) hD) (NdAt.on p11 hN)
    have hnew:=node_new (H:=H17) (H1:=H18) (ms:=[nd]) (x:={ nilNp with kind:=5,s:=[37],argsA:=some ⟨H17.next,18,0⟩,argsL:=1,argsQ:=.exact 1 }) (by rw [e18];simp [cellsOf]) (fun m hm=>by rw [List.mem_singleton.1 hm];exact hN17) rfl rfl (by simp)
    have hDn:NdIds (fun j=>H0.next<=j/\j≠i5/\j≠i7) (.mk { nilNp with kind:=5,s:=[37],argsA:=some ⟨H17.next,18,0⟩,argsL:=1,argsQ:=.exact 1 } [nd]):=by
     unfold NdIds NdsIds NdsIds
     have:=p17.next
     exact ⟨.inr ⟨this,by simp only [adr];omega,by simp only [adr];omega⟩,hD,trivial⟩
    refine dloop209 i H0 hi R i5 x6 i7 h5 h7 n r (.mk { nilNp with kind:=5,s:=[37],argsA:=some ⟨H17.next,18,0⟩,argsL:=1,argsQ:=.exact 1 } [nd]) d20 a13 l14 c15 H19 (by have:=opM_len hr;omega)
     (hT17.via p17 ((p17.trans0 hnew.2).trans p19 (fun y hy=>.inr (by rw [List.mem_singleton.1 hy];exact h7))) hi) (NdAt.onY p19 (NdIds.mono (fun j hj hm=>hj.2.2 (List.mem_singleton.1 hm)) hDn) hnew.1) hDn ?_
    intro nd' v H' h1 h2 h3 h4 h5
    rw [pctM_some hr] at hR
    exact hR nd' v H' h1 h2 h3 h4 h5
   ·rw [hr] at ho;cases ho
  ·have he:¬opS ts=[37]:=by simpa using h
   rw [if_neg he] at ho
   rw [pctM_none ho] at hR
   exact hR nd _ H21 rfl rfl (NdAt.onY p21 (NdIds.mono (fun j hj hm=>hj.2.1 (List.mem_singleton.1 hm)) hD) (NdAt.on p11 hN)) (NdIds.mono (fun j hj=>hj.1) hD) ⟨hI21.pres,_,_,_,slot_i hI21,hT11.via p11' hI21.pres hi⟩
theorem dloop209_bad(i:Nat)(H0:LHeap)(R:LV->LHeap->Prop)(i5:Nat)(x6:NdC)(i7:Nat)(x8:NdC)(d:Nat->LV)(a:Option LAddr)(k:Nat)(q:Cap)(H:LHeap)(hT:TokAt H i 127 a k q [])(hi:i<H0.next)(hR:∀H',DS i true [] H0 H'->R x8.lv H'):
  GoesT cfg 209 R [i] H0 [⟨i,[.slice a k q,.bool true],184⟩,⟨i5,x6.cs,72⟩,⟨i7,x8.cs,72⟩] (L209d_0 d) (loopAt cfg 209 0) H:=by
 intro hin hI
 exact g209d_0 _ H0 d i a k q true i5 x6 i7 x8 H ⟨fun h=>(by cases h),fun _ H22 p22 hI22=>hR H22 ⟨hI22.pres,_,_,_,slot_i hI22,hT.via hI.pres hI22.pres hi⟩⟩ hin hI
theorem un_of(ts:List TokC)(hP:PlainC ts)(hR:∀r,r.length<ts.length->UnC r):UnC ts:=by
 intro i a k q H hI hT
 have hi:i<H.next:=(hI.slot 0 _ rfl).1
 have ho:=opM_opS (s:=[45]) (by decide) ts
 refine e209d _ a k q false i H hI fun i0 H1 l0 p1 hI1=>⟨_,d210 i false ts a k q H1 (inv_one hI1) (hT.via (.refl _ _) hI1.pres hi),Ret.use ⟨_,rfl⟩,fun s3 H4 hS=> ?_⟩
 obtain ⟨e,p4⟩:=hS
 cases e
 have p4':PresX [i] H H4:=hI1.pres.trans0 p4
 have hT4:=hT.via (.refl _ _) p4' hi
 have l0':=(hI1.slot 1 _ rfl).1
 simp only at l0'
 have n4:=p4.next
 have n1:=p4'.next
 refine ⟨fun h hI4=>⟨_,d211 i [45] (by decide) false ts a k q H4 (inv_one hI4) hT4,takeS_sh,fun a6 l7 c8 b9 H10 hS g10 hI10=> ?_⟩,fun h hI4=>⟨_,hP i a k q H4 (inv_one hI4) hT4,docS_sh,fun x24 a25 l26 c27 b28 H29 hS g29 i30 H31 l31 p31 H32 p32 d33=> ?_⟩⟩
 ·have he:opS ts=[45]:=by simpa using h
  rw [if_pos he] at ho
  rcases hS.2 with ⟨r,hr,hd⟩ |⟨hr,_⟩
  ·obtain ⟨rfl,hT10⟩:=ds_at hd g10
   have p10:PresX [i] H H10:=hI10.pres
   have n10:=hd.1.next
   refine ⟨_,hR r (by have:=opM_len hr;omega) i a6 l7 c8 H10 (inv_one hI10) hT10,docS_sh,fun x12 a13 l14 c15 b16 H17 hS g17 i18 H19 l19 p19 H20 p20 H21 e21 H22 p22 hI22=> ?_⟩
   rcases hS with ⟨nd,r',hPD,e,hN,hD,hd'⟩ |⟨x,hPD,e,hd'⟩
   ·obtain rfl:=NdC.lv_inj e
    obtain ⟨rfl,hT17⟩:=ds_at hd' g17
    have p17:PresX [i] H H17:=p10.trans hd'.1 (fun y h=>.inl h)
    have n17:=hd'.1.next
    have n19:=p19.next
    have n20:=p20.next
    have hN20:NdAt H20 nd:=NdAt.onY p20 (NdIds.mono (fun j hj hm=>by have:=List.mem_singleton.1 hm;omega) (NdAt.ids hN)) (NdAt.on p19 hN)
    have hnew:=node_new (H:=H20) (H1:=H21) (ms:=[nd]) (x:={ nilNp with kind:=5,s:=[45],argsA:=some ⟨H20.next,18,0⟩,argsL:=1,argsQ:=.exact 1 }) (by rw [e21];simp [cellsOf]) (fun m hm=>by rw [List.mem_singleton.1 hm];exact hN20) rfl rfl (by simp)
    have hDn:NdIds (fun j=>H10.next<=j) (.mk { nilNp with kind:=5,s:=[45],argsA:=some ⟨H20.next,18,0⟩,argsL:=1,argsQ:=.exact 1 } [nd]):=by
     unfold NdIds NdsIds NdsIds
     exact ⟨.inr (by simp only [adr];omega),hD,trivial⟩
    exact .inl ⟨.mk { nilNp with kind:=5,s:=[45],argsA:=some ⟨H20.next,18,0⟩,argsL:=1,argsQ:=.exact 1 } [nd],r',.minus hr hPD,rfl,NdAt.onY p22 (NdIds.mono (fun j hj hm=>by have:=List.mem_singleton.1 hm;omega) hDn) hnew.1,NdIds.mono (fun j hj=>by omega) hDn,hI22.pres,_,_,_,slot_i hI22,hT17.via p17 hI22.pres hi⟩
   ·obtain ⟨rfl,hT17⟩:=ds_at hd' g17
    have p17:PresX [i] H H17:=p10.trans hd'.1 (fun y h=>.inl h)
    exact .inr ⟨{ nilNp with kind:=5,s:=[45],argsA:=some ⟨H20.next,18,0⟩,argsL:=1,argsQ:=.exact 1 },.minus0 hr hPD,rfl,hI22.pres,_,_,_,slot_i hI22,hT17.via p17 hI22.pres hi⟩
  ·rw [hr] at ho;cases ho
 ·have he:¬opS ts=[45]:=by simpa using h
  rw [if_neg he] at ho
  rcases hS with ⟨nd,r',hPD,e,hN,hD,hd'⟩ |⟨x,hPD,e,hd'⟩
  ·obtain rfl:=NdC.lv_inj e
   obtain ⟨rfl,hT29⟩:=ds_at hd' g29
   have p29:PresX [i] H H29:=p4'.trans hd'.1 (fun y h=>.inl h)
   have n29:=hd'.1.next
   have n31:=p31.next
   have hN32:NdAt H32 nd:=NdAt.onY p32 (NdIds.mono (fun j hj hm=>by have:=List.mem_singleton.1 hm;omega) (NdAt.ids hN)) (NdAt.on p31 hN)
   refine dloop209 i H hi _ i0 nilNp i30 (by omega) (by omega) (r'.length+1) r' nd d33 a25 l26 c27 H32 (by omega)
    (hT29.via p29 ((p29.trans0 p31).trans p32 (fun y hy=>.inr (by rw [List.mem_singleton.1 hy];omega))) hi) hN32 (NdIds.mono (fun j hj=>⟨by omega,by omega,by omega⟩) (NdIds.and hD (NdAt.ids hN))) ?_
   intro nd' v H' h1 h2 h3 h4 h5
   refine .inl ⟨nd',_,?_,h2,h3,h4,h5⟩
   rw [h1]
   exact .plain ho hPD
  ·obtain ⟨rfl,hT29⟩:=ds_at hd' g29
   have p29:PresX [i] H H29:=p4'.trans hd'.1 (fun y h=>.inl h)
   have n29:=hd'.1.next
   exact dloop209_bad i H _ i0 nilNp i30 x24 d33 a25 l26 c27 H32 (hT29.via p29 ((p29.trans0 p31).trans p32 (fun y hy=>.inr (by rw [List.mem_singleton.1 hy];omega))) hi) hi (fun H' hds=>.inr ⟨x24,.plain0 ho hPD,rfl,hds⟩)
theorem just_iff{b:Int}(hb:1<=b)(ts:List TokC):bindFp (opS ts)=b↔justM b ts:=by
 cases ts with
 |nil=>
  constructor
  ·intro h
   have:bindFp (opS [])=0:=by decide
   omega
  ·intro h;exact h.elim
 |cons t r=>
  rw [opS_cons]
  unfold justM
  by_cases h5:t.kind=5
  ·rw [if_pos h5];exact ⟨fun h=>⟨h5,h⟩,fun h=>h.2⟩
  ·rw [if_neg h5]
   have:bindFp []=0:=by decide
   exact ⟨fun h=>by omega,fun h=>absurd h.1 h5⟩
theorem dloop128_bad(b:Int)(i:Nat)(H0:LHeap)(R:LV->LHeap->Prop)(i5:Nat)(x6:NdC)(i7:Nat)(x8:NdC)(d:Nat->LV)(a:Option LAddr)(k:Nat)(q:Cap)(H:LHeap)(hT:TokAt H i 127 a k q [])(hi:i<H0.next)(hR:∀H',DS i true [] H0 H'->R x8.lv H'):
  GoesT cfg 128 R [i] H0 [⟨i,[.slice a k q,.bool true],184⟩,⟨i5,x6.cs,72⟩,⟨i7,x8.cs,72⟩] (L128d_0 d b) (loopAt cfg 128 0) H:=by
 intro hin hI
 exact g128d_0 _ H0 d b i a k q true i5 x6 i7 x8 H ⟨fun h=>(by cases h),fun _ H22 p22 hI22=>hR H22 ⟨hI22.pres,_,_,_,slot_i hI22,hT.via hI.pres hI22.pres hi⟩⟩ hin hI
theorem dloop128(i:Nat)(H0:LHeap)(hi:i<H0.next)(b:Int)(hb1:1<=b)(hb2:b<=5)(R:LV->LHeap->Prop)(i5:Nat)(x6:NdC)(i7:Nat)(h5:H0.next<=i5)(h7:H0.next<=i7)(ts0:List TokC)(hL:∀r,r.length<ts0.length->BinC r):
  ∀(n:Nat) (ts:List TokC) (nd:Nd) (d:Nat->LV) (a:Option LAddr) (k:Nat) (q:Cap) (H:LHeap),ts.length<n->ts.length<=ts0.length->TokAt H i 127 a k q ts->NdAt H nd->
  NdIds (fun j=>H0.next<=j/\j≠i5/\j≠i7) nd->
  (∀nd' r v H',PD (.loop b (bareN nd) ts) (some ([bareN nd'],r))->v=nd'.root.lv->NdAt H' nd'->NdIds (H0.next<=·) nd'->DS i false r H0 H'->R v H')->
  (PD (.loop b (bareN nd) ts) none->∀(x:NdC) H',DS i true [] H0 H'->R x.lv H')->
  GoesT cfg 128 R [i] H0 [⟨i,[.slice a k q,.bool false],184⟩,⟨i5,x6.cs,72⟩,⟨i7,nd.root.cs,72⟩] (L128d_0 d b) (loopAt cfg 128 0) H
 |0,_,_,_,_,_,_,_,h,_,_,_,_,_,_=>by omega
 |n+1,ts,nd,d,a,k,q,H,hn,hts,hT,hN,hD,hR,hPn=>by
  intro hin hI
  have l5:=(hI.slot 1 _ rfl).1
  have l7:=(hI.slot 2 _ rfl).1
  simp only at l5 l7
  refine g128d_0 _ H0 d b i a k q false i5 x6 i7 nd.root H ⟨fun _ hI1=>⟨_,d210 i false ts a k q H (inv_one hI1) hT,Ret.use ⟨_,rfl⟩,fun s11 H12 hS hI12=>⟨_,d204 s11 H12,Ret.use ⟨_,rfl⟩,fun n14 H15 hS2=> ?_⟩⟩,fun h=>(by cases h)⟩ hin hI
  obtain ⟨e,p12⟩:=hS
  cases e
  obtain ⟨e,p15⟩:=hS2
  cases e
  have p15':PresX [i] H0 H15:=(hI.pres.trans0 p12).trans0 p15
  have p0:PresX [] H H15:=p12.trans0 p15
  have hT15:=hT.via hI.pres p15' hi
  refine ⟨fun h hI15=>⟨_,d210 i false ts a k q H15 (inv_one hI15) hT15,Ret.use ⟨_,rfl⟩,fun s17 H18 hS hI18=> ?_⟩,fun h H38 p38 hI38=> ?_⟩
  ·obtain ⟨e,p18⟩:=hS
   cases e
   have hj:justM b ts:=(just_iff hb1 ts).1 (by simpa using h)
   match ts,hT,hts,hn,hR,hPn,hT15,hj with
   |t::r,hT,hts,hn,hR,hPn,hT15,hj=>
    obtain ⟨hk5,hbt⟩:=hj
    have hso:opS (t::r)=t.s:=by rw [opS_cons,if_pos hk5]
    rw [hso]
    have hne:t.s≠[]:=by
     intro e
     rw [e] at hbt
     have:bindFp []=0:=by decide
     omega
    have p18':PresX [i] H0 H18:=p15'.trans0 p18
    refine ⟨_,d211 i t.s hne false (t::r) a k q H18 (inv_one hI18) (hT15.via p15' p18' hi),takeS_sh,fun a20 l21 c22 b23 H24 hS g24 hI24=> ?_⟩
    rcases hS.2 with ⟨r0,hr,hd⟩ |⟨hr,_⟩
    ·have hr0:r0=r:=by
      rw [opM_cons,if_pos ⟨hk5,rfl⟩] at hr
      cases hr;rfl
     subst hr0
     obtain ⟨rfl,hT24⟩:=ds_at hd g24
     rw [lwrap_small (by omega) (by omega)]
     have n18:=p18.next
     have n0:=p0.next
     have n24:=hd.1.next
     simp only [List.length_cons] at hts hn
     refine ⟨_,hL r0 (by omega) i (b+1) a20 l21 c22 H24 (by omega) (by omega) (inv_one hI24) hT24,docS_sh,fun x26 a27 l28 c29 b30 H31 hS g31 i32 H33 l33 p33 H34 p34 H35 e35 H36 p36 d37=> ?_⟩
     have p24:PresX [i] H0 H24:=hI24.pres
     have hN24:NdAt H24 nd:=NdAt.onY hd.1 (NdIds.mono (fun j hj hm=>by have:=List.mem_singleton.1 hm;omega) hD) (NdAt.on p18 (NdAt.on p0 hN))
     rcases hS with ⟨m,r'',hPD,e,hM,hDm,hd'⟩ |⟨x,hPD,e,hd'⟩
     ·obtain rfl:=NdC.lv_inj e
      obtain ⟨rfl,hT31⟩:=ds_at hd' g31
      have p31:PresX [i] H0 H31:=p24.trans hd'.1 (fun y h=>.inl h)
      have n31:=hd'.1.next
      have n33:=p33.next
      have n34:=p34.next
      have hN31:NdAt H31 nd:=NdAt.onY hd'.1 (NdIds.mono (fun j hj hm=>by have:=List.mem_singleton.1 hm;omega) hD) hN24
      have hN34:NdAt H34 nd:=NdAt.onY p34 (NdIds.mono (fun j hj hm=>by have:=List.mem_singleton.1 hm;omega) (NdAt.ids hN31)) (NdAt.on p33 hN31)
      have hM34:NdAt H34 m:=NdAt.onY p34 (NdIds.mono (fun j hj hm=>by have:=List.mem_singleton.1 hm;omega) (NdAt.ids hM)) (NdAt.on p33 hM)
      have p34':PresX [i] H0 H34:=(p31.trans0 p33).trans p34 (fun y hy=>.inr (by rw [List.mem_singleton.1 hy];have:=p31.next;omega))
      have hnew:=node_new (H:=H34) (H1:=H35) (ms:=[nd,m]) (x:={ nilNp with kind:=6,s:=t.s,argsA:=some ⟨H34.next,36,0⟩,argsL:=2,argsQ:=.exact 2 }) (by rw [e35];rfl)
       (fun m' hm'=>by
         rcases List.mem_cons.1 hm' with rfl |hm'
         ·exact hN34
         ·rw [List.mem_singleton.1 hm'];exact hM34) rfl rfl (by simp)
      have hDn:NdIds (fun j=>H0.next<=j/\j≠i5/\j≠i7) (.mk { nilNp with kind:=6,s:=t.s,argsA:=some ⟨H34.next,36,0⟩,argsL:=2,argsQ:=.exact 2 } [nd,m]):=by
       unfold NdIds NdsIds NdsIds NdsIds
       have:=p24.next
       exact ⟨.inr ⟨by simp only [adr];omega,by simp only [adr];omega,by simp only [adr];omega⟩,hD,NdIds.mono (fun j hj=>⟨by omega,by omega,by omega⟩) hDm,trivial⟩
      have hlen:=(hPD.same (show (1:Int)<=b+1 by omega) (show b+1<=6 by omega)).less rfl
      simp only at hlen
      refine dloop128 i H0 hi b hb1 hb2 R i5 x6 i7 h5 h7 ts0 hL n r'' (.mk { nilNp with kind:=6,s:=t.s,argsA:=some ⟨H34.next,36,0⟩,argsL:=2,argsQ:=.exact 2 } [nd,m]) d37 a27 l28 c29 H36 (by omega) (by omega)
       (hT31.via p31 ((p34'.trans0 hnew.2).trans p36 (fun y hy=>.inr (by rw [List.mem_singleton.1 hy];exact h7))) hi) (NdAt.onY p36 (NdIds.mono (fun j hj hm=>hj.2.2 (List.mem_singleton.1 hm)) hDn) hnew.1) hDn
       (fun nd' r3 v H' h1 h2 h3 h4 h5=>hR nd' r3 v H' (.loop hk5 hbt hPD h1) h2 h3 h4 h5) (fun h1=>hPn (.loop hk5 hbt hPD h1))
     ·obtain ⟨rfl,hT31⟩:=ds_at hd' g31
      have p31:PresX [i] H0 H31:=p24.trans hd'.1 (fun y h=>.inl h)
      have n31:=p31.next
      have p34':PresX [i] H0 H34:=(p31.trans0 p33).trans p34 (fun y hy=>.inr (by rw [List.mem_singleton.1 hy];omega))
      have p35:PresX [] H34 H35:=by rw [e35];exact .push _ _ _
      have p36':PresX [i] H0 H36:=(p34'.trans0 p35).trans p36 (fun y hy=>.inr (by rw [List.mem_singleton.1 hy];exact h7))
      exact dloop128_bad b i H0 R i5 x6 i7 { nilNp with kind:=6,s:=t.s,argsA:=some ⟨H34.next,36,0⟩,argsL:=2,argsQ:=.exact 2 } d37 a27 l28 c29 H36 (hT31.via p31 p36' hi) hi (fun H' hds=>hPn (.loop0 hk5 hbt hPD) _ H' hds)
    ·rw [opM_cons,if_pos ⟨hk5,rfl⟩] at hr;cases hr
  ·have hj:¬justM b ts:=fun hj=>by
    have:=(just_iff hb1 ts).2 hj
    simp [this] at h
   exact hR nd ts _ H38 (.stop hj) rfl (NdAt.onY p38 (NdIds.mono (fun j hj hm=>hj.2.1 (List.mem_singleton.1 hm)) hD) (NdAt.on p0 hN)) (NdIds.mono (fun j hj=>hj.1) hD) ⟨hI38.pres,_,_,_,slot_i hI38,hT15.via p15' hI38.pres hi⟩
theorem bin_of(ts:List TokC)(hU:UnC ts)(hL:∀r,r.length<ts.length->BinC r):∀(n:Nat) (i:Nat) (b:Int) (a:Option LAddr) (k:Nat) (q:Cap) (H:LHeap),6-b<n->1<=b->b<=6->Inv [i] H [⟨i,[.slice a k q,.bool false],184⟩] H->TokAt H i 127 a k q ts->
  CallL cfg 128 [.ptr (some ⟨i,2,0⟩),.int .i64 b] H (DocS i (.bin b ts) H)
 |0,i,b,a,k,q,H,hn,hb1,hb2,hI,hT=>by omega
 |n+1,i,b,a,k,q,H,hn,hb1,hb2,hI,hT=>by
  have hi:i<H.next:=(hI.slot 0 _ rfl).1
  refine e128d _ a k q false b i H hI fun i0 H1 l0 p1=>⟨fun h hI1=>⟨_,hU i a k q H1 (inv_one hI1) (hT.via (.refl _ _) hI1.pres hi),docS_sh,fun x3 a4 l5 c6 b7 H8 hS g8 H9 p9 hI9=> ?_⟩,fun h hI1=> ?_⟩
  ·have hb:b=6:=by simp at h;omega
   subst hb
   have l0':=(hI1.slot 1 _ rfl).1
   simp only at l0'
   have n1:=hI1.pres.next
   rcases hS with ⟨nd,r,hPD,e,hN,hD,hd⟩ |⟨x,hPD,e,hd⟩
   ·obtain rfl:=NdC.lv_inj e
    obtain ⟨rfl,hT8⟩:=ds_at hd g8
    have p8:PresX [i] H H8:=hI1.pres.trans hd.1 (fun y h=>.inl h)
    exact .inl ⟨nd,r,.un hPD,rfl,NdAt.onY p9 (NdIds.mono (fun j hj hm=>by have:=List.mem_singleton.1 hm;omega) hD) hN,NdIds.mono (fun j hj=>by omega) hD,hI9.pres,_,_,_,slot_i hI9,hT8.via p8 hI9.pres hi⟩
   ·obtain ⟨rfl,hT8⟩:=ds_at hd g8
    have p8:PresX [i] H H8:=hI1.pres.trans hd.1 (fun y h=>.inl h)
    exact .inr ⟨x3,.un hPD,rfl,hI9.pres,_,_,_,slot_i hI9,hT8.via p8 hI9.pres hi⟩
  ·have hb5:b<=5:=by simpa using h
   rw [lwrap_small (by omega) (by omega)]
   have l0':=(hI1.slot 1 _ rfl).1
   simp only at l0'
   have n1:=hI1.pres.next
   refine ⟨_,bin_of ts hU hL n i (b+1) a k q H1 (by omega) (by omega) (by omega) (inv_one hI1) (hT.via (.refl _ _) hI1.pres hi),docS_sh,fun x11 a12 l13 c14 b15 H16 hS g16 i17 H18 l18 p18 H19 p19 d20=> ?_⟩
   have n18:=p18.next
   rcases hS with ⟨nd,r,hPD,e,hN,hD,hd⟩ |⟨x,hPD,e,hd⟩
   ·obtain rfl:=NdC.lv_inj e
    obtain ⟨rfl,hT16⟩:=ds_at hd g16
    have p16:PresX [i] H H16:=hI1.pres.trans hd.1 (fun y h=>.inl h)
    have n16:=hd.1.next
    have hlen:=(hPD.same (show (1:Int)<=b+1 by omega) (show b+1<=6 by omega)).less rfl
    simp only at hlen
    exact dloop128 i H hi b hb1 hb5 _ i0 nilNp i17 (by omega) (by omega) ts hL (r.length+1) r nd d20 a12 l13 c14 H19 (by omega) (by omega)
     (hT16.via p16 ((p16.trans0 p18).trans p19 (fun y hy=>.inr (by rw [List.mem_singleton.1 hy];omega))) hi)
     (NdAt.onY p19 (NdIds.mono (fun j hj hm=>by have:=List.mem_singleton.1 hm;omega) (NdAt.ids hN)) (NdAt.on p18 hN)) (NdIds.mono (fun j hj=>⟨by omega,by omega,by omega⟩) (NdIds.and hD (NdAt.ids hN)))
     (fun nd' r' v H' h1 h2 h3 h4 h5=>.inl ⟨nd',r',.bin ⟨hb1,hb5⟩ hPD h1,h2,h3,h4,h5⟩) (fun h1 x H' hds=>.inr ⟨x,.bin ⟨hb1,hb5⟩ hPD h1,rfl,hds⟩)
   ·obtain ⟨rfl,hT16⟩:=ds_at hd g16
    have p16:PresX [i] H H16:=hI1.pres.trans hd.1 (fun y h=>.inl h)
    have n16:=p16.next
    exact dloop128_bad b i H _ i0 nilNp i17 x11 d20 a12 l13 c14 H19 (hT16.via p16 ((p16.trans0 p18).trans p19 (fun y hy=>.inr (by rw [List.mem_singleton.1 hy];omega))) hi) hi (fun H' hds=>.inr ⟨x11,.bin0 ⟨hb1,hb5⟩ hPD,rfl,hds⟩)
end Go.Proofs.YtjihhflffkoffaaGreatDoor.Z
