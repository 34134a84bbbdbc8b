/- Contracts of functions of the program; no condition. -/
import Derived.Test.YtjihhflffkoffaaGreatDoorG0
import Derived.Test.YtjihhflffkoffaaGreatDoorLe
set_option linter.unusedSimpArgs false
set_option linter.unusedVariables false
set_option linter.unusedSectionVars false
set_option linter.unnecessarySimpa false
namespace Go.Proofs.YtjihhflffkoffaaGreatDoor.Z
open Go Go.Lm
set_option maxRecDepth 1000000
set_option maxHeartbeats 0
def L81b_0(d:Nat->LV)(n0:Int)(n1:Int)(a2:Option LAddr)(l3:Nat)(c4:Cap)(f5:Go.Lm.LAddr)(f6:Go.Lm.LAddr):List SV:=[(.lv (.slice a2 l3 c4)),(.lv (.func (Fn.func 83) [] [(.ptr (some f5)),(.ptr (some f6))])),(.lv (d 2)),(.lv (d 3)),(.lv (d 4)),(.lv (.int Go.IntKind.i64 n1)),(.lv (.int Go.IntKind.i64 n0)),(.lv (d 7)),(.lv (d 8)),(.lv (d 9)),(.lv (d 10)),(.lv (d 11)),(.lv (d 12)),(.lv (d 13)),(.lv (d 14)),(.lv (d 15)),(.lv (d 16)),(.lv (d 17)),(.lv (d 18)),(.lv (d 19)),(.lv (d 20)),(.lv (d 21)),(.lv (d 22)),(.lv (d 23)),(.lv (d 24)),(.lv (d 25)),(.lv (d 26)),(.lv (d 27)),(.lv (d 28)),(.lv (d 29)),(.lv (d 30)),(.lv (d 31)),(.lv (d 32)),(.lv (d 33)),(.lv (d 34)),(.lv (d 35)),(.lv (d 36)),(.lv (d 37)),(.lv (d 38)),(.lv (d 39)),(.lv (d 40)),(.lv (d 41))]
theorem g81b_0(R:LV->LHeap->Prop)(X:List Nat)(H0:LHeap)(d:Nat->LV)(n0:Int)(n1:Int)(a2:Option LAddr)(l3:Nat)(c4:Cap)(f5:Go.Lm.LAddr)(f6:Go.Lm.LAddr) (H:LHeap)
 (h:(((decide (n0<((l3:Nat):Int)))=true->((((0:Int)<=n0)/\((n0<((l3:Nat):Int))/\((Option.isSome a2)=Bool.true)))/\(Inv X H0 [] H->(∃x9:Go.Proofs.YtjihhflffkoffaaGreatDoor.Z.NameC,((loadT (cfg).P H 33 (LAddr.mk (LAddr.id (adr a2)) (LAddr.ver (adr a2)) ((LAddr.off (adr a2))+((Int.toNat n0)*3)))=some (NameC.lv x9))/\(∀(i10:Nat) (H11:LHeap),H.next<=i10->PresX [] H H11->(∀H12:LHeap,PresX [i10] H11 H12->(Inv X H0 [(Slot.mk i10 (NameC.cs x9) 33)] H12->∃S13:LV->LHeap->Prop,CallL cfg 83 [(NameC.lv x9),(.ptr (some f5)),(.ptr (some f6))] H12 S13/\(∀v H',S13 v H'->PresX [] H12 H'/\hasSh .bool v)/\
  (∀(b14:Bool),∀H15:LHeap,S13 (.bool b14) H15->(((!b14)=true->((((0:Int)<=n1)/\((n1<((l3:Nat):Int))/\((Option.isSome a2)=Bool.true)))/\(Inv X H0 [(Slot.mk i10 (NameC.cs x9) 33)] H15->∃H17:LHeap,(storeT cfg.P H15 33 (LAddr.mk (LAddr.id (adr a2)) (LAddr.ver (adr a2)) ((LAddr.off (adr a2))+((Int.toNat n1)*3))) (NameC.lv x9)=some H17/\okId X H0 [(Slot.mk i10 (NameC.cs x9) 33)] (LAddr.id (adr a2)))/\(∀d18:Nat->LV,GoesT cfg 81 R X H0 [] (L81b_0 d18 (lwrap Go.IntKind.i64 (n0+(1:Int))) (lwrap Go.IntKind.i64 (n1+(1:Int))) a2 l3 c4 f5 f6) (loopAt cfg 81 0) H17))))
 /\ ((!b14)=false->(∀d19:Nat->LV,GoesT cfg 81 R X H0 [] (L81b_0 d19 (lwrap Go.IntKind.i64 (n0+(1:Int))) n1 a2 l3 c4 f5 f6) (loopAt cfg 81 0) H15))))))))))))
 /\ ((decide (n0<((l3:Nat):Int)))=false->(∃a21:(Option Go.Lm.LAddr),(∃l22:Nat,(∃c23:Go.Lm.Cap,(((sliceL (cfg).P 36 (.slice a2 l3 c4) (some (.int Go.IntKind.i64 n1)) none none)=(some (.slice a21 l22 c23)))/\(Inv X H0 [] H->∃(Y:List Nat) (H24:LHeap),(opB cfg H Go.Builtin.clear [36] [(.slice a21 l22 c23)]=some [(.value (.tuple []),H24)]/\PresX Y H H24/\∀i∈Y,okId X H0 [] i)/\(∃a26:(Option Go.Lm.LAddr),(∃l27:Nat,(∃c28:Go.Lm.Cap,(((sliceL (cfg).P 36 (.slice a2 l3 c4) none (some (.int Go.IntKind.i64 n1)) none)=(some (.slice a26 l27 c28)))/\(Inv X H0 [] H24->R (.slice a26 l27 c28) H24))))))))))))):
 GoesT cfg 81 R X H0 [] (L81b_0 d n0 n1 a2 l3 c4 f5 f6) (loopAt cfg 81 0) H:=
  seg_wt (k:=(.go 8 (.cases 19 (.go 8 (.op (.tuple []) (.facts (.op (.cust NameC NameC.lv) (.boxP (.putP (.go 5 (.facts (.call .bool (.go 2 (.cases 29 (.go 6 (.op (.tuple []) (.facts (.store (.go 13 (.stop [6,5,0,1] 0)))))) (.go 9 (.stop [6,5,0,1] 0))))))))))))) (.go 6 (.op .slice (.facts (.any (.tuple []) (.go 5 (.op .slice (.go 2 (.facts .ret))))))))))) (by kernel_rfl) h
theorem e81b(R:LV->LHeap->Prop)(X:List Nat)(a:(Option Go.Lm.LAddr))(l:Nat)(c:Go.Lm.Cap)(p:Go.Lm.LAddr)(q:Go.Lm.LAddr)(H:LHeap)
 (h:(Inv X H [] H->∃S0:LV->LHeap->Prop,CallL cfg 164 [(.slice a l c),(.func (Fn.func 83) [] [(.ptr (some p)),(.ptr (some q))])] H S0/\(∀v H',S0 v H'->PresX [] H H'/\hasSh (.int .i64) v)/\
  (∀(n1:Int),∀H2:LHeap,S0 (.int Go.IntKind.i64 n1) H2->(((n1==(-1:Int))=true->(Inv X H [] H2->R (.slice a l c) H2))
 /\ ((n1==(-1:Int))=false->(∀d3:Nat->LV,GoesT cfg 81 R X H [] (L81b_0 d3 (lwrap Go.IntKind.i64 (n1+(1:Int))) n1 a l c p q) (loopAt cfg 81 0) H2)))))):
 CallL cfg 81 [(.slice a l c),(.func (Fn.func 83) [] [(.ptr (some p)),(.ptr (some q))])] H R:=
  call_wtX (X:=X) (k:=(.go 8 (.facts (.call (.int .i64) (.go 8 (.cases 12 (.go 6 (.facts .ret)) (.go 11 (.stop [6,5,0,1] 0)))))))) (by kernel_rfl) h
def L81c_0(d:Nat->LV)(n0:Int)(n1:Int)(a2:Option LAddr)(l3:Nat)(c4:Cap)(f5:Go.Lm.LAddr):List SV:=[(.lv (.slice a2 l3 c4)),(.lv (.func (Fn.func 87) [] [(.ptr (some f5))])),(.lv (d 2)),(.lv (d 3)),(.lv (d 4)),(.lv (.int Go.IntKind.i64 n1)),(.lv (.int Go.IntKind.i64 n0)),(.lv (d 7)),(.lv (d 8)),(.lv (d 9)),(.lv (d 10)),(.lv (d 11)),(.lv (d 12)),(.lv (d 13)),(.lv (d 14)),(.lv (d 15)),(.lv (d 16)),(.lv (d 17)),(.lv (d 18)),(.lv (d 19)),(.lv (d 20)),(.lv (d 21)),(.lv (d 22)),(.lv (d 23)),(.lv (d 24)),(.lv (d 25)),(.lv (d 26)),(.lv (d 27)),(.lv (d 28)),(.lv (d 29)),(.lv (d 30)),(.lv (d 31)),(.lv (d 32)),(.lv (d 33)),(.lv (d 34)),(.lv (d 35)),(.lv (d 36)),(.lv (d 37)),(.lv (d 38)),(.lv (d 39)),(.lv (d 40)),(.lv (d 41))]
theorem g81c_0(R:LV->LHeap->Prop)(X:List Nat)(H0:LHeap)(d:Nat->LV)(n0:Int)(n1:Int)(a2:Option LAddr)(l3:Nat)(c4:Cap)(f5:Go.Lm.LAddr) (H:LHeap)
 (h:(((decide (n0<((l3:Nat):Int)))=true->((((0:Int)<=n0)/\((n0<((l3:Nat):Int))/\((Option.isSome a2)=Bool.true)))/\(Inv X H0 [] H->(∃x8:Go.Proofs.YtjihhflffkoffaaGreatDoor.Z.NameC,((loadT (cfg).P H 33 (LAddr.mk (LAddr.id (adr a2)) (LAddr.ver (adr a2)) ((LAddr.off (adr a2))+((Int.toNat n0)*3)))=some (NameC.lv x8))/\(∀(i9:Nat) (H10:LHeap),H.next<=i9->PresX [] H H10->(∀H11:LHeap,PresX [i9] H10 H11->(Inv X H0 [(Slot.mk i9 (NameC.cs x8) 33)] H11->∃S12:LV->LHeap->Prop,CallL cfg 87 [(NameC.lv x8),(.ptr (some f5))] H11 S12/\(∀v H',S12 v H'->PresX [] H11 H'/\hasSh .bool v)/\
  (∀(b13:Bool),∀H14:LHeap,S12 (.bool b13) H14->(((!b13)=true->((((0:Int)<=n1)/\((n1<((l3:Nat):Int))/\((Option.isSome a2)=Bool.true)))/\(Inv X H0 [(Slot.mk i9 (NameC.cs x8) 33)] H14->∃H16:LHeap,(storeT cfg.P H14 33 (LAddr.mk (LAddr.id (adr a2)) (LAddr.ver (adr a2)) ((LAddr.off (adr a2))+((Int.toNat n1)*3))) (NameC.lv x8)=some H16/\okId X H0 [(Slot.mk i9 (NameC.cs x8) 33)] (LAddr.id (adr a2)))/\(∀d17:Nat->LV,GoesT cfg 81 R X H0 [] (L81c_0 d17 (lwrap Go.IntKind.i64 (n0+(1:Int))) (lwrap Go.IntKind.i64 (n1+(1:Int))) a2 l3 c4 f5) (loopAt cfg 81 0) H16))))
 /\ ((!b13)=false->(∀d18:Nat->LV,GoesT cfg 81 R X H0 [] (L81c_0 d18 (lwrap Go.IntKind.i64 (n0+(1:Int))) n1 a2 l3 c4 f5) (loopAt cfg 81 0) H14))))))))))))
 /\ ((decide (n0<((l3:Nat):Int)))=false->(∃a20:(Option Go.Lm.LAddr),(∃l21:Nat,(∃c22:Go.Lm.Cap,(((sliceL (cfg).P 36 (.slice a2 l3 c4) (some (.int Go.IntKind.i64 n1)) none none)=(some (.slice a20 l21 c22)))/\(Inv X H0 [] H->∃(Y:List Nat) (H23:LHeap),(opB cfg H Go.Builtin.clear [36] [(.slice a20 l21 c22)]=some [(.value (.tuple []),H23)]/\PresX Y H H23/\∀i∈Y,okId X H0 [] i)/\(∃a25:(Option Go.Lm.LAddr),(∃l26:Nat,(∃c27:Go.Lm.Cap,(((sliceL (cfg).P 36 (.slice a2 l3 c4) none (some (.int Go.IntKind.i64 n1)) none)=(some (.slice a25 l26 c27)))/\(Inv X H0 [] H23->R (.slice a25 l26 c27) H23))))))))))))):
 GoesT cfg 81 R X H0 [] (L81c_0 d n0 n1 a2 l3 c4 f5) (loopAt cfg 81 0) H:=
  seg_wt (k:=(.go 8 (.cases 19 (.go 8 (.op (.tuple []) (.facts (.op (.cust NameC NameC.lv) (.boxP (.putP (.go 5 (.facts (.call .bool (.go 2 (.cases 29 (.go 6 (.op (.tuple []) (.facts (.store (.go 13 (.stop [6,5,0,1] 0)))))) (.go 9 (.stop [6,5,0,1] 0))))))))))))) (.go 6 (.op .slice (.facts (.any (.tuple []) (.go 5 (.op .slice (.go 2 (.facts .ret))))))))))) (by kernel_rfl) h
theorem e81c(R:LV->LHeap->Prop)(X:List Nat)(a:(Option Go.Lm.LAddr))(l:Nat)(c:Go.Lm.Cap)(p:Go.Lm.LAddr)(H:LHeap)
 (h:(Inv X H [] H->∃S0:LV->LHeap->Prop,CallL cfg 164 [(.slice a l c),(.func (Fn.func 87) [] [(.ptr (some p))])] H S0/\(∀v H',S0 v H'->PresX [] H H'/\hasSh (.int .i64) v)/\
  (∀(n1:Int),∀H2:LHeap,S0 (.int Go.IntKind.i64 n1) H2->(((n1==(-1:Int))=true->(Inv X H [] H2->R (.slice a l c) H2))
 /\ ((n1==(-1:Int))=false->(∀d3:Nat->LV,GoesT cfg 81 R X H [] (L81c_0 d3 (lwrap Go.IntKind.i64 (n1+(1:Int))) n1 a l c p) (loopAt cfg 81 0) H2)))))):
 CallL cfg 81 [(.slice a l c),(.func (Fn.func 87) [] [(.ptr (some p))])] H R:=
  call_wtX (X:=X) (k:=(.go 8 (.facts (.call (.int .i64) (.go 8 (.cases 12 (.go 6 (.facts .ret)) (.go 11 (.stop [6,5,0,1] 0)))))))) (by kernel_rfl) h
def L81d_0(d:Nat->LV)(n0:Int)(n1:Int)(a2:Option LAddr)(l3:Nat)(c4:Cap)(f5:Go.Lm.LAddr):List SV:=[(.lv (.slice a2 l3 c4)),(.lv (.func (Fn.func 88) [] [(.ptr (some f5))])),(.lv (d 2)),(.lv (d 3)),(.lv (d 4)),(.lv (.int Go.IntKind.i64 n1)),(.lv (.int Go.IntKind.i64 n0)),(.lv (d 7)),(.lv (d 8)),(.lv (d 9)),(.lv (d 10)),(.lv (d 11)),(.lv (d 12)),(.lv (d 13)),(.lv (d 14)),(.lv (d 15)),(.lv (d 16)),(.lv (d 17)),(.lv (d 18)),(.lv (d 19)),(.lv (d 20)),(.lv (d 21)),(.lv (d 22)),(.lv (d 23)),(.lv (d 24)),(.lv (d 25)),(.lv (d 26)),(.lv (d 27)),(.lv (d 28)),(.lv (d 29)),(.lv (d 30)),(.lv (d 31)),(.lv (d 32)),(.lv (d 33)),(.lv (d 34)),(.lv (d 35)),(.lv (d 36)),(.lv (d 37)),(.lv (d 38)),(.lv (d 39)),(.lv (d 40)),(.lv (d 41))]
theorem e81d(R:LV->LHeap->Prop)(X:List Nat)(a:(Option Go.Lm.LAddr))(l:Nat)(c:Go.Lm.Cap)(p:Go.Lm.LAddr)(H:LHeap)
 (h:(Inv X H [] H->∃S0:LV->LHeap->Prop,CallL cfg 164 [(.slice a l c),(.func (Fn.func 88) [] [(.ptr (some p))])] H S0/\(∀v H',S0 v H'->PresX [] H H'/\hasSh (.int .i64) v)/\
  (∀(n1:Int),∀H2:LHeap,S0 (.int Go.IntKind.i64 n1) H2->(((n1==(-1:Int))=true->(Inv X H [] H2->R (.slice a l c) H2))
 /\ ((n1==(-1:Int))=false->(∀d3:Nat->LV,GoesT cfg 81 R X H [] (L81d_0 d3 (lwrap Go.IntKind.i64 (n1+(1:Int))) n1 a l c p) (loopAt cfg 81 0) H2)))))):
 CallL cfg 81 [(.slice a l c),(.func (Fn.func 88) [] [(.ptr (some p))])] H R:=
  call_wtX (X:=X) (k:=(.go 8 (.facts (.call (.int .i64) (.go 8 (.cases 12 (.go 6 (.facts .ret)) (.go 11 (.stop [6,5,0,1] 0)))))))) (by kernel_rfl) h
theorem e86e(R:LV->LHeap->Prop)(X:List Nat)(a:(Option Go.Lm.LAddr))(n:Nat)(c:Nat)(i:Int)(b:Go.Lm.LAddr)(H:LHeap)
 (h:(∃a1:(Option Go.Lm.LAddr),(∃l2:Nat,(∃c3:Go.Lm.Cap,(((sliceL (cfg).P 36 (.slice a n (Cap.exact c)) (some (.int Go.IntKind.i64 i)) none none)=(some (.slice a1 l2 c3)))/\(((i==((n:Nat):Int))=true->(Inv X H [] H->∃Y:List Nat,∃(a4:Option LAddr),∃(l5:Nat),∃(c6:Cap),∃H7:LHeap,(appendL cfg.P H [36,36] [(.slice a n (Cap.exact c)),(.slice (some b) 1 (Cap.exact 1))]=some ((.slice a4 l5 c6),H7)/\PresX Y H H7/\∀i∈Y,okId X H [] i)/\(Inv X H [] H7->R (.slice a4 l5 c6) H7)))
 /\ ((i==((n:Nat):Int))=false->(((decide ((lwrap Go.IntKind.i64 (((n:Nat):Int)+(1:Int)))>((c:Nat):Int)))=true->(∃a9:(Option Go.Lm.LAddr),(∃l10:Nat,(∃c11:Go.Lm.Cap,(((sliceL (cfg).P 36 (.slice a n (Cap.exact c)) none (some (.int Go.IntKind.i64 i)) none)=(some (.slice a9 l10 c11)))/\(Inv X H [] H->∃Y:List Nat,∃(a12:Option LAddr),∃(l13:Nat),∃(c14:Cap),∃H15:LHeap,(appendL cfg.P H [36,3] [(.slice a9 l10 c11),(.int Go.IntKind.i64 (lwrap Go.IntKind.i64 ((lwrap Go.IntKind.i64 (((n:Nat):Int)+(1:Int)))-i)))]=some ((.slice a12 l13 c14),H15)/\PresX Y H H15/\∀i∈Y,okId X H [] i)/\(∃a17:(Option Go.Lm.LAddr),(∃l18:Nat,(∃c19:Go.Lm.Cap,(((sliceL (cfg).P 36 (.slice a12 l13 c14) (some (.int Go.IntKind.i64 i)) none none)=(some (.slice a17 l18 c19)))/\(Inv X H [] H15->∃(n20:Int),∃(Y:List Nat) (H21:LHeap),(opB cfg H15 Go.Builtin.copy [36,36] [(.slice a17 l18 c19),(.slice (some b) 1 (Cap.exact 1))]=some [(.value (.int Go.IntKind.i64 n20),H21)]/\PresX Y H15 H21/\∀i∈Y,okId X H [] i)/\(∃a23:(Option Go.Lm.LAddr),(∃l24:Nat,(∃c25:Go.Lm.Cap,(((sliceL (cfg).P 36 (.slice a12 l13 c14) (some (.int Go.IntKind.i64 (lwrap Go.IntKind.i64 (i+(1:Int))))) none none)=(some (.slice a23 l24 c25)))/\(∃a27:(Option Go.Lm.LAddr),(∃l28:Nat,(∃c29:Go.Lm.Cap,(((sliceL (cfg).P 36 (.slice a n (Cap.exact c)) (some (.int Go.IntKind.i64 i)) none none)=(some (.slice a27 l28 c29)))/\(Inv X H [] H21->∃(n31:Int),∃(Y:List Nat) (H32:LHeap),(opB cfg H21 Go.Builtin.copy [36,36] [(.slice a23 l24 c25),(.slice a27 l28 c29)]=some [(.value (.int Go.IntKind.i64 n31),H32)]/\PresX Y H21 H32/\∀i∈Y,okId X H [] i)/\(Inv X H [] H32->R (.slice a12 l13 c14) H32)))))))))))))))))))))
 /\ ((decide ((lwrap Go.IntKind.i64 (((n:Nat):Int)+(1:Int)))>((c:Nat):Int)))=false->(∃a35:(Option Go.Lm.LAddr),(∃l36:Nat,(∃c37:Go.Lm.Cap,(((sliceL (cfg).P 36 (.slice a n (Cap.exact c)) none (some (.int Go.IntKind.i64 (lwrap Go.IntKind.i64 (((n:Nat):Int)+(1:Int))))) none)=(some (.slice a35 l36 c37)))/\(∃a39:(Option Go.Lm.LAddr),(∃l40:Nat,(∃c41:Go.Lm.Cap,(((sliceL (cfg).P 36 (.slice a35 l36 c37) (some (.int Go.IntKind.i64 (lwrap Go.IntKind.i64 (i+(1:Int))))) none none)=(some (.slice a39 l40 c41)))/\(∃b43:Bool,(∃H44:Go.Lm.LHeap,(((extL (cfg).P H (Ext.overlaps 36) [(.slice (some b) 1 (Cap.exact 1)),(.slice a39 l40 c41)])=(some (Prod.mk (.bool b43) H44)))/\(((!b43)=true->(∃a46:(Option Go.Lm.LAddr),(∃l47:Nat,(∃c48:Go.Lm.Cap,(((sliceL (cfg).P 36 (.slice a35 l36 c37) (some (.int Go.IntKind.i64 (lwrap Go.IntKind.i64 (i+(1:Int))))) none none)=(some (.slice a46 l47 c48)))/\(∃a50:(Option Go.Lm.LAddr),(∃l51:Nat,(∃c52:Go.Lm.Cap,(((sliceL (cfg).P 36 (.slice a35 l36 c37) (some (.int Go.IntKind.i64 i)) none none)=(some (.slice a50 l51 c52)))/\(Inv X H [] H->∃(n54:Int),∃(Y:List Nat) (H55:LHeap),(opB cfg H Go.Builtin.copy [36,36] [(.slice a46 l47 c48),(.slice a50 l51 c52)]=some [(.value (.int Go.IntKind.i64 n54),H55)]/\PresX Y H H55/\∀i∈Y,okId X H [] i)/\(∃a58:(Option Go.Lm.LAddr),(∃l59:Nat,(∃c60:Go.Lm.Cap,(((sliceL (cfg).P 36 (.slice a35 l36 c37) (some (.int Go.IntKind.i64 i)) none none)=(some (.slice a58 l59 c60)))/\(Inv X H [] H55->∃(n61:Int),∃(Y:List Nat) (H62:LHeap),(opB cfg H55 Go.Builtin.copy [36,36] [(.slice a58 l59 c60),(.slice (some b) 1 (Cap.exact 1))]=some [(.value (.int Go.IntKind.i64 n61),H62)]/\PresX Y H55 H62/\∀i∈Y,okId X H [] i)/\(Inv X H [] H62->R (.slice a35 l36 c37) H62))))))))))))))))
 /\ ((!b43)=false->(∃a64:(Option Go.Lm.LAddr),(∃l65:Nat,(∃c66:Go.Lm.Cap,(((sliceL (cfg).P 36 (.slice a35 l36 c37) (some (.int Go.IntKind.i64 ((n:Nat):Int))) none none)=(some (.slice a64 l65 c66)))/\(Inv X H [] H->∃(n67:Int),∃(Y:List Nat) (H68:LHeap),(opB cfg H Go.Builtin.copy [36,36] [(.slice a64 l65 c66),(.slice (some b) 1 (Cap.exact 1))]=some [(.value (.int Go.IntKind.i64 n67),H68)]/\PresX Y H H68/\∀i∈Y,okId X H [] i)/\(∃a70:(Option Go.Lm.LAddr),(∃l71:Nat,(∃c72:Go.Lm.Cap,(((sliceL (cfg).P 36 (.slice a35 l36 c37) (some (.int Go.IntKind.i64 i)) none none)=(some (.slice a70 l71 c72)))/\(Inv X H [] H68->∃S73:LV->LHeap->Prop,CallL cfg 167 [(.slice a70 l71 c72),(.int Go.IntKind.i64 (1:Int))] H68 S73/\(∀v H',S73 v H'->PresX [] H68 H'/\hasSh (.tuple []) v)/\
  (∀H74:LHeap,S73 (.tuple []) H74->(Inv X H [] H74->R (.slice a35 l36 c37) H74)))))))))))))))))))))))))))))))))):
 CallL cfg 86 [(.slice a n (Cap.exact c)),(.int Go.IntKind.i64 i),(.slice (some b) 1 (Cap.exact 1))] H R:=
  call_wtX (X:=X) (k:=(.go 8 (.op .slice (.go 28 (.cases 22 (.go 5 (.facts (.app (.go 2 (.facts .ret))))) (.go 12 (.cases 31 (.go 5 (.op .slice (.go 5 (.facts (.app (.go 6 (.op .slice (.go 1 (.facts (.any (.int .i64) (.go 7 (.op .slice (.go 2 (.op .slice (.check (.facts (.any (.int .i64) (.check (.go 6 (.facts .ret)))))))))))))))))))) (.go 8 (.op .slice (.go 10 (.op .slice (.op .bool (.go 2 (.cases 68 (.go 7 (.op .slice (.go 2 (.op .slice (.check (.facts (.any (.int .i64) (.check (.go 5 (.op .slice (.go 1 (.facts (.any (.int .i64) (.go 6 (.facts .ret))))))))))))))) (.go 6 (.op .slice (.go 1 (.facts (.any (.int .i64) (.go 5 (.op .slice (.go 1 (.facts (.call (.tuple []) (.go 6 (.facts .ret)))))))))))))))))))))))))) (by kernel_rfl) h
def keepN(P:NameC->Bool)(l:List NameC):List NameC:=l.filter fun y=> !P y
theorem wat_elem{H:LHeap}{ad:LAddr}{A B:List LV}{cur:List NameC}(h:WAt H ad 33 A (cellsN cur) B){j:Nat}{x:NameC}(hx:cur[j]? =some x):loadT cfg.P H 33 ⟨ad.id,ad.ver,ad.off+j*3⟩=some x.lv:=by
 obtain ⟨h1,h2⟩:=cellsN_split hx;rw [h1] at h;have:=h.loadAt;rw [h2] at this;exact load_agg (by kernel_rfl) (by kernel_rfl) this
theorem set_cells{cur:List NameC}{i:Nat}(hi:i<cur.length)(x:NameC):cellsN (cur.set i x)=cellsN (cur.take i)++(x.cs++cellsN (cur.drop (i+1))):=by
 rw [List.set_eq_take_append_cons_drop,if_pos hi,cellsN_app,<-List.singleton_append,cellsN_app,cellsN_one]
theorem set_take{cur:List NameC}{i:Nat}(hi:i<cur.length)(x:NameC):(cur.set i x).take (i+1)=cur.take i++[x]:=by
 rw [List.set_eq_take_append_cons_drop,if_pos hi];have hl:(cur.take i).length=i:=by rw [List.length_take];omega
 have:=List.take_length_add_append (l₁:=cur.take i) (l₂:=x::cur.drop (i+1)) 1;rw [hl] at this;rw [this];rfl
theorem set_drop{cur:List NameC}{i j:Nat}(h:i<j)(x:NameC):(cur.set i x).drop j=cur.drop j:=by
 apply List.ext_getElem?;intro k;rw [List.getElem?_drop,List.getElem?_drop,List.getElem?_set];rw [if_neg (by omega)]
theorem store33{H:LHeap}{ad:LAddr}{A B:List LV}{cur:List NameC}(h:WAt H ad 33 A (cellsN cur) B){i:Nat}(hi:i<cur.length)(x:NameC):
  ∃H',storeT cfg.P H 33 ⟨ad.id,ad.ver,ad.off+i*3⟩ x.lv=some H'/\WAt H' ad 33 A (cellsN (cur.set i x)) B/\PresX [ad.id] H H':=by
 obtain ⟨h1,h2⟩:=cellsN_split (List.getElem?_eq_getElem hi);rw [h1] at h;obtain ⟨H',g1,g2,g3⟩:=h.putAt (V:=x.cs) rfl rfl;refine ⟨H',?_,by rw [set_cells hi];exact g2,g3⟩;rw [h2] at g1;unfold storeT;rw [show sizeOfT cfg.P 33=some 3 by kernel_rfl];exact g1
def zerosN(k:Nat):List LV:=repl k nilName.lv.cells []
theorem zerosN_eq(k:Nat):zerosN k=cellsN (List.replicate k nilName):=by
 unfold zerosN;rw [repl_eq,List.append_nil];unfold cellsN;rw [List.flatMap_replicate];rfl
theorem clear_of{H H':LHeap}{b:LAddr}{k:Nat}{q:Cap}(h:storeN H b (zerosN k)=some H'):clearL cfg.P H [36] [.slice (some b) k q]=some (.tuple [],H'):=by
 unfold clearL;simp only [show cfg.P.underlying 36=some (.slice 33) by kernel_rfl,show zeroOf cfg.P 33=some nilName.lv by kernel_rfl];unfold zerosN at h;rw [h]
theorem keep_step{P:NameC->Bool}{nm:List NameC}{j:Nat}(hj:j<nm.length):keepN P (nm.take (j+1))=keepN P (nm.take j)++if P nm[j] then [] else [nm[j]]:=by
 unfold keepN;rw [List.take_succ_eq_append_getElem hj,List.filter_append];congr 1;by_cases h:P nm[j]=true
 ·simp [h]
 ·simp [h]
def DelS(ad:LAddr)(q:Cap)(A B:List LV)(nm:List NameC)(P:NameC->Bool)(H:LHeap):LV->LHeap->Prop:=fun v H'=>
 PresX [ad.id] H H'/\v=.slice (some ad) (keepN P nm).length q/\∃C,WAt H' ad 33 A (cellsN (keepN P nm)++C) B
theorem del_end{ad:LAddr}{n:Nat}{q:Cap}{nm:List NameC}{P:NameC->Bool}{A B:List LV}{H0 H:LHeap}(hn:nm.length=n)(hq:QOK ad n 3 q){i:Nat}{cur:List NameC}(hi:i<=n)(hc:cur.length=n)
  (ht:cur.take i=keepN P nm) (hW:WAt H ad 33 A (cellsN cur) B) (hlt:ad.id<H0.next) (hI:Inv [ad.id] H0 [] H):
  ∃a26 l27 c28,sliceL cfg.P 36 (.slice (some ad) n q) (some (.int .i64 i)) none none=some (.slice a26 l27 c28)/\(Inv [ad.id] H0 [] H->∃(Y:List Nat) (H24:LHeap),(opB cfg H .clear [36] [.slice a26 l27 c28]=some [(.value (.tuple []),H24)]/\PresX Y H H24/\∀i∈Y,okId [ad.id] H0 [] i)/\
   ∃a l c,sliceL cfg.P 36 (.slice (some ad) n q) none (some (.int .i64 i)) none=some (.slice a l c)/\(Inv [ad.id] H0 [] H24->DelS ad q A B nm P H0 (.slice a l c) H24)):=by
 have u36:cfg.P.underlying 36=some (.slice 33):=by kernel_rfl
 have z33:sizeOfT cfg.P 33=some 3:=by kernel_rfl
 have hil:(keepN P nm).length=i:=by rw [<-ht,List.length_take];omega
 obtain ⟨b,q',hs,hb,hqo,hbo⟩:=slice_lo (k:=.i64) u36 z33 (by decide) hq hi;have hcells:cellsN cur=cellsN (keepN P nm)++(cellsN (cur.drop i)++[]):=by rw [List.append_nil,<-ht,<-cellsN_app,List.take_append_drop]
 have hA:(cellsN (keepN P nm)).length=i*3:=by rw [cellsN_len,hil]
 have ok:∀x∈[ad.id],okId [ad.id] H0 [] x:=fun x hx=>⟨.inl hx,fun k s hs=>by simp [nth] at hs⟩;refine ⟨some b,n-i,q',hs,fun _=> ?_⟩;rw [hcells] at hW;by_cases hin:i<n
 ·obtain ⟨H',g1,g2,g3⟩:=hW.putAt (V:=zerosN (n-i)) (by rw [zerosN_eq,cellsN_len,cellsN_len,List.length_replicate,List.length_drop,hc]) (by rw [zerosN_eq];exact cellsN_all _);rw [hA] at g1;refine ⟨[ad.id],H',⟨opB_clear (clear_of (by rw [hbo hin];exact g1)),g3,ok⟩,some ad,i,q,slice_hi u36 z33 (by decide) hq hi,fun hI2=>⟨hI2.pres,by rw [hil],_,g2⟩⟩
 ·have h0:n-i=0:=by omega
  refine ⟨[],H,⟨opB_clear (clear_of (by rw [h0];rfl)),.refl _ _,fun i hi=>by cases hi⟩,some ad,i,q,slice_hi u36 z33 (by decide) hq hi,fun hI2=>⟨hI2.pres,by rw [hil],_,hW⟩⟩
theorem loop81b(ad:LAddr)(n:Nat)(qq:Cap)(nm:List NameC)(P:NameC->Bool)(p q:LAddr)(A B:List LV)(H0:LHeap)(hn:nm.length=n)(hsm:n<=1000)(hq:QOK ad n 3 qq)(hlt:ad.id<H0.next)
  (hcl:∀(y:NameC) (H:LHeap),PresX [ad.id] H0 H->CallL cfg 83 [y.lv,.ptr (some p),.ptr (some q)] H (Ret (.bool (P y)) H)):
  ∀(m j i:Nat) (cur:List NameC),j+m=n->i<=j->cur.length=n->cur.take i=keepN P (nm.take j)->cur.drop j=nm.drop j->∀(d:Nat->LV) (H:LHeap),WAt H ad 33 A (cellsN cur) B->
   GoesT cfg 81 (DelS ad qq A B nm P H0) [ad.id] H0 [] (L81b_0 d (j:Int) (i:Int) (some ad) n qq p q) (loopAt cfg 81 0) H
 |0,j,i,cur,hj,hij,hc,ht,hd,d,H,hW=>by
  intro hin hI;have hjn:j=n:=by omega
  have ht':cur.take i=keepN P nm:=by rw [ht,List.take_of_length_le (by omega)]
  obtain ⟨x1,x2,x3,g1,g2⟩:=del_end (i:=i) hn hq (by omega) hc ht' hW hlt hI;refine g81b_0 _ [ad.id] H0 d j i (some ad) n qq p q H ⟨fun h=> ?_,fun h=>⟨x1,x2,x3,g1,fun hI=> ?_⟩⟩ hin hI
  ·simp at h;omega
  ·obtain ⟨Y,H24,g3,y1,y2,y3,g4⟩:=g2 hI;exact ⟨Y,H24,g3,y1,y2,y3,g4⟩
 |m+1,j,i,cur,hj,hij,hc,ht,hd,d,H,hW=>by
  intro hin hI;have hjn:j<nm.length:=by omega
  have hx:cur[j]? =some nm[j]:=by
   have:=congrArg (fun l=>l[0]?) hd;simp only [List.getElem?_drop,Nat.add_zero] at this;rw [this,List.getElem?_eq_getElem hjn]
  have hnext:=hI.pres.next;refine g81b_0 _ [ad.id] H0 d j i (some ad) n qq p q H ⟨fun h=>⟨⟨by omega,by omega,rfl⟩,fun _=>⟨nm[j],by simpa [adr] using wat_elem hW hx,fun k H1 gk p1 H2 p2 hI2=>⟨_,hcl nm[j] H2 hI2.pres,Ret.use ⟨_,rfl⟩,fun b H3 ⟨e,p3⟩=>⟨fun hb=>⟨⟨by omega,by omega,rfl⟩,fun hI3=> ?keep⟩,fun hb d1=> ?gone⟩⟩⟩⟩,fun h=> ?ge⟩ hin hI
  case ge=>simp at h;omega
  case keep=>
   cases e;have hW3:WAt H3 ad 33 A (cellsN cur) B:=((hW.on p1 (by simp)).on p2 (by simp;omega)).on p3 (by simp);obtain ⟨H17,g1,g2,g3⟩:=store33 hW3 (i:=i) (by omega) nm[j];refine ⟨H17,⟨by simpa [adr] using g1,.inl (by simp [adr]),fun k' s hs=> ?_⟩,fun d18=> ?_⟩
   ·cases k' with
    |zero=>cases hs;show k≠ad.id;omega
    |succ k'=>simp [nth] at hs
   ·rw [lwrap_small (by omega) (by omega),lwrap_small (by omega) (by omega)];refine loop81b ad n qq nm P p q A B H0 hn hsm hq hlt hcl m (j+1) (i+1) (cur.set i nm[j]) (by omega) (by omega) (by rw [List.length_set,hc]) ?_ ?_ d18 H17 g2
    ·have hb':P nm[j]=false:=by simpa using hb
     rw [set_take (by omega),keep_step hjn,ht,hb'];rfl
    ·rw [set_drop (by omega)];have:=congrArg (List.drop 1) hd
     rwa [List.drop_drop,List.drop_drop] at this
  case gone=>
   cases e;have hW3:WAt H3 ad 33 A (cellsN cur) B:=((hW.on p1 (by simp)).on p2 (by simp;omega)).on p3 (by simp);rw [lwrap_small (by omega) (by omega)];refine loop81b ad n qq nm P p q A B H0 hn hsm hq hlt hcl m (j+1) i cur (by omega) (by omega) hc ?_ ?_ d1 H3 hW3
   ·have hb':P nm[j]=true:=by simpa using hb
    rw [keep_step hjn,ht,hb'];simp
   ·have:=congrArg (List.drop 1) hd
    rwa [List.drop_drop,List.drop_drop] at this
theorem s81b(ad:LAddr)(n:Nat)(qq:Cap)(nm:List NameC)(P:NameC->Bool)(p q:LAddr)(A B:List LV)(H:LHeap)(hn:nm.length=n)(hsm:n<=1000)(hq:QOK ad n 3 qq)(hW:WAt H ad 33 A (cellsN nm) B)
  (hcl:∀(y:NameC) (H':LHeap),PresX [ad.id] H H'->CallL cfg 83 [y.lv,.ptr (some p),.ptr (some q)] H' (Ret (.bool (P y)) H')):
  CallL cfg 81 [.slice (some ad) n qq,.func (.func 83) [] [.ptr (some p),.ptr (some q)]] H (DelS ad qq A B nm P H):=by
 have hlt:=hW.lt;have hN:NmAt H (some ad) n qq nm:=⟨hn,hsm,by
  simp only [firstCellsL,Nat.ble_eq,Nat.le_refl,if_true];have:=hW.load;rw [cellsN_len,hn] at this;exact this,fun x e=>by cases e;exact hlt⟩
 refine e81b _ [ad.id] (some ad) n qq p q H fun hI=>⟨_,s164b (some ad) n qq nm P p q H hN fun y H' p=>hcl y H' (p.mono (by simp)),Ret.use ⟨_,rfl⟩,fun i H2 ⟨e,p2⟩=> ?_⟩;cases e;have hW2:=hW.on p2 (by simp);have hcl2:∀(y:NameC) (H':LHeap),PresX [ad.id] H2 H'->CallL cfg 83 [y.lv,.ptr (some p),.ptr (some q)] H' (Ret (.bool (P y)) H'):=fun y H' p=>hcl y H' ((p2.mono (by simp)).trans p fun i hi=>.inl hi);by_cases h0:idxF P nm 0= -1
 ·rw [h0];refine ⟨fun _ hI2=>⟨hI2.pres,?_,[],?_⟩,fun h=>by simp at h⟩
  all_goals
   have hk:keepN P nm=nm:=List.filter_eq_self.2 fun y hy=>by rw [idxF_neg.1 h0 y hy];rfl
   rw [hk]
  ·rw [hn]
  ·rw [List.append_nil];exact hW2
 ·obtain ⟨j,x,h1,h2,h3,h4⟩:=idxF_at h0;rw [Nat.zero_add] at h3;have hj:=(List.getElem?_eq_some_iff.1 h1).1;rw [h3];refine ⟨fun h=>by simp at h,fun h d3=> ?_⟩;rw [lwrap_small (by omega) (by omega)];have hk:keepN P (nm.take j)=nm.take j:=List.filter_eq_self.2 fun y hy=>by rw [h4 y hy];rfl
  have hkj:nm.take j=keepN P (nm.take (j+1)):=by
   have hxe:nm[j]=x:=by rw [List.getElem?_eq_getElem hj] at h1;exact Option.some.inj h1
   rw [keep_step hj,hk,hxe,h2];simp
  intro hin hI2;have key:=loop81b ad n qq nm P p q A B H hn hsm hq hlt hcl (n-(j+1)) (j+1) j nm (by omega) (by omega) hn hkj rfl d3 H2 hW2;exact key hin hI2
theorem loop81c(ad:LAddr)(n:Nat)(qq:Cap)(nm:List NameC)(P:NameC->Bool)(p:LAddr)(A B:List LV)(H0:LHeap)(hn:nm.length=n)(hsm:n<=1000)(hq:QOK ad n 3 qq)(hlt:ad.id<H0.next)
  (hcl:∀(y:NameC) (H:LHeap),PresX [ad.id] H0 H->CallL cfg 87 [y.lv,.ptr (some p)] H (Ret (.bool (P y)) H)):
  ∀(m j i:Nat) (cur:List NameC),j+m=n->i<=j->cur.length=n->cur.take i=keepN P (nm.take j)->cur.drop j=nm.drop j->∀(d:Nat->LV) (H:LHeap),WAt H ad 33 A (cellsN cur) B->
   GoesT cfg 81 (DelS ad qq A B nm P H0) [ad.id] H0 [] (L81c_0 d (j:Int) (i:Int) (some ad) n qq p) (loopAt cfg 81 0) H
 |0,j,i,cur,hj,hij,hc,ht,hd,d,H,hW=>by
  intro hin hI;have hjn:j=n:=by omega
  have ht':cur.take i=keepN P nm:=by rw [ht,List.take_of_length_le (by omega)]
  obtain ⟨x1,x2,x3,g1,g2⟩:=del_end (i:=i) hn hq (by omega) hc ht' hW hlt hI;refine g81c_0 _ [ad.id] H0 d j i (some ad) n qq p H ⟨fun h=> ?_,fun h=>⟨x1,x2,x3,g1,fun hI=> ?_⟩⟩ hin hI
  ·simp at h;omega
  ·obtain ⟨Y,H24,g3,y1,y2,y3,g4⟩:=g2 hI;exact ⟨Y,H24,g3,y1,y2,y3,g4⟩
 |m+1,j,i,cur,hj,hij,hc,ht,hd,d,H,hW=>by
  intro hin hI;have hjn:j<nm.length:=by omega
  have hx:cur[j]? =some nm[j]:=by
   have:=congrArg (fun l=>l[0]?) hd;simp only [List.getElem?_drop,Nat.add_zero] at this;rw [this,List.getElem?_eq_getElem hjn]
  have hnext:=hI.pres.next;refine g81c_0 _ [ad.id] H0 d j i (some ad) n qq p H ⟨fun h=>⟨⟨by omega,by omega,rfl⟩,fun _=>⟨nm[j],by simpa [adr] using wat_elem hW hx,fun k H1 gk p1 H2 p2 hI2=>⟨_,hcl nm[j] H2 hI2.pres,Ret.use ⟨_,rfl⟩,fun b H3 ⟨e,p3⟩=>⟨fun hb=>⟨⟨by omega,by omega,rfl⟩,fun hI3=> ?keep⟩,fun hb d1=> ?gone⟩⟩⟩⟩,fun h=> ?ge⟩ hin hI
  case ge=>simp at h;omega
  case keep=>
   cases e;have hW3:WAt H3 ad 33 A (cellsN cur) B:=((hW.on p1 (by simp)).on p2 (by simp;omega)).on p3 (by simp);obtain ⟨H17,g1,g2,g3⟩:=store33 hW3 (i:=i) (by omega) nm[j];refine ⟨H17,⟨by simpa [adr] using g1,.inl (by simp [adr]),fun k' s hs=> ?_⟩,fun d18=> ?_⟩
   ·cases k' with
    |zero=>cases hs;show k≠ad.id;omega
    |succ k'=>simp [nth] at hs
   ·rw [lwrap_small (by omega) (by omega),lwrap_small (by omega) (by omega)];refine loop81c ad n qq nm P p A B H0 hn hsm hq hlt hcl m (j+1) (i+1) (cur.set i nm[j]) (by omega) (by omega) (by rw [List.length_set,hc]) ?_ ?_ d18 H17 g2
    ·have hb':P nm[j]=false:=by simpa using hb
     rw [set_take (by omega),keep_step hjn,ht,hb'];rfl
    ·rw [set_drop (by omega)];have:=congrArg (List.drop 1) hd
     rwa [List.drop_drop,List.drop_drop] at this
  case gone=>
   cases e;have hW3:WAt H3 ad 33 A (cellsN cur) B:=((hW.on p1 (by simp)).on p2 (by simp;omega)).on p3 (by simp);rw [lwrap_small (by omega) (by omega)];refine loop81c ad n qq nm P p A B H0 hn hsm hq hlt hcl m (j+1) i cur (by omega) (by omega) hc ?_ ?_ d1 H3 hW3
   ·have hb':P nm[j]=true:=by simpa using hb
    rw [keep_step hjn,ht,hb'];simp
   ·have:=congrArg (List.drop 1) hd
    rwa [List.drop_drop,List.drop_drop] at this
theorem s81c(ad:LAddr)(n:Nat)(qq:Cap)(nm:List NameC)(P:NameC->Bool)(p:LAddr)(A B:List LV)(H:LHeap)(hn:nm.length=n)(hsm:n<=1000)(hq:QOK ad n 3 qq)(hW:WAt H ad 33 A (cellsN nm) B)
  (hcl:∀(y:NameC) (H':LHeap),PresX [ad.id] H H'->CallL cfg 87 [y.lv,.ptr (some p)] H' (Ret (.bool (P y)) H')):
  CallL cfg 81 [.slice (some ad) n qq,.func (.func 87) [] [.ptr (some p)]] H (DelS ad qq A B nm P H):=by
 have hlt:=hW.lt;have hN:NmAt H (some ad) n qq nm:=⟨hn,hsm,by
  simp only [firstCellsL,Nat.ble_eq,Nat.le_refl,if_true];have:=hW.load;rw [cellsN_len,hn] at this;exact this,fun x e=>by cases e;exact hlt⟩
 refine e81c _ [ad.id] (some ad) n qq p H fun hI=>⟨_,s164c (some ad) n qq nm P p H hN fun y H' p=>hcl y H' (p.mono (by simp)),Ret.use ⟨_,rfl⟩,fun i H2 ⟨e,p2⟩=> ?_⟩;cases e;have hW2:=hW.on p2 (by simp);have hcl2:∀(y:NameC) (H':LHeap),PresX [ad.id] H2 H'->CallL cfg 87 [y.lv,.ptr (some p)] H' (Ret (.bool (P y)) H'):=fun y H' p=>hcl y H' ((p2.mono (by simp)).trans p fun i hi=>.inl hi);by_cases h0:idxF P nm 0= -1
 ·rw [h0];refine ⟨fun _ hI2=>⟨hI2.pres,?_,[],?_⟩,fun h=>by simp at h⟩
  all_goals
   have hk:keepN P nm=nm:=List.filter_eq_self.2 fun y hy=>by rw [idxF_neg.1 h0 y hy];rfl
   rw [hk]
  ·rw [hn]
  ·rw [List.append_nil];exact hW2
 ·obtain ⟨j,x,h1,h2,h3,h4⟩:=idxF_at h0;rw [Nat.zero_add] at h3;have hj:=(List.getElem?_eq_some_iff.1 h1).1;rw [h3];refine ⟨fun h=>by simp at h,fun h d3=> ?_⟩;rw [lwrap_small (by omega) (by omega)];have hk:keepN P (nm.take j)=nm.take j:=List.filter_eq_self.2 fun y hy=>by rw [h4 y hy];rfl
  have hkj:nm.take j=keepN P (nm.take (j+1)):=by
   have hxe:nm[j]=x:=by rw [List.getElem?_eq_getElem hj] at h1;exact Option.some.inj h1
   rw [keep_step hj,hk,hxe,h2];simp
  intro hin hI2;have key:=loop81c ad n qq nm P p A B H hn hsm hq hlt hcl (n-(j+1)) (j+1) j nm (by omega) (by omega) hn hkj rfl d3 H2 hW2;exact key hin hI2
theorem u36:cfg.P.underlying 36=some (.slice 33):=by kernel_rfl
theorem z33:sizeOfT cfg.P 33=some 3:=by kernel_rfl
theorem e36:elemOfSlice cfg.P 36=some 33:=by kernel_rfl
theorem wat_wide{H:LHeap}{a:LAddr}{e:TypeId}{A cs P B:List LV}(h:WAt H a e A cs (P++B)):WAt H a e A (cs++P) B:=by
 have he:A++(cs++P++B)=A++(cs++(P++B)):=by simp only [List.append_assoc]
 obtain ⟨m,h1,h2⟩:=h.get;exact ⟨⟨m,by rw [he];exact h1,h2⟩,h.off,by rw [he];exact h.len,h.lt,by rw [he];exact h.all⟩
theorem app_here{H H':LHeap}{a:LAddr}{n c:Nat}{x:LV}{V:List LV}(hx:lenL x=some 1)(hf:firstCellsL H 3 1 x=some V)(hV:V.length=3)(hc:n+1<=c)(hn:n<=1000)(hs:storeN H ⟨a.id,a.ver,a.off+n*3⟩ V=some H'):
  appendL cfg.P H [36,36] [.slice (some a) n (.exact c),x]=some (.slice (some a) (n+1) (.exact c),H'):=by
 unfold appendL;simp only [rowT33.elem,rowT33.sized,rowT33.bytes,rowT33.noInt,rowT33.und,hx,hf,Bool.false_eq_true,if_false];unfold appendCells;simp only [show zeroOf cfg.P 33=some nilName.lv by kernel_rfl];rw [if_neg (by decide),if_neg (by simp [hV,Nat.ble_eq];omega),if_neg (by decide),if_pos (by rw [Nat.ble_eq];exact hc)];unfold appendHere;rw [hs]
theorem app_zeros{H:LHeap}{a:LAddr}{i k c:Nat}{old:List LV}(hf:firstCellsL H 3 i (.slice (some a) i (.exact c))=some old)(ho:allCells old=true)(hol:old.length=i*3)(hc:c<i+k)(hk:0<k)(hs:i+k<=1001):
  appendL cfg.P H [36,3] [.slice (some a) i (.exact c),.int .i64 (k:Nat)]=some (.slice (some ⟨H.next,(i+k)*3,0⟩) (i+k) (.free 3),H.push (.cells (old++zerosN k) 33 ((i+k)*3) ((i+k)*3) .none false false)):=by
 have hl:(old++zerosN k).length=(i+k)*3:=by rw [List.length_append,hol,zerosN_eq,cellsN_len,List.length_replicate,Nat.add_mul]
 have hz:allCells (old++zerosN k)=true:=allCells_app ho (by rw [zerosN_eq];exact cellsN_all _);unfold appendL;simp only [rowT33.elem,rowT33.sized,rowT33.bytes,show isIntT cfg.P 3=true by kernel_rfl,if_true,show zeroOf cfg.P 33=some nilName.lv by kernel_rfl];rw [if_pos (by rw [Nat.ble_eq];omega)];have hzl:(zerosN k).length=k*3:=by rw [zerosN_eq,cellsN_len,List.length_replicate]
 unfold appendCells;simp only [show zeroOf cfg.P 33=some nilName.lv by kernel_rfl];have hzl':(repl k nilName.lv.cells []).length=k*3:=hzl;rw [if_neg (by simp [Nat.beq_eq];omega),if_neg (by rw [hzl'];simp [Nat.ble_eq];omega),if_neg (by decide),if_neg (by rw [Nat.ble_eq];omega)];simp only [hf];unfold growL;rw [show repl k nilName.lv.cells []=zerosN k from rfl,newRow_get hz];simp only [hl]
def InsS(r n:Nat)(l:List NameC)(H:LHeap):LV->LHeap->Prop:=fun v H'=>PresX [r] H H'/\∃ad q B,v=.slice (some ad) n q/\WAt H' ad 33 [] (cellsN l) B/\QOK ad n 3 q/\(ad.id=r\/H.next<=ad.id)
theorem ins_cells(l:List NameC)(i:Nat)(x:NameC):cellsN (l.take i++x::l.drop i)=cellsN (l.take i)++(x.cs++cellsN (l.drop i)):=by
 rw [cellsN_app,<-List.singleton_append,cellsN_app,cellsN_one]
theorem s86x(a b:LAddr)(n c i:Nat)(nm:List NameC)(x:NameC)(J:List LV)(H:LHeap)(hW:WAt H a 33 [] (cellsN nm) J)(hJ:J.length=(c-n)*3)(hn:nm.length=n)(hsm:n<=1000)(hc:n<=c)(hi:i<=n)
  (hb:loadN H b 3=some x.cs) (hbl:b.id<H.next) (hbne:b.id≠a.id) (hbo:∃cs e v m wh,H.get b.id=some (.cells cs e v m .none false wh)/\m<=b.ver):
  CallL cfg 86 [.slice (some a) n (.exact c),.int .i64 i,.slice (some b) 1 (.exact 1)] H (InsS a.id (n+1) (nm.take i++x::nm.drop i) H):=by
 have hq:QOK a n 3 (.exact c):=.inl ⟨c,rfl,hc⟩;have hlt:=hW.lt;obtain ⟨b1,q1,g1,gi1,gq1,ga1⟩:=slice_lo (k:=.i64) u36 z33 (by decide) hq hi;have ok:∀(i:Nat),i∈[a.id]->okId [a.id] H [] i:=fun i hi=>⟨.inl hi,fun k s hs=>by simp [nth] at hs⟩;have fb:∀H',loadN H' b 3=some x.cs->firstCellsL H' 3 1 (.slice (some b) 1 (.exact 1))=some x.cs:=fun H' h=>h;have hlen:(cellsN nm).length=n*3:=by rw [cellsN_len,hn]
 have w1:lwrap .i64 ((n:Int)+1)=((n+1:Nat):Int):=by rw [lwrap_small (by omega) (by omega)];rfl
 have w2:lwrap .i64 ((i:Int)+1)=((i+1:Nat):Int):=by rw [lwrap_small (by omega) (by omega)];rfl
 have w3:lwrap .i64 (((n+1:Nat):Int)-(i:Int))=((n+1-i:Nat):Int):=by rw [lwrap_small (by omega) (by omega)];omega
 refine e86e _ [a.id] (some a) n c i b H ⟨some b1,n-i,q1,g1,fun hin hI=> ?caseA,fun hin=>⟨fun hcap=> ?caseB,fun hcap=> ?caseC⟩⟩
 case caseA=>
  have hin':(i:Int)=n:=by simpa using hin
  have hin:i=n:=by omega
  have hl:nm.take i++x::nm.drop i=nm++[x]:=by rw [List.take_of_length_le (by omega),List.drop_of_length_le (by omega)]
  rw [hl];by_cases hroom:n+1<=c
  ·have hW2:WAt H a 33 [] (cellsN nm++(J.take 3++[])) (J.drop 3):=by
    rw [List.append_nil];exact wat_wide (by rw [List.take_append_drop];exact hW)
   obtain ⟨H',h1,h2,h3⟩:=hW2.putAt (V:=x.cs) (by rw [List.length_take,hJ];simp only [NameC.cs,List.length_cons,List.length_nil];omega) rfl;rw [hlen] at h1;refine ⟨[a.id],some a,n+1,.exact c,H',⟨app_here rfl (fb H hb) rfl hroom hsm h1,h3,ok⟩,fun hI2=>⟨hI2.pres,a,.exact c,J.drop 3,rfl,?_,.inl ⟨c,rfl,hroom⟩,.inl rfl⟩⟩;rw [cellsN_app,cellsN_one];rw [List.append_nil] at h2;exact h2
  ·obtain rfl:c=n:=by omega
   have hr:RowAt H 33 3 (some a) c (.exact c) (cellsN nm):=.full a c _ hlt (by have:=hW.load;rwa [hlen] at this) hlen (cellsN_all _);obtain ⟨Y,a',q',H',h1,h2,h3,h4,h5,h6⟩:=hr.append2 rowT33 (x:=.slice (some b) 1 (.exact 1)) (m:=1) (new:=x.cs) rfl (fb H hb) rfl rfl (by omega);obtain rfl:=h6 (by decide);obtain ⟨ad,rfl,ho,hv,hw⟩:=h3.wat;have hY:∀i∈Y,i∈[a.id]:=fun i hi=>by
    obtain ⟨ad',e',rfl⟩:=h4 i hi;cases e';simp
   refine ⟨Y,some ad,c+1,.free 3,H',⟨h1,h2,fun i hi=>ok i (hY i hi)⟩,fun hI2=>⟨hI2.pres,ad,.free 3,[],rfl,?_,.inr ⟨rfl,by rw [ho,hv];omega⟩,?_⟩⟩
   ·rw [cellsN_app,cellsN_one];exact hw
   ·rcases h5 ad rfl with ⟨ad',e',e''⟩ |hge
    ·cases e';exact .inl e''.symm
    ·exact .inr hge
 case caseB=>
  have hin:i<n:=by
   have:¬((i:Int)=n):=by simpa using hin
   omega
  rw [w1] at hcap;obtain rfl:c=n:=by
   have:(c:Int)<((n+1:Nat):Int):=by simpa using hcap
   omega
  rw [w1,w3,w2];have hold:firstCellsL H 3 i (.slice (some a) i (.exact c))=some (cellsN (nm.take i)):=by
   simp only [firstCellsL,Nat.ble_eq,Nat.le_refl,if_true];have hs:=hW;rw [show cellsN nm=[]++(cellsN (nm.take i)++cellsN (nm.drop i)) by rw [List.nil_append,<-cellsN_app,List.take_append_drop]] at hs;have:=hs.loadAt;rw [cellsN_len,List.length_take,Nat.min_eq_left (by omega)] at this;simpa using this
  have hol:(cellsN (nm.take i)).length=i*3:=by rw [cellsN_len,List.length_take,Nat.min_eq_left (by omega)]
  have happ:=app_zeros (k:=c+1-i) hold (cellsN_all _) hol (by omega) (by omega) (by omega);rw [show i+(c+1-i)=c+1 by omega] at happ;refine ⟨some a,i,.exact c,slice_hi u36 z33 (by decide) hq hi,fun hI=>⟨[],_,_,_,_,⟨happ,.push _ _ _,fun i hi=>by cases hi⟩,?_⟩⟩;have hz:zerosN (c+1-i)=nilName.cs++zerosN (c-i):=by
   rw [zerosN_eq,zerosN_eq,show c+1-i=(c-i)+1 by omega,List.replicate_succ,<-List.singleton_append,cellsN_app,cellsN_one]
  have hzl:(zerosN (c-i)).length=(c-i)*3:=by rw [zerosN_eq,cellsN_len,List.length_replicate]
  have hW1:WAt (H.push (.cells (cellsN (nm.take i)++zerosN (c+1-i)) 33 ((c+1)*3) ((c+1)*3) .none false false)) ⟨H.next,(c+1)*3,0⟩ 33 [] (cellsN (nm.take i)++(nilName.cs++zerosN (c-i))) []:=by
   refine ⟨⟨(c+1)*3,?_,Nat.le_refl _⟩,rfl,?_,Nat.lt_succ_self _,?_⟩
   ·rw [LHeap.get_push,if_pos rfl,hz];simp
   ·simp only [List.nil_append,List.append_nil,List.length_append,hol,hzl];simp only [NameC.cs,List.length_cons,List.length_nil];omega
   ·simp only [List.nil_append,List.append_nil];exact allCells_app (cellsN_all _) (allCells_app rfl (by rw [zerosN_eq];exact cellsN_all _))
  generalize hH1:H.push (.cells (cellsN (nm.take i)++zerosN (c+1-i)) 33 ((c+1)*3) ((c+1)*3) .none false false)=H1 at hW1 |-;have p1:PresX [] H H1:=by rw [<-hH1];exact .push _ _ _
  have hq2:QOK ⟨H.next,(c+1)*3,0⟩ (c+1) 3 (.free 3):=.inr ⟨rfl,by simp⟩;obtain ⟨b2,q2,g2,gi2,gq2,ga2⟩:=slice_lo (k:=.i64) u36 z33 (by decide) hq2 (i:=i) (by omega);obtain ⟨b3,q3,g3,gi3,gq3,ga3⟩:=slice_lo (k:=.i64) u36 z33 (by decide) hq2 (i:=i+1) (by omega);obtain ⟨H2,k1,k2,k3⟩:=hW1.putAt (V:=x.cs) rfl rfl;rw [hol] at k1;have ok2:∀i∈[H.next],okId [a.id] H [] i:=fun i hi=>⟨.inr (by rw [List.mem_singleton.1 hi];exact Nat.le_refl _),fun k s hs=>by simp [nth] at hs⟩;have p2:PresX [H.next] H H2:=(p1.mono (by simp)).trans k3 fun i hi=>.inl hi;have k2':WAt H2 ⟨H.next,(c+1)*3,0⟩ 33 [] ((cellsN (nm.take i)++x.cs)++(zerosN (c-i)++[])) []:=by simpa [List.append_assoc] using k2
  obtain ⟨H3,m1,m2,m3⟩:=k2'.putAt (V:=cellsN (nm.drop i)) (by rw [cellsN_len,List.length_drop,hn,hzl]) (cellsN_all _);rw [List.length_append,hol,show i*3+x.cs.length=(i+1)*3 by simp only [NameC.cs,List.length_cons,List.length_nil];omega] at m1;refine ⟨some b2,_,q2,g2,fun hI1=>⟨((1:Nat):Int),[H.next],H2,⟨opB_copy (copyL_of e36 z33 rfl (by omega) (fb H1 ((p1.keep b.id hbl (by simp)).loads b 3 _ rfl hb)) (by rw [ga2 (by omega)];exact k1)),k3,ok2⟩,some b3,_,q3,g3,some b1,_,q1,g1,fun hI2=>⟨((c-i:Nat):Int),[H.next],H3,⟨opB_copy (copyL_of e36 z33 rfl (by omega) (V:=cellsN (nm.drop i)) ?_ (by rw [ga3 (by omega)];exact m1)),m3,ok2⟩,fun hI3=>⟨hI3.pres,⟨H.next,(c+1)*3,0⟩,.free 3,[],rfl,?_,hq2,.inr (Nat.le_refl _)⟩⟩⟩⟩
  ·show (if Nat.ble (c-i) (c-i) then loadN H2 b1 ((c-i)*3) else none)=_;rw [if_pos (by simp),ga1 (by omega)];have hs:=hW.on p2 (by simp;omega);rw [show cellsN nm=cellsN (nm.take i)++(cellsN (nm.drop i)++[]) by rw [List.append_nil,<-cellsN_app,List.take_append_drop]] at hs;have:=hs.loadAt;rw [hol,cellsN_len,List.length_drop,hn] at this;exact this
  ·rw [ins_cells];simpa [List.append_assoc] using m2
 case caseC=>
  have hin:i<n:=by
   have:¬((i:Int)=n):=by simpa using hin
   omega
  rw [w1] at hcap;have hroom:n+1<=c:=by
   have:¬((c:Int)<((n+1:Nat):Int)):=by simpa using hcap
   omega
  rw [w1,w2];have hq2:QOK a (n+1) 3 (.exact c):=.inl ⟨c,rfl,hroom⟩;obtain ⟨b4,q4,g4,gi4,gq4,ga4⟩:=slice_lo (k:=.i64) u36 z33 (by decide) hq2 (i:=i+1) (by omega);obtain ⟨b5,q5,g5,gi5,gq5,ga5⟩:=slice_lo (k:=.i64) u36 z33 (by decide) hq2 (i:=i) (by omega);have hol:(cellsN (nm.take i)).length=i*3:=by rw [cellsN_len,List.length_take,Nat.min_eq_left (by omega)]
  have hol1:(cellsN (nm.take (i+1))).length=(i+1)*3:=by rw [cellsN_len,List.length_take,Nat.min_eq_left (by omega)]
  have hW2:WAt H a 33 [] (cellsN (nm.take (i+1))++((cellsN (nm.drop (i+1))++J.take 3)++[])) (J.drop 3):=by
   have:WAt H a 33 [] (cellsN nm++J.take 3) (J.drop 3):=wat_wide (by rw [List.take_append_drop];exact hW);rw [show cellsN nm=cellsN (nm.take (i+1))++cellsN (nm.drop (i+1)) by rw [<-cellsN_app,List.take_append_drop]] at this;simpa [List.append_assoc] using this
  obtain ⟨H2,k1,k2,k3⟩:=hW2.putAt (V:=cellsN (nm.drop i)) (by rw [List.length_append,cellsN_len,cellsN_len,List.length_drop,List.length_drop,List.length_take,hn,hJ];omega) (cellsN_all _);rw [hol1] at k1;have hx:nm[i]? =some nm[i]:=List.getElem?_eq_getElem (by omega);have k2':WAt H2 a 33 [] (cellsN (nm.take i)++(nm[i].cs++cellsN (nm.drop i))) (J.drop 3):=by
   have e:cellsN (nm.take (i+1))=cellsN (nm.take i)++nm[i].cs:=by rw [List.take_succ_eq_append_getElem (by omega),cellsN_app,cellsN_one]
   rw [e] at k2;simpa [List.append_assoc] using k2
  obtain ⟨H3,m1,m2,m3⟩:=k2'.putAt (V:=x.cs) rfl rfl;rw [hol] at m1;obtain ⟨cs',e',v',m',wh',gb,gm⟩:=hbo;obtain ⟨mv,ga,gv⟩:=hW.get;refine ⟨some a,n+1,.exact c,slice_ext u36 z33 hroom,some b4,_,q4,g4,false,H,?_,fun _=>⟨some b4,_,q4,g4,some b5,_,q5,g5,fun hI=>⟨((n-i:Nat):Int),[a.id],H2,⟨opB_copy (copyL_of e36 z33 rfl (by omega) (V:=cellsN (nm.drop i)) ?_ (by rw [ga4 (by omega)];exact k1)),k3,ok⟩,some b5,_,q5,g5,fun hI2=>⟨((1:Nat):Int),[a.id],H3,⟨opB_copy (copyL_of e36 z33 rfl (by omega) (fb H2 ((k3.keep b.id hbl (by simpa using hbne)).loads b 3 _ rfl hb)) (by rw [ga5 (by omega)];exact m1)),m3,ok⟩,fun hI3=>⟨hI3.pres,a,.exact c,J.drop 3,rfl,?_,hq2,.inl rfl⟩⟩⟩⟩,fun h=>by simp at h⟩
  ·unfold extL;simp only [e36,z33];rw [ga4 (by omega)];have hne:Nat.beq b.id a.id=false:=by
    cases hbq:Nat.beq b.id a.id with
    |true=>exact absurd (Nat.eq_of_beq_eq_true hbq) hbne
    |false=>rfl
   simp only [hne,gb,ga];rw [if_neg (by simp [Nat.beq_eq];omega),if_neg (by simp),if_pos (by simp only [Bool.and_eq_true,Nat.ble_eq];exact ⟨gm,gv⟩)]
  ·show (if Nat.ble (n-i) (n+1-i) then loadN H b5 ((n-i)*3) else none)=_;rw [if_pos (by rw [Nat.ble_eq];omega),ga5 (by omega)];have hs:=hW;rw [show cellsN nm=cellsN (nm.take i)++(cellsN (nm.drop i)++[]) by rw [List.append_nil,<-cellsN_app,List.take_append_drop]] at hs;have:=hs.loadAt;rw [hol,cellsN_len,List.length_drop,hn] at this;exact this
  ·rw [ins_cells];exact m2
end Go.Proofs.YtjihhflffkoffaaGreatDoor.Z
