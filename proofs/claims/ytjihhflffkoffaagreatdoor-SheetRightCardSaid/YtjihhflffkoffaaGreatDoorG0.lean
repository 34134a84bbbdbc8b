/- Contracts of functions of the program; no condition. -/
import Derived.Test.YtjihhflffkoffaaGreatDoorZ0
import Derived.Test.YtjihhflffkoffaaGreatDoorLe
import Derived.KernelRfl
set_option linter.unusedSimpArgs false
set_option linter.unusedVariables false
set_option linter.unusedSectionVars false
set_option linter.unnecessarySimpa false
namespace Go.Proofs.YtjihhflffkoffaaGreatDoor.Z
open Go Go.Lm
set_option maxRecDepth 1000000
set_option maxHeartbeats 0
structure NameC where
 scope:List UInt8
 name:List UInt8
 text:List UInt8
def NameC.cs(x:NameC):List LV:=[.str x.scope,.str x.name,.str x.text]
def NameC.lv(x:NameC):LV:=.agg x.cs
structure ValC where
 kind:Int
 n:Int
 s:List UInt8
def ValC.cs(x:ValC):List LV:=[.int .i64 x.kind,.int .i64 x.n,.str x.s]
def ValC.lv(x:ValC):LV:=.agg x.cs
structure RefC where
 book:List UInt8
 sheet:List UInt8
 row:Int
 col:Int
 fixRow:Bool
 fixCol:Bool
def RefC.cs(x:RefC):List LV:=[.str x.book,.str x.sheet,.int .i64 x.row,.int .i64 x.col,.bool x.fixRow,.bool x.fixCol]
def RefC.lv(x:RefC):LV:=.agg x.cs
structure NdC where
 kind:Int
 s:List UInt8
 valueKind:Int
 valueN:Int
 valueS:List UInt8
 refBook:List UInt8
 refSheet:List UInt8
 refRow:Int
 refCol:Int
 refFixRow:Bool
 refFixCol:Bool
 toBook:List UInt8
 toSheet:List UInt8
 toRow:Int
 toCol:Int
 toFixRow:Bool
 toFixCol:Bool
 argsA:Option LAddr
 argsL:Nat
 argsQ:Cap
def NdC.cs(x:NdC):List LV:=[.int .i64 x.kind,.str x.s,.int .i64 x.valueKind,.int .i64 x.valueN,.str x.valueS,.str x.refBook,.str x.refSheet,.int .i64 x.refRow,.int .i64 x.refCol,.bool x.refFixRow,.bool x.refFixCol,.str x.toBook,.str x.toSheet,.int .i64 x.toRow,.int .i64 x.toCol,.bool x.toFixRow,.bool x.toFixCol,.slice x.argsA x.argsL x.argsQ]
def NdC.lv(x:NdC):LV:=.agg x.cs
structure PlaceC where
 book:List UInt8
 sheet:List UInt8
 row:Int
 col:Int
def PlaceC.cs(x:PlaceC):List LV:=[.str x.book,.str x.sheet,.int .i64 x.row,.int .i64 x.col]
def PlaceC.lv(x:PlaceC):LV:=.agg x.cs
structure ShiftC where
 at_:Int
 n:Int
 most:Int
def ShiftC.cs(x:ShiftC):List LV:=[.int .i64 x.at_,.int .i64 x.n,.int .i64 x.most]
def ShiftC.lv(x:ShiftC):LV:=.agg x.cs
structure ChangeC where
 book:List UInt8
 sheet:List UInt8
 drop:Bool
 cols:Bool
 shiftAt:Int
 shiftN:Int
 shiftMost:Int
def ChangeC.cs(x:ChangeC):List LV:=[.str x.book,.str x.sheet,.bool x.drop,.bool x.cols,.int .i64 x.shiftAt,.int .i64 x.shiftN,.int .i64 x.shiftMost]
def ChangeC.lv(x:ChangeC):LV:=.agg x.cs
structure TokC where
 kind:Int
 n:Int
 s:List UInt8
 refBook:List UInt8
 refSheet:List UInt8
 refRow:Int
 refCol:Int
 refFixRow:Bool
 refFixCol:Bool
def TokC.cs(x:TokC):List LV:=[.int .i64 x.kind,.int .i64 x.n,.str x.s,.str x.refBook,.str x.refSheet,.int .i64 x.refRow,.int .i64 x.refCol,.bool x.refFixRow,.bool x.refFixCol]
def TokC.lv(x:TokC):LV:=.agg x.cs
structure CellC where
 row:Int
 col:Int
 text:List UInt8
def CellC.cs(x:CellC):List LV:=[.int .i64 x.row,.int .i64 x.col,.str x.text]
def CellC.lv(x:CellC):LV:=.agg x.cs
structure SheetC where
 name:List UInt8
 cellsA:Option LAddr
 cellsL:Nat
 cellsQ:Cap
def SheetC.cs(x:SheetC):List LV:=[.str x.name,.slice x.cellsA x.cellsL x.cellsQ]
def SheetC.lv(x:SheetC):LV:=.agg x.cs
structure BookC where
 sheetsA:Option LAddr
 sheetsL:Nat
 sheetsQ:Cap
 namesA:Option LAddr
 namesL:Nat
 namesQ:Cap
 linksA:Option LAddr
 linksL:Nat
 linksQ:Cap
def BookC.cs(x:BookC):List LV:=[.slice x.sheetsA x.sheetsL x.sheetsQ,.slice x.namesA x.namesL x.namesQ,.slice x.linksA x.linksL x.linksQ]
def BookC.lv(x:BookC):LV:=.agg x.cs
structure LinkC where
 book:List UInt8
 sheet:List UInt8
 row:Int
 col:Int
 valueKind:Int
 valueN:Int
 valueS:List UInt8
def LinkC.cs(x:LinkC):List LV:=[.str x.book,.str x.sheet,.int .i64 x.row,.int .i64 x.col,.int .i64 x.valueKind,.int .i64 x.valueN,.str x.valueS]
def LinkC.lv(x:LinkC):LV:=.agg x.cs
structure PutC where
 sheet:List UInt8
 row:Int
 col:Int
 text:List UInt8
 at_:Int
 cellsA:Option LAddr
 cellsL:Nat
 cellsQ:Cap
def PutC.cs(x:PutC):List LV:=[.str x.sheet,.int .i64 x.row,.int .i64 x.col,.str x.text,.int .i64 x.at_,.slice x.cellsA x.cellsL x.cellsQ]
def PutC.lv(x:PutC):LV:=.agg x.cs
structure TurnC where
 homeBook:List UInt8
 homeSheet:List UInt8
 homeRow:Int
 homeCol:Int
 cBook:List UInt8
 cSheet:List UInt8
 cDrop:Bool
 cCols:Bool
 cShiftAt:Int
 cShiftN:Int
 cShiftMost:Int
 line:LV
 lines:LV
 any:Bool
def TurnC.cs(x:TurnC):List LV:=[.str x.homeBook,.str x.homeSheet,.int .i64 x.homeRow,.int .i64 x.homeCol,.str x.cBook,.str x.cSheet,.bool x.cDrop,.bool x.cCols,.int .i64 x.cShiftAt,.int .i64 x.cShiftN,.int .i64 x.cShiftMost,x.line,x.lines,.bool x.any]
def TurnC.lv(x:TurnC):LV:=.agg x.cs
abbrev RR:=LV->LHeap->Prop
abbrev I6(n:Int):LV:=.int .i64 n
abbrev Sk:=Slot.mk
abbrev Lk:=LAddr.mk
def dl(d:Nat->LV):Nat->Nat->List SV
 |_,0=>[]
 |i,n+1=>.lv (d i)::dl d (i+1) n
abbrev Cd(c:Bool)(P Q:Prop):Prop:=(c=true->P)/\(c=false->Q)
abbrev Dc(p:Prop)[Decidable p](P Q:Prop):Prop:=(decide p=true->P)/\(decide p=false->Q)
abbrev PX(l:List Nat)(H:LHeap)(K:LHeap->Prop):Prop:=∀H',PresX l H H'->K H'
abbrev NX(H:LHeap)(K:Nat->LHeap->Prop):Prop:=∀n H',H.next<=n->PresX [] H H'->K n H'
abbrev CL(f:Nat)(a:List LV)(H:LHeap)(sh:Sh)(K:RR->Prop):Prop:=∃S,CallL cfg f a H S/\(∀v H',S v H'->PresX [] H H'/\hasSh sh v)/\K S
abbrev R0(H:LHeap)(kn:List Slot)(H':LHeap)(R:RR)(v:LV):Prop:=Inv [] H kn H'->R v H'
abbrev RX(X:List Nat)(H:LHeap)(kn:List Slot)(H':LHeap)(R:RR)(v:LV):Prop:=Inv X H kn H'->R v H'
abbrev Ka(f:Nat)(a:List LV)(H:LHeap)(K:Bool->LHeap->Prop):Prop:=∃S,CallL cfg f a H S/\(∀v H',S v H'->PresX [] H H'/\hasSh .bool v)/\∀x0 H',S (.bool x0) H'->K x0 H'
abbrev Kb(f:Nat)(a:List LV)(H:LHeap)(K:(List UInt8)->LHeap->Prop):Prop:=∃S,CallL cfg f a H S/\(∀v H',S v H'->PresX [] H H'/\hasSh .str v)/\∀x0 H',S (.str x0) H'->K x0 H'
abbrev Kc(f:Nat)(a:List LV)(H:LHeap)(K:Int->LHeap->Prop):Prop:=∃S,CallL cfg f a H S/\(∀v H',S v H'->PresX [] H H'/\hasSh (.int .i64) v)/\∀x0 H',S (I6 x0) H'->K x0 H'
abbrev Kd(f:Nat)(a:List LV)(H:LHeap)(K:RefC->Bool->LHeap->Prop):Prop:=∃S,CallL cfg f a H S/\(∀v H',S v H'->PresX [] H H'/\hasSh (.tuple [.cust RefC RefC.lv,.bool]) v)/\∀x0 x1 H',S (.tuple [RefC.lv x0,.bool x1]) H'->K x0 x1 H'
abbrev Ke(f:Nat)(a:List LV)(H:LHeap)(K:TokC->Int->LHeap->Prop):Prop:=∃S,CallL cfg f a H S/\(∀v H',S v H'->PresX [] H H'/\hasSh (.tuple [.cust TokC TokC.lv,.int .i64]) v)/\∀x0 x1 H',S (.tuple [TokC.lv x0,I6 x1]) H'->K x0 x1 H'
abbrev Kf(f:Nat)(a:List LV)(H:LHeap)(K:Int->Bool->LHeap->Prop):Prop:=∃S,CallL cfg f a H S/\(∀v H',S v H'->PresX [] H H'/\hasSh (.tuple [.int .i64,.bool]) v)/\∀x0 x1 H',S (.tuple [I6 x0,.bool x1]) H'->K x0 x1 H'
abbrev Kg(f:Nat)(a:List LV)(H:LHeap)(K:ValC->LHeap->Prop):Prop:=∃S,CallL cfg f a H S/\(∀v H',S v H'->PresX [] H H'/\hasSh (.cust ValC ValC.lv) v)/\∀x0 H',S (ValC.lv x0) H'->K x0 H'
abbrev Kh(f:Nat)(a:List LV)(H:LHeap)(K:NdC->LHeap->Prop):Prop:=∃S,CallL cfg f a H S/\(∀v H',S v H'->PresX [] H H'/\hasSh (.cust NdC NdC.lv) v)/\∀x0 H',S (NdC.lv x0) H'->K x0 H'
abbrev Ki(f:Nat)(a:List LV)(H:LHeap)(K:(List UInt8)->(List UInt8)->Bool->LHeap->Prop):Prop:=∃S,CallL cfg f a H S/\(∀v H',S v H'->PresX [] H H'/\hasSh (.tuple [.str,.str,.bool]) v)/\∀x0 x1 x2 H',S (.tuple [.str x0,.str x1,.bool x2]) H'->K x0 x1 x2 H'
abbrev Kj(f:Nat)(a:List LV)(H:LHeap)(K:(List UInt8)->Bool->LHeap->Prop):Prop:=∃S,CallL cfg f a H S/\(∀v H',S v H'->PresX [] H H'/\hasSh (.tuple [.str,.bool]) v)/\∀x0 x1 H',S (.tuple [.str x0,.bool x1]) H'->K x0 x1 H'
def ncmp(a b:NameC):Int:=if cmpBytes a.scope b.scope=0 then cmpBytes a.name b.name else cmpBytes a.scope b.scope
def isN(sc n:List UInt8)(x:NameC):Bool:=x.scope==sc&&x.name==n
def idxF(p:NameC->Bool):List NameC->Nat->Int
 |[],_=> -1
 |x::l,i=>if p x then i else idxF p l (i+1)
theorem idxF_neg{p:NameC->Bool}:∀{l:List NameC} {i:Nat},idxF p l i= -1↔∀x∈l,p x=false
 |[],i=>by simp [idxF]
 |x::l,i=>by
  unfold idxF;by_cases h:p x=true
  ·rw [if_pos h];simp [h]
  ·rw [if_neg h,idxF_neg];simp [h]
theorem idxF_at{p:NameC->Bool}:∀{l:List NameC} {i:Nat},idxF p l i≠-1->∃j x,l[j]? =some x/\p x=true/\idxF p l i=((i+j:Nat):Int)/\∀y∈l.take j,p y=false
 |[],i,h=>absurd rfl h
 |x::l,i,h=>by
  unfold idxF at h |-;by_cases hp:p x=true
  ·rw [if_pos hp] at h |-;exact ⟨0,x,rfl,hp,rfl,fun y hy=>by simp at hy⟩
  ·rw [if_neg hp] at h |-;obtain ⟨j,y,h1,h2,h3,h4⟩:=idxF_at h;refine ⟨j+1,y,by simpa using h1,h2,by rw [h3];omega,fun z hz=> ?_⟩;rw [List.take_succ_cons] at hz;rcases List.mem_cons.1 hz with rfl |hz
   ·simpa using hp
   ·exact h4 z hz
theorem e163(R:LV->LHeap->Prop)(s0:List UInt8)(s1:List UInt8)(H:LHeap)
 (h:(Inv [] H [] H->R (.int Go.IntKind.i64 (cmpBytes s0 s1)) H)):
 CallL cfg 163 [(.str s0),(.str s1)] H R:=
  call_wt0 (k:=(.go 11 (.facts .ret))) (by kernel_rfl) h
theorem e79(R:LV->LHeap->Prop)(s0:List UInt8)(s1:List UInt8)(H:LHeap)
 (h:(Inv [] H [] H->∃S2:LV->LHeap->Prop,CallL cfg 163 [(.str s0),(.str s1)] H S2/\(∀v H',S2 v H'->PresX [] H H'/\hasSh (.int .i64) v)/\
  (∀(n3:Int),∀H4:LHeap,S2 (.int Go.IntKind.i64 n3) H4->(Inv [] H [] H4->R (.int Go.IntKind.i64 n3) H4)))):
 CallL cfg 79 [(.str s0),(.str s1)] H R:=
  call_wt0 (k:=(.go 8 (.facts (.call (.int .i64) (.go 2 (.facts .ret)))))) (by kernel_rfl) h
theorem e22t(R:LV->LHeap->Prop)(x0:NameC)(x1:NameC)(H:LHeap)
 (h:(∀(i2:Nat) (H3:LHeap),H.next<=i2->PresX [] H H3->(∀(i4:Nat) (H5:LHeap),H3.next<=i4->PresX [] H3 H5->(Inv [] H [(Slot.mk i2 (NameC.cs x0) 33),(Slot.mk i4 (NameC.cs x1) 33)] H5->∃S6:LV->LHeap->Prop,CallL cfg 79 [(.str x0.scope),(.str x1.scope)] H5 S6/\(∀v H',S6 v H'->PresX [] H5 H'/\hasSh (.int .i64) v)/\
  (∀(n7:Int),∀H8:LHeap,S6 (.int Go.IntKind.i64 n7) H8->(((n7 != (0:Int))=true->(Inv [] H [(Slot.mk i2 (NameC.cs x0) 33),(Slot.mk i4 (NameC.cs x1) 33)] H8->R (.int Go.IntKind.i64 n7) H8))
 /\ ((n7 != (0:Int))=false->(Inv [] H [(Slot.mk i2 (NameC.cs x0) 33),(Slot.mk i4 (NameC.cs x1) 33)] H8->∃S9:LV->LHeap->Prop,CallL cfg 79 [(.str x0.name),(.str x1.name)] H8 S9/\(∀v H',S9 v H'->PresX [] H8 H'/\hasSh (.int .i64) v)/\
  (∀(n10:Int),∀H11:LHeap,S9 (.int Go.IntKind.i64 n10) H11->(Inv [] H [(Slot.mk i2 (NameC.cs x0) 33),(Slot.mk i4 (NameC.cs x1) 33)] H11->R (.int Go.IntKind.i64 n10) H11)))))))))):
 CallL cfg 22 [(NameC.lv x0),(NameC.lv x1)] H R:=
  call_wt0 (k:=(.go 2 (.boxP (.boxP (.go 9 (.facts (.call (.int .i64) (.go 7 (.cases 12 (.go 6 (.facts .ret)) (.go 8 (.facts (.call (.int .i64) (.go 2 (.facts .ret)))))))))))))) (by kernel_rfl) h
theorem e165t(R:LV->LHeap->Prop)(x:Go.Proofs.YtjihhflffkoffaaGreatDoor.Z.NameC)(p:Go.Lm.LAddr)(q:Go.Lm.LAddr)(H:LHeap)
 (h:(∀(i0:Nat) (H1:LHeap),H.next<=i0->PresX [] H H1->(Inv [] H [(Slot.mk i0 (NameC.cs x) 33)] H1->(∃s3:(List UInt8),((loadT (cfg).P H1 9 p=some (.str s3))/\(((x.scope==s3)=true->(Inv [] H [(Slot.mk i0 (NameC.cs x) 33)] H1->(∃s5:(List UInt8),((loadT (cfg).P H1 9 q=some (.str s5))/\(Inv [] H [(Slot.mk i0 (NameC.cs x) 33)] H1->R (.bool (x.name==s5)) H1)))))
 /\ ((x.scope==s3)=false->(Inv [] H [(Slot.mk i0 (NameC.cs x) 33)] H1->R (.bool Bool.false) H1)))))))):
 CallL cfg 165 [(NameC.lv x),(.ptr (some p)),(.ptr (some q))] H R:=
  call_wt0 (k:=(.go 2 (.boxP (.go 6 (.facts (.op .str (.go 2 (.cases 9 (.go 2 (.facts (.op .str (.go 4 (.facts .ret))))) (.go 7 (.facts .ret)))))))))) (by kernel_rfl) h
theorem e83t(R:LV->LHeap->Prop)(x:Go.Proofs.YtjihhflffkoffaaGreatDoor.Z.NameC)(p:Go.Lm.LAddr)(q:Go.Lm.LAddr)(H:LHeap)
 (h:(∀(i0:Nat) (H1:LHeap),H.next<=i0->PresX [] H H1->(Inv [] H [(Slot.mk i0 (NameC.cs x) 33)] H1->(∃s3:(List UInt8),((loadT (cfg).P H1 9 p=some (.str s3))/\(((x.scope==s3)=true->(Inv [] H [(Slot.mk i0 (NameC.cs x) 33)] H1->(∃s5:(List UInt8),((loadT (cfg).P H1 9 q=some (.str s5))/\(Inv [] H [(Slot.mk i0 (NameC.cs x) 33)] H1->R (.bool (x.name==s5)) H1)))))
 /\ ((x.scope==s3)=false->(Inv [] H [(Slot.mk i0 (NameC.cs x) 33)] H1->R (.bool Bool.false) H1)))))))):
 CallL cfg 83 [(NameC.lv x),(.ptr (some p)),(.ptr (some q))] H R:=
  call_wt0 (k:=(.go 2 (.boxP (.go 6 (.facts (.op .str (.go 2 (.cases 9 (.go 2 (.facts (.op .str (.go 4 (.facts .ret))))) (.go 7 (.facts .ret)))))))))) (by kernel_rfl) h
def L164a_0(d:Nat->LV)(n0:Int)(f1:Go.Lm.LAddr)(f2:Go.Lm.LAddr)(a3:Option LAddr)(l4:Nat)(c5:Cap)(n6:Int):List SV:=[(.lv (.slice a3 l4 c5)),(.lv (.func (Fn.func 165) [] [(.ptr (some f1)),(.ptr (some f2))])),(.lv (d 2)),(.lv (d 3)),(.lv (d 4)),(.lv (d 5)),(.lv (d 6)),(.lv (.int Go.IntKind.i64 n6)),(.lv (.int Go.IntKind.i64 n0)),(.lv (d 9)),(.lv (d 10)),(.lv (d 11)),(.lv (d 12)),(.lv (d 13)),(.lv (d 14)),(.lv (d 15)),(.lv (d 16)),(.lv (d 17)),(.lv (d 18))]
theorem g164a_0(R:LV->LHeap->Prop)(H0:LHeap)(d:Nat->LV)(n0:Int)(f1:Go.Lm.LAddr)(f2:Go.Lm.LAddr)(a3:Option LAddr)(l4:Nat)(c5:Cap)(n6:Int) (H:LHeap)
 (h:(((decide (n0<n6))=true->((((0:Int)<=n0)/\((n0<((l4:Nat):Int))/\((Option.isSome a3)=Bool.true)))/\(Inv [] H0 [] H->(∃x9:Go.Proofs.YtjihhflffkoffaaGreatDoor.Z.NameC,((loadT (cfg).P H 33 (LAddr.mk (LAddr.id (adr a3)) (LAddr.ver (adr a3)) ((LAddr.off (adr a3))+((Int.toNat n0)*3)))=some (NameC.lv x9))/\(Inv [] H0 [] H->∃S10:LV->LHeap->Prop,CallL cfg 165 [(NameC.lv x9),(.ptr (some f1)),(.ptr (some f2))] H S10/\(∀v H',S10 v H'->PresX [] H H'/\hasSh .bool v)/\
  (∀(b11:Bool),∀H12:LHeap,S10 (.bool b11) H12->((b11=true->(Inv [] H0 [] H12->R (.int Go.IntKind.i64 n0) H12))
 /\ (b11=false->(∀d13:Nat->LV,GoesT cfg 164 R [] H0 [] (L164a_0 d13 (lwrap Go.IntKind.i64 (n0+(1:Int))) f1 f2 a3 l4 c5 n6) (loopAt cfg 164 0) H12))))))))))
 /\ ((decide (n0<n6))=false->(Inv [] H0 [] H->R (.int Go.IntKind.i64 (-1:Int)) H)))):
 GoesT cfg 164 R [] H0 [] (L164a_0 d n0 f1 f2 a3 l4 c5 n6) (loopAt cfg 164 0) H:=
  seg_wt (k:=(.go 5 (.cases 9 (.go 14 (.op (.tuple []) (.facts (.op (.cust NameC NameC.lv) (.facts (.call .bool (.go 1 (.cases 16 (.go 6 (.facts .ret)) (.go 8 (.stop [8,1,0,7] 0)))))))))) (.go 6 (.facts .ret))))) (by kernel_rfl) h
theorem e164a(R:LV->LHeap->Prop)(a:(Option Go.Lm.LAddr))(l:Nat)(c:Go.Lm.Cap)(p:Go.Lm.LAddr)(q:Go.Lm.LAddr)(H:LHeap)
 (h:(∀d0:Nat->LV,GoesT cfg 164 R [] H [] (L164a_0 d0 (0:Int) p q a l c ((l:Nat):Int)) (loopAt cfg 164 0) H)):
 CallL cfg 164 [(.slice a l c),(.func (Fn.func 165) [] [(.ptr (some p)),(.ptr (some q))])] H R:=
  call_wt0 (k:=(.go 13 (.stop [8,1,0,7] 0))) (by kernel_rfl) h
def L164b_0(d:Nat->LV)(n0:Int)(f1:Go.Lm.LAddr)(f2:Go.Lm.LAddr)(a3:Option LAddr)(l4:Nat)(c5:Cap)(n6:Int):List SV:=[(.lv (.slice a3 l4 c5)),(.lv (.func (Fn.func 83) [] [(.ptr (some f1)),(.ptr (some f2))])),(.lv (d 2)),(.lv (d 3)),(.lv (d 4)),(.lv (d 5)),(.lv (d 6)),(.lv (.int Go.IntKind.i64 n6)),(.lv (.int Go.IntKind.i64 n0)),(.lv (d 9)),(.lv (d 10)),(.lv (d 11)),(.lv (d 12)),(.lv (d 13)),(.lv (d 14)),(.lv (d 15)),(.lv (d 16)),(.lv (d 17)),(.lv (d 18))]
theorem g164b_0(R:LV->LHeap->Prop)(H0:LHeap)(d:Nat->LV)(n0:Int)(f1:Go.Lm.LAddr)(f2:Go.Lm.LAddr)(a3:Option LAddr)(l4:Nat)(c5:Cap)(n6:Int) (H:LHeap)
 (h:(((decide (n0<n6))=true->((((0:Int)<=n0)/\((n0<((l4:Nat):Int))/\((Option.isSome a3)=Bool.true)))/\(Inv [] H0 [] H->(∃x9:Go.Proofs.YtjihhflffkoffaaGreatDoor.Z.NameC,((loadT (cfg).P H 33 (LAddr.mk (LAddr.id (adr a3)) (LAddr.ver (adr a3)) ((LAddr.off (adr a3))+((Int.toNat n0)*3)))=some (NameC.lv x9))/\(Inv [] H0 [] H->∃S10:LV->LHeap->Prop,CallL cfg 83 [(NameC.lv x9),(.ptr (some f1)),(.ptr (some f2))] H S10/\(∀v H',S10 v H'->PresX [] H H'/\hasSh .bool v)/\
  (∀(b11:Bool),∀H12:LHeap,S10 (.bool b11) H12->((b11=true->(Inv [] H0 [] H12->R (.int Go.IntKind.i64 n0) H12))
 /\ (b11=false->(∀d13:Nat->LV,GoesT cfg 164 R [] H0 [] (L164b_0 d13 (lwrap Go.IntKind.i64 (n0+(1:Int))) f1 f2 a3 l4 c5 n6) (loopAt cfg 164 0) H12))))))))))
 /\ ((decide (n0<n6))=false->(Inv [] H0 [] H->R (.int Go.IntKind.i64 (-1:Int)) H)))):
 GoesT cfg 164 R [] H0 [] (L164b_0 d n0 f1 f2 a3 l4 c5 n6) (loopAt cfg 164 0) H:=
  seg_wt (k:=(.go 5 (.cases 9 (.go 14 (.op (.tuple []) (.facts (.op (.cust NameC NameC.lv) (.facts (.call .bool (.go 1 (.cases 16 (.go 6 (.facts .ret)) (.go 8 (.stop [8,1,0,7] 0)))))))))) (.go 6 (.facts .ret))))) (by kernel_rfl) h
theorem e164b(R:LV->LHeap->Prop)(a:(Option Go.Lm.LAddr))(l:Nat)(c:Go.Lm.Cap)(p:Go.Lm.LAddr)(q:Go.Lm.LAddr)(H:LHeap)
 (h:(∀d0:Nat->LV,GoesT cfg 164 R [] H [] (L164b_0 d0 (0:Int) p q a l c ((l:Nat):Int)) (loopAt cfg 164 0) H)):
 CallL cfg 164 [(.slice a l c),(.func (Fn.func 83) [] [(.ptr (some p)),(.ptr (some q))])] H R:=
  call_wt0 (k:=(.go 13 (.stop [8,1,0,7] 0))) (by kernel_rfl) h
theorem e80t(R:LV->LHeap->Prop)(a0:Option LAddr)(l1:Nat)(c2:Cap)(s3:List UInt8)(s4:List UInt8)(H:LHeap)
 (h:(∀(i5:Nat) (H6:LHeap),H.next<=i5->PresX [] H H6->(∀(i7:Nat) (H8:LHeap),H6.next<=i7->PresX [] H6 H8->(Inv [] H [(Slot.mk i5 [(.str s3)] 9),(Slot.mk i7 [(.str s4)] 9)] H8->∃S9:LV->LHeap->Prop,CallL cfg 164 [(.slice a0 l1 c2),(.func (Fn.func 165) [] [(.ptr (some (LAddr.mk i5 1 0))),(.ptr (some (LAddr.mk i7 1 0)))])] H8 S9/\(∀v H',S9 v H'->PresX [] H8 H'/\hasSh (.int .i64) v)/\
  (∀(n10:Int),∀H11:LHeap,S9 (.int Go.IntKind.i64 n10) H11->(Inv [] H [(Slot.mk i5 [(.str s3)] 9),(Slot.mk i7 [(.str s4)] 9)] H11->R (.int Go.IntKind.i64 n10) H11)))))):
 CallL cfg 80 [(.slice a0 l1 c2),(.str s3),(.str s4)] H R:=
  call_wt0 (k:=(.go 2 (.boxP (.boxP (.go 6 (.facts (.call (.int .i64) (.go 2 (.facts .ret))))))))) (by kernel_rfl) h
theorem e82t(R:LV->LHeap->Prop)(a0:Option LAddr)(l1:Nat)(c2:Cap)(H:LHeap)
 (h:(((Option.isNone a0)=true->(Inv [] H [] H->R (.slice none 0 (Cap.exact 0)) H))
 /\ ((Option.isNone a0)=false->(∀H4:LHeap,H4=(LHeap.push H (LObj.cells [] 33 0 0 Go.Lm.FZ.none Bool.false Bool.true))->(Inv [] H [] H4->∃Y:List Nat,∃(a5:Option LAddr),∃(l6:Nat),∃(c7:Cap),∃H8:LHeap,(appendL cfg.P H4 [36,36] [(.slice (some (LAddr.mk (LHeap.next H) 0 0)) 0 (Cap.exact 0)),(.slice a0 l1 c2)]=some ((.slice a5 l6 c7),H8)/\PresX Y H4 H8/\∀i∈Y,okId [] H [] i)/\(Inv [] H [] H8->R (.slice a5 l6 c7) H8)))))):
 CallL cfg 82 [(.slice a0 l1 c2)] H R:=
  call_wt0 (k:=(.go 8 (.op .bool (.go 1 (.cases 4 (.go 5 (.facts .ret)) (.go 4 (.row (.go 1 (.facts (.app (.go 2 (.facts .ret)))))))))))) (by kernel_rfl) h
def cellsN(l:List NameC):List LV:=l.flatMap NameC.cs
theorem cellsN_len:∀l:List NameC,(cellsN l).length=l.length*3
 |[]=>rfl
 |x::l=>by
  have:=cellsN_len l;unfold cellsN at this |-;rw [List.flatMap_cons,List.length_append,this,List.length_cons,Nat.add_mul];simp only [NameC.cs,List.length_cons,List.length_nil];omega
theorem cellsN_app(l m:List NameC):cellsN (l++m)=cellsN l++cellsN m:=by unfold cellsN;exact List.flatMap_append
theorem cellsN_one(x:NameC):cellsN [x]=x.cs:=by simp [cellsN]
theorem cellsN_all:∀l:List NameC,allCells (cellsN l)=true
 |[]=>rfl
 |x::l=>by
  have:=cellsN_all l;unfold cellsN at this |-;rw [List.flatMap_cons];exact allCells_app rfl this
theorem cellsN_split{l:List NameC}{i:Nat}{x:NameC}(h:l[i]? =some x):cellsN l=cellsN (l.take i)++(x.cs++cellsN (l.drop (i+1)))/\(cellsN (l.take i)).length=i*3:=by
 obtain ⟨h1,h2⟩:=List.getElem?_eq_some_iff.1 h;refine ⟨?_,by rw [cellsN_len,List.length_take,Nat.min_eq_left (Nat.le_of_lt h1)]⟩;rw [<-cellsN_one,<-cellsN_app,<-cellsN_app,List.singleton_append,<-h2,<-List.drop_eq_getElem_cons h1,List.take_append_drop]
theorem loadN_mid{H:LHeap}{a:LAddr}{A B C:List LV}{k:Nat}(h:loadN H a k=some (A++(B++C))):loadN H ⟨a.id,a.ver,a.off+A.length⟩ B.length=some B:=by
 unfold loadN at h |-;split at h
 ·rename_i cs e v m fz ro wh hg;split at h
  ·rename_i hb;simp only [Bool.and_eq_true,Nat.ble_eq] at hb;obtain ⟨h1,h2⟩:=takeN_some _ _ _ h;have hl:=congrArg List.length h2;rw [dropN_eq] at h1 h2 hl;simp only [List.length_take,List.length_drop,List.length_append] at hl h1;simp only [hg];rw [if_pos (by simp only [Bool.and_eq_true,Nat.ble_eq];omega),dropN_eq,takeN_of _ _ (by rw [List.length_drop];omega)];have h3:=congrArg (fun l=>(l.drop A.length).take B.length) h2;simp only [List.drop_left,List.take_left] at h3;refine congrArg some (Eq.trans ?_ h3.symm);rw [List.drop_take,List.take_take,List.drop_drop,Nat.min_eq_left (by omega)]
  ·cases h
 ·cases h
structure NmAt (H:LHeap) (a:Option LAddr) (n:Nat) (q:Cap) (l:List NameC):Prop where
 len:l.length=n
 small:n<=1000
 cells:firstCellsL H 3 n (.slice a n q)=some (cellsN l)
 id:∀ad,a=some ad->ad.id<H.next
theorem NmAt.load{H:LHeap}{ad:LAddr}{n:Nat}{q:Cap}{l:List NameC}(h:NmAt H (some ad) n q l):loadN H ad (n*3)=some (cellsN l):=by
 have:=h.cells;simp only [firstCellsL,Nat.ble_eq,Nat.le_refl,if_true] at this;exact this
theorem NmAt.on{H H':LHeap}{a:Option LAddr}{n:Nat}{q:Cap}{l:List NameC}(h:NmAt H a n q l){X:List Nat}(p:PresX X H H')(hx:∀ad,a=some ad->ad.id∉X):NmAt H' a n q l:=by
 refine ⟨h.len,h.small,?_,fun ad e=>Nat.lt_of_lt_of_le (h.id ad e) p.next⟩;cases a with
 |none=>exact h.cells
 |some ad=>
  simp only [firstCellsL,Nat.ble_eq,Nat.le_refl,if_true];exact (p.keep ad.id (h.id ad rfl) (hx ad rfl)).loads ad _ _ rfl h.load
theorem NmAt.on0{H H':LHeap}{a:Option LAddr}{n:Nat}{q:Cap}{l:List NameC}(h:NmAt H a n q l)(p:PresX [] H H'):NmAt H' a n q l:=h.on p fun _ _=>by simp
theorem NmAt.at{H:LHeap}{a:Option LAddr}{n:Nat}{q:Cap}{l:List NameC}(h:NmAt H a n q l){i:Nat}{x:NameC}(hx:l[i]? =some x):
  a.isSome=true/\(adr a).id<H.next/\loadT cfg.P H 33 ⟨(adr a).id,(adr a).ver,(adr a).off+i*3⟩=some x.lv:=by
 have hi:=(List.getElem?_eq_some_iff.1 hx).1;cases a with
 |none=>
  have:=h.cells;simp only [firstCellsL] at this;split at this
  ·rename_i hn;have:=Nat.eq_of_beq_eq_true hn;have:=h.len;omega
  ·cases this
 |some ad=>
  refine ⟨rfl,h.id ad rfl,?_⟩;have hl:=h.load;obtain ⟨h1,h2⟩:=cellsN_split hx;rw [h1] at hl;have:=loadN_mid hl;rw [h2] at this;exact load_agg (by kernel_rfl) (by kernel_rfl) this
theorem s163(a b:List UInt8)(H:LHeap):CallL cfg 163 [.str a,.str b] H (Ret (.int .i64 (cmpBytes a b)) H):=
 e163 _ a b H fun hI=>.mk hI.pres
theorem s79(a b:List UInt8)(H:LHeap):CallL cfg 79 [.str a,.str b] H (Ret (.int .i64 (cmpBytes a b)) H):=by
 refine e79 _ a b H fun hI=>⟨_,s163 a b H,Ret.use ⟨_,rfl⟩,fun n H1 ⟨e,p⟩ hI=> ?_⟩;cases e;exact .mk hI.pres
theorem s22(x y:NameC)(H:LHeap):CallL cfg 22 [x.lv,y.lv] H (Ret (.int .i64 (ncmp x y)) H):=by
 refine e22t _ x y H fun i H1 _ _ j H2 _ _ hI=>⟨_,s79 _ _ H2,Ret.use ⟨_,rfl⟩,fun n H3 ⟨e,p⟩=>⟨fun hn hI=> ?_,fun hn hI=>⟨_,s79 _ _ H3,Ret.use ⟨_,rfl⟩,fun m H4 ⟨e',p'⟩ hI=> ?_⟩⟩⟩
 ·cases e;have:ncmp x y=cmpBytes x.scope y.scope:=by
   unfold ncmp;rw [if_neg];simpa using hn
  rw [<-this];exact .mk hI.pres
 ·cases e;cases e';have:ncmp x y=cmpBytes x.name y.name:=by
   unfold ncmp;rw [if_pos];simpa using hn
  rw [<-this];exact .mk hI.pres
theorem s165(x:NameC)(sc n:List UInt8)(p q:LAddr)(H:LHeap)(hp:p.id<H.next)(hq:q.id<H.next)(lp:loadT cfg.P H 9 p=some (.str sc))(lq:loadT cfg.P H 9 q=some (.str n)):
  CallL cfg 165 [x.lv,.ptr (some p),.ptr (some q)] H (Ret (.bool (isN sc n x)) H):=by
 refine e165t _ x p q H fun i H1 _ k1 hI=>⟨sc,k1.load0 hp lp,fun h hI=>⟨n,k1.load0 hq lq,fun hI=> ?_⟩,fun h hI=> ?_⟩
 ·have:isN sc n x=(x.name==n):=by simp only [isN];rw [h,Bool.true_and]
  rw [this];exact .mk hI.pres
 ·have:isN sc n x=false:=by simp only [isN];rw [h,Bool.false_and]
  rw [this];exact .mk hI.pres
theorem s83(x:NameC)(sc n:List UInt8)(p q:LAddr)(H:LHeap)(hp:p.id<H.next)(hq:q.id<H.next)(lp:loadT cfg.P H 9 p=some (.str sc))(lq:loadT cfg.P H 9 q=some (.str n)):
  CallL cfg 83 [x.lv,.ptr (some p),.ptr (some q)] H (Ret (.bool (isN sc n x)) H):=by
 refine e83t _ x p q H fun i H1 _ k1 hI=>⟨sc,k1.load0 hp lp,fun h hI=>⟨n,k1.load0 hq lq,fun hI=> ?_⟩,fun h hI=> ?_⟩
 ·have:isN sc n x=(x.name==n):=by simp only [isN];rw [h,Bool.true_and]
  rw [this];exact .mk hI.pres
 ·have:isN sc n x=false:=by simp only [isN];rw [h,Bool.false_and]
  rw [this];exact .mk hI.pres
theorem loop164a(a:Option LAddr)(l:Nat)(c:Cap)(nm:List NameC)(P:NameC->Bool)(p q:LAddr)(H0:LHeap)(hN:NmAt H0 a l c nm)(hcl:∀(y:NameC) (H:LHeap),PresX [] H0 H->CallL cfg 165 [y.lv,.ptr (some p),.ptr (some q)] H (Ret (.bool (P y)) H)):
  ∀(m i:Nat),i+m=l->∀(d:Nat->LV) (H:LHeap),GoesT cfg 164 (Ret (.int .i64 (idxF P (nm.drop i) i)) H0) [] H0 [] (L164a_0 d (i:Int) p q a l c (l:Int)) (loopAt cfg 164 0) H
 |0,i,hi,d,H=>by
  intro hin hI;refine g164a_0 _ H0 d i p q a l c l H ⟨fun h=> ?_,fun h hI=> ?_⟩ hin hI
  ·simp at h;omega
  ·rw [List.drop_eq_nil_of_le (by rw [hN.len];omega)];exact .mk hI.pres
 |m+1,i,hi,d,H=>by
  intro hin hI;have hil:i<nm.length:=by rw [hN.len];omega
  obtain ⟨hs,_,hld⟩:=(hN.on0 hI.pres).at (List.getElem?_eq_getElem hil);have hdrop:nm.drop i=nm[i]::nm.drop (i+1):=List.drop_eq_getElem_cons hil;refine g164a_0 _ H0 d i p q a l c l H ⟨fun h=>⟨⟨by omega,by omega,hs⟩,fun _=>⟨nm[i],by simpa using hld,fun hI=>⟨_,hcl nm[i] H hI.pres,Ret.use ⟨_,rfl⟩,fun b H1 ⟨e,p1⟩=>⟨fun hb hI=> ?yes,fun hb d1=> ?no⟩⟩⟩⟩,fun h=> ?ge⟩ hin hI
  case ge=>simp at h;omega
  case yes=>
   cases e;rw [hdrop];unfold idxF;rw [if_pos hb];exact .mk hI.pres
  case no=>
   cases e;rw [hdrop];unfold idxF;rw [hb];have:=hN.small;rw [lwrap_small (by omega) (by omega)];exact loop164a a l c nm P p q H0 hN hcl m (i+1) (by omega) d1 H1
theorem s164a(a:Option LAddr)(l:Nat)(c:Cap)(nm:List NameC)(P:NameC->Bool)(p q:LAddr)(H0:LHeap)(hN:NmAt H0 a l c nm)(hcl:∀(y:NameC) (H:LHeap),PresX [] H0 H->CallL cfg 165 [y.lv,.ptr (some p),.ptr (some q)] H (Ret (.bool (P y)) H)):
  CallL cfg 164 [.slice a l c,.func (.func 165) [] [.ptr (some p),.ptr (some q)]] H0 (Ret (.int .i64 (idxF P nm 0)) H0):=
 e164a _ a l c p q H0 fun d=>loop164a a l c nm P p q H0 hN hcl l 0 (by omega) d H0
theorem loop164b(a:Option LAddr)(l:Nat)(c:Cap)(nm:List NameC)(P:NameC->Bool)(p q:LAddr)(H0:LHeap)(hN:NmAt H0 a l c nm)(hcl:∀(y:NameC) (H:LHeap),PresX [] H0 H->CallL cfg 83 [y.lv,.ptr (some p),.ptr (some q)] H (Ret (.bool (P y)) H)):
  ∀(m i:Nat),i+m=l->∀(d:Nat->LV) (H:LHeap),GoesT cfg 164 (Ret (.int .i64 (idxF P (nm.drop i) i)) H0) [] H0 [] (L164b_0 d (i:Int) p q a l c (l:Int)) (loopAt cfg 164 0) H
 |0,i,hi,d,H=>by
  intro hin hI;refine g164b_0 _ H0 d i p q a l c l H ⟨fun h=> ?_,fun h hI=> ?_⟩ hin hI
  ·simp at h;omega
  ·rw [List.drop_eq_nil_of_le (by rw [hN.len];omega)];exact .mk hI.pres
 |m+1,i,hi,d,H=>by
  intro hin hI;have hil:i<nm.length:=by rw [hN.len];omega
  obtain ⟨hs,_,hld⟩:=(hN.on0 hI.pres).at (List.getElem?_eq_getElem hil);have hdrop:nm.drop i=nm[i]::nm.drop (i+1):=List.drop_eq_getElem_cons hil;refine g164b_0 _ H0 d i p q a l c l H ⟨fun h=>⟨⟨by omega,by omega,hs⟩,fun _=>⟨nm[i],by simpa using hld,fun hI=>⟨_,hcl nm[i] H hI.pres,Ret.use ⟨_,rfl⟩,fun b H1 ⟨e,p1⟩=>⟨fun hb hI=> ?yes,fun hb d1=> ?no⟩⟩⟩⟩,fun h=> ?ge⟩ hin hI
  case ge=>simp at h;omega
  case yes=>
   cases e;rw [hdrop];unfold idxF;rw [if_pos hb];exact .mk hI.pres
  case no=>
   cases e;rw [hdrop];unfold idxF;rw [hb];have:=hN.small;rw [lwrap_small (by omega) (by omega)];exact loop164b a l c nm P p q H0 hN hcl m (i+1) (by omega) d1 H1
theorem s164b(a:Option LAddr)(l:Nat)(c:Cap)(nm:List NameC)(P:NameC->Bool)(p q:LAddr)(H0:LHeap)(hN:NmAt H0 a l c nm)(hcl:∀(y:NameC) (H:LHeap),PresX [] H0 H->CallL cfg 83 [y.lv,.ptr (some p),.ptr (some q)] H (Ret (.bool (P y)) H)):
  CallL cfg 164 [.slice a l c,.func (.func 83) [] [.ptr (some p),.ptr (some q)]] H0 (Ret (.int .i64 (idxF P nm 0)) H0):=
 e164b _ a l c p q H0 fun d=>loop164b a l c nm P p q H0 hN hcl l 0 (by omega) d H0
theorem boxed{X:List Nat}{H0 H:LHeap}{kn:List Slot}(h:Inv X H0 kn H){k:Nat}{s:Slot}(hs:nth kn k=some s){c:LV}(hc:s.cs=[c]){t:TypeId}(ht:isAggT cfg.P t=some false):loadT cfg.P H t ⟨s.id,1,0⟩=some c:=by
 obtain ⟨_,h2,_⟩:=h.slot k s hs;unfold loadT load1;rw [ht,h2];simp only [Slot.obj,hc];rfl
theorem s80(a:Option LAddr)(l:Nat)(c:Cap)(nm:List NameC)(sc n:List UInt8)(H:LHeap)(hN:NmAt H a l c nm):
  CallL cfg 80 [.slice a l c,.str sc,.str n] H (Ret (.int .i64 (idxF (isN sc n) nm 0)) H):=by
 refine e80t _ a l c sc n H fun i H1 g1 p1 j H2 g2 p2 hI=>⟨_,s164a a l c nm (isN sc n) ⟨i,1,0⟩ ⟨j,1,0⟩ H2 (hN.on0 hI.pres) fun y H3 p3=> ?_,Ret.use ⟨_,rfl⟩,fun m H3 ⟨e,p⟩ hI=> ?_⟩
 ·have hi:=(hI.slot 0 _ rfl).1;have hj:=(hI.slot 1 _ rfl).1;exact s165 y sc n ⟨i,1,0⟩ ⟨j,1,0⟩ H3 (Nat.lt_of_lt_of_le hi p3.next) (Nat.lt_of_lt_of_le hj p3.next) (p3.load0 hi (boxed hI (k:=0) rfl rfl (by kernel_rfl))) (p3.load0 hj (boxed hI (k:=1) rfl rfl (by kernel_rfl)))
 ·cases e;exact .mk hI.pres
def nilName:NameC:=⟨[],[],[]⟩
theorem rowT33:RowT cfg.P 36 33 3 48:=⟨by kernel_rfl,by kernel_rfl,by decide,by kernel_rfl,by kernel_rfl,by kernel_rfl,⟨nilName.lv,by kernel_rfl,rfl⟩⟩
theorem app_nilN{t e:TypeId}{size bytes:Nat}(hT:RowT cfg.P t e size bytes){H:LHeap}{a:Option LAddr}{n:Nat}{q:Cap}{x:LV}(hx:lenL x=some 0){cs:List LV}(hc:firstCellsL H size 0 x=some cs):appendL cfg.P H [t,t] [.slice a n q,x]=some (.slice a n q,H):=by
 obtain ⟨s,rfl⟩:∃s,size=s+1:=⟨size-1,by have:=hT.pos;omega⟩;unfold appendL;simp only [hT.elem,hT.sized,hT.bytes,hT.noInt,hT.und,hx,hc,Bool.false_eq_true,if_false];rfl
def CloneS(n:Nat)(l:List NameC)(H:LHeap):LV->LHeap->Prop:=fun v H'=>PresX [] H H'/\∃a q,v=.slice a n q/\RowAt H' 33 3 a n q (cellsN l)/\(∀ad,a=some ad->H.next<=ad.id)/\(0<n->q=.free 3)/\(n=0->q=.exact 0)
theorem s82(a:Option LAddr)(l:Nat)(c:Cap)(nm:List NameC)(H:LHeap)(hN:NmAt H a l c nm):CallL cfg 82 [.slice a l c] H (CloneS l nm H):=by
 refine e82t _ a l c H ⟨fun h hI=> ?_,fun h H4 e4 hI=> ?_⟩
 ·cases a with
  |some a=>cases h
  |none=>
   have:=hN.cells;simp only [firstCellsL] at this;split at this
   ·rename_i hn;have h0:=Nat.eq_of_beq_eq_true hn;subst h0;have:nm=[]:=List.eq_nil_of_length_eq_zero hN.len;subst this;exact ⟨hI.pres,none,.exact 0,rfl,.nil,(fun ad e=>by cases e),fun h=>absurd h (Nat.lt_irrefl _),fun _=>rfl⟩
   ·cases this
 ·have hp4:PresX [] H H4:=hI.pres;have hrow0:RowAt H4 33 3 (some ⟨H.next,0,0⟩) 0 (.exact 0) []:=by
   refine .full _ 0 [] (by rw [e4];exact Nat.lt_succ_self _) ?_ rfl rfl;unfold loadN;rw [e4,LHeap.get_push,if_pos rfl];rfl
  have hc:=(hN.on0 hp4).cells;by_cases hl0:l=0
  ·subst hl0;have:nm=[]:=List.eq_nil_of_length_eq_zero hN.len;subst this;exact ⟨[],_,0,_,H4,⟨app_nilN rowT33 rfl hc,.refl _ _,fun i hi=>by cases hi⟩,fun hI2=>⟨hI2.pres,_,_,rfl,hrow0,(fun ad e=>by cases e;exact Nat.le_refl _),fun h=>absurd h (Nat.lt_irrefl _),fun _=>rfl⟩⟩
  obtain ⟨Y,a',q',H',h1,h2,h3,h4,h5,h6⟩:=hrow0.append2 rowT33 (x:=.slice a l c) (m:=l) (new:=cellsN nm) rfl hc (by rw [cellsN_len,hN.len]) (cellsN_all nm) (by have:=hN.small;omega);rw [Nat.zero_add] at h1 h3;rw [List.nil_append] at h3;refine ⟨Y,a',l,q',H',⟨h1,h2,fun i hi=> ?_⟩,fun hI2=>⟨hI2.pres,a',q',rfl,h3,fun ad e=> ?_,h6,fun h0=>absurd h0 hl0⟩⟩
  ·obtain ⟨ad,e,rfl⟩:=h4 i hi;cases e;exact ⟨.inr (Nat.le_refl _),fun k s hs=>by simp [nth] at hs⟩
  ·rcases h5 ad e with ⟨ad',e',e''⟩ |hge
   ·cases e';rw [<-e''];exact Nat.le_refl _
   ·exact Nat.le_trans hp4.next hge
def L81b_0(d:Nat->LV)(n0:Int)(n1:Int)(a2:Option LAddr)(l3:Nat)(c4:Cap)(f5:Go.Lm.LAddr)(f6:Go.Lm.LAddr):List SV:=[(.lv (.slice a2 l3 c4)),(.lv (.func (Fn.func 83) [] [(.ptr (some f5)),(.ptr (some f6))])),(.lv (d 2)),(.lv (d 3)),(.lv (d 4)),(.lv (.int Go.IntKind.i64 n1)),(.lv (.int Go.IntKind.i64 n0)),(.lv (d 7)),(.lv (d 8)),(.lv (d 9)),(.lv (d 10)),(.lv (d 11)),(.lv (d 12)),(.lv (d 13)),(.lv (d 14)),(.lv (d 15)),(.lv (d 16)),(.lv (d 17)),(.lv (d 18)),(.lv (d 19)),(.lv (d 20)),(.lv (d 21)),(.lv (d 22)),(.lv (d 23)),(.lv (d 24)),(.lv (d 25)),(.lv (d 26)),(.lv (d 27)),(.lv (d 28)),(.lv (d 29)),(.lv (d 30)),(.lv (d 31)),(.lv (d 32)),(.lv (d 33)),(.lv (d 34)),(.lv (d 35)),(.lv (d 36)),(.lv (d 37)),(.lv (d 38)),(.lv (d 39)),(.lv (d 40)),(.lv (d 41))]
theorem g81b_0(R:LV->LHeap->Prop)(X:List Nat)(H0:LHeap)(d:Nat->LV)(n0:Int)(n1:Int)(a2:Option LAddr)(l3:Nat)(c4:Cap)(f5:Go.Lm.LAddr)(f6:Go.Lm.LAddr) (H:LHeap)
 (h:(((decide (n0<((l3:Nat):Int)))=true->((((0:Int)<=n0)/\((n0<((l3:Nat):Int))/\((Option.isSome a2)=Bool.true)))/\(Inv X H0 [] H->(∃x9:Go.Proofs.YtjihhflffkoffaaGreatDoor.Z.NameC,((loadT (cfg).P H 33 (LAddr.mk (LAddr.id (adr a2)) (LAddr.ver (adr a2)) ((LAddr.off (adr a2))+((Int.toNat n0)*3)))=some (NameC.lv x9))/\(∀(i10:Nat) (H11:LHeap),H.next<=i10->PresX [] H H11->(∀H12:LHeap,PresX [i10] H11 H12->(Inv X H0 [(Slot.mk i10 (NameC.cs x9) 33)] H12->∃S13:LV->LHeap->Prop,CallL cfg 83 [(NameC.lv x9),(.ptr (some f5)),(.ptr (some f6))] H12 S13/\(∀v H',S13 v H'->PresX [] H12 H'/\hasSh .bool v)/\
  (∀(b14:Bool),∀H15:LHeap,S13 (.bool b14) H15->(((!b14)=true->((((0:Int)<=n1)/\((n1<((l3:Nat):Int))/\((Option.isSome a2)=Bool.true)))/\(Inv X H0 [(Slot.mk i10 (NameC.cs x9) 33)] H15->∃H17:LHeap,(storeT cfg.P H15 33 (LAddr.mk (LAddr.id (adr a2)) (LAddr.ver (adr a2)) ((LAddr.off (adr a2))+((Int.toNat n1)*3))) (NameC.lv x9)=some H17/\okId X H0 [(Slot.mk i10 (NameC.cs x9) 33)] (LAddr.id (adr a2)))/\(∀d18:Nat->LV,GoesT cfg 81 R X H0 [] (L81b_0 d18 (lwrap Go.IntKind.i64 (n0+(1:Int))) (lwrap Go.IntKind.i64 (n1+(1:Int))) a2 l3 c4 f5 f6) (loopAt cfg 81 0) H17))))
 /\ ((!b14)=false->(∀d19:Nat->LV,GoesT cfg 81 R X H0 [] (L81b_0 d19 (lwrap Go.IntKind.i64 (n0+(1:Int))) n1 a2 l3 c4 f5 f6) (loopAt cfg 81 0) H15))))))))))))
 /\ ((decide (n0<((l3:Nat):Int)))=false->(∃a21:(Option Go.Lm.LAddr),(∃l22:Nat,(∃c23:Go.Lm.Cap,(((sliceL (cfg).P 36 (.slice a2 l3 c4) (some (.int Go.IntKind.i64 n1)) none none)=(some (.slice a21 l22 c23)))/\(Inv X H0 [] H->∃(Y:List Nat) (H24:LHeap),(opB cfg H Go.Builtin.clear [36] [(.slice a21 l22 c23)]=some [(.value (.tuple []),H24)]/\PresX Y H H24/\∀i∈Y,okId X H0 [] i)/\(∃a26:(Option Go.Lm.LAddr),(∃l27:Nat,(∃c28:Go.Lm.Cap,(((sliceL (cfg).P 36 (.slice a2 l3 c4) none (some (.int Go.IntKind.i64 n1)) none)=(some (.slice a26 l27 c28)))/\(Inv X H0 [] H24->R (.slice a26 l27 c28) H24))))))))))))):
 GoesT cfg 81 R X H0 [] (L81b_0 d n0 n1 a2 l3 c4 f5 f6) (loopAt cfg 81 0) H:=
  seg_wt (k:=(.go 8 (.cases 19 (.go 8 (.op (.tuple []) (.facts (.op (.cust NameC NameC.lv) (.boxP (.putP (.go 5 (.facts (.call .bool (.go 2 (.cases 29 (.go 6 (.op (.tuple []) (.facts (.store (.go 13 (.stop [6,5,0,1] 0)))))) (.go 9 (.stop [6,5,0,1] 0))))))))))))) (.go 6 (.op .slice (.facts (.any (.tuple []) (.go 5 (.op .slice (.go 2 (.facts .ret))))))))))) (by kernel_rfl) h
theorem e81b(R:LV->LHeap->Prop)(X:List Nat)(a:(Option Go.Lm.LAddr))(l:Nat)(c:Go.Lm.Cap)(p:Go.Lm.LAddr)(q:Go.Lm.LAddr)(H:LHeap)
 (h:(Inv X H [] H->∃S0:LV->LHeap->Prop,CallL cfg 164 [(.slice a l c),(.func (Fn.func 83) [] [(.ptr (some p)),(.ptr (some q))])] H S0/\(∀v H',S0 v H'->PresX [] H H'/\hasSh (.int .i64) v)/\
  (∀(n1:Int),∀H2:LHeap,S0 (.int Go.IntKind.i64 n1) H2->(((n1==(-1:Int))=true->(Inv X H [] H2->R (.slice a l c) H2))
 /\ ((n1==(-1:Int))=false->(∀d3:Nat->LV,GoesT cfg 81 R X H [] (L81b_0 d3 (lwrap Go.IntKind.i64 (n1+(1:Int))) n1 a l c p q) (loopAt cfg 81 0) H2)))))):
 CallL cfg 81 [(.slice a l c),(.func (Fn.func 83) [] [(.ptr (some p)),(.ptr (some q))])] H R:=
  call_wtX (X:=X) (k:=(.go 8 (.facts (.call (.int .i64) (.go 8 (.cases 12 (.go 6 (.facts .ret)) (.go 11 (.stop [6,5,0,1] 0)))))))) (by kernel_rfl) h
def keepN(P:NameC->Bool)(l:List NameC):List NameC:=l.filter fun y=> !P y
theorem wat_elem{H:LHeap}{ad:LAddr}{A B:List LV}{cur:List NameC}(h:WAt H ad 33 A (cellsN cur) B){j:Nat}{x:NameC}(hx:cur[j]? =some x):loadT cfg.P H 33 ⟨ad.id,ad.ver,ad.off+j*3⟩=some x.lv:=by
 obtain ⟨h1,h2⟩:=cellsN_split hx;rw [h1] at h;have:=h.loadAt;rw [h2] at this;exact load_agg (by kernel_rfl) (by kernel_rfl) this
theorem set_cells{cur:List NameC}{i:Nat}(hi:i<cur.length)(x:NameC):cellsN (cur.set i x)=cellsN (cur.take i)++(x.cs++cellsN (cur.drop (i+1))):=by
 rw [List.set_eq_take_append_cons_drop,if_pos hi,cellsN_app,<-List.singleton_append,cellsN_app,cellsN_one]
theorem set_take{cur:List NameC}{i:Nat}(hi:i<cur.length)(x:NameC):(cur.set i x).take (i+1)=cur.take i++[x]:=by
 rw [List.set_eq_take_append_cons_drop,if_pos hi];have hl:(cur.take i).length=i:=by rw [List.length_take];omega
 have:=List.take_length_add_append (l₁:=cur.take i) (l₂:=x::cur.drop (i+1)) 1;rw [hl] at this;rw [this];rfl
theorem set_drop{cur:List NameC}{i j:Nat}(h:i<j)(x:NameC):(cur.set i x).drop j=cur.drop j:=by
 apply List.ext_getElem?;intro k;rw [List.getElem?_drop,List.getElem?_drop,List.getElem?_set];rw [if_neg (by omega)]
theorem store33{H:LHeap}{ad:LAddr}{A B:List LV}{cur:List NameC}(h:WAt H ad 33 A (cellsN cur) B){i:Nat}(hi:i<cur.length)(x:NameC):
  ∃H',storeT cfg.P H 33 ⟨ad.id,ad.ver,ad.off+i*3⟩ x.lv=some H'/\WAt H' ad 33 A (cellsN (cur.set i x)) B/\PresX [ad.id] H H':=by
 obtain ⟨h1,h2⟩:=cellsN_split (List.getElem?_eq_getElem hi);rw [h1] at h;obtain ⟨H',g1,g2,g3⟩:=h.putAt (V:=x.cs) rfl rfl;refine ⟨H',?_,by rw [set_cells hi];exact g2,g3⟩;rw [h2] at g1;unfold storeT;rw [show sizeOfT cfg.P 33=some 3 by kernel_rfl];exact g1
def zerosN(k:Nat):List LV:=repl k nilName.lv.cells []
theorem zerosN_eq(k:Nat):zerosN k=cellsN (List.replicate k nilName):=by
 unfold zerosN;rw [repl_eq,List.append_nil];unfold cellsN;rw [List.flatMap_replicate];rfl
theorem clear_of{H H':LHeap}{b:LAddr}{k:Nat}{q:Cap}(h:storeN H b (zerosN k)=some H'):clearL cfg.P H [36] [.slice (some b) k q]=some (.tuple [],H'):=by
 unfold clearL;simp only [show cfg.P.underlying 36=some (.slice 33) by kernel_rfl,show zeroOf cfg.P 33=some nilName.lv by kernel_rfl];unfold zerosN at h;rw [h]
theorem keep_step{P:NameC->Bool}{nm:List NameC}{j:Nat}(hj:j<nm.length):keepN P (nm.take (j+1))=keepN P (nm.take j)++if P nm[j] then [] else [nm[j]]:=by
 unfold keepN;rw [List.take_succ_eq_append_getElem hj,List.filter_append];congr 1;by_cases h:P nm[j]=true
 ·simp [h]
 ·simp [h]
def DelS(ad:LAddr)(q:Cap)(A B:List LV)(nm:List NameC)(P:NameC->Bool)(H:LHeap):LV->LHeap->Prop:=fun v H'=>
 PresX [ad.id] H H'/\v=.slice (some ad) (keepN P nm).length q/\∃C,WAt H' ad 33 A (cellsN (keepN P nm)++C) B
theorem del_end{ad:LAddr}{n:Nat}{q:Cap}{nm:List NameC}{P:NameC->Bool}{A B:List LV}{H0 H:LHeap}(hn:nm.length=n)(hq:QOK ad n 3 q){i:Nat}{cur:List NameC}(hi:i<=n)(hc:cur.length=n)
  (ht:cur.take i=keepN P nm) (hW:WAt H ad 33 A (cellsN cur) B) (hlt:ad.id<H0.next) (hI:Inv [ad.id] H0 [] H):
  ∃a26 l27 c28,sliceL cfg.P 36 (.slice (some ad) n q) (some (.int .i64 i)) none none=some (.slice a26 l27 c28)/\(Inv [ad.id] H0 [] H->∃(Y:List Nat) (H24:LHeap),(opB cfg H .clear [36] [.slice a26 l27 c28]=some [(.value (.tuple []),H24)]/\PresX Y H H24/\∀i∈Y,okId [ad.id] H0 [] i)/\
   ∃a l c,sliceL cfg.P 36 (.slice (some ad) n q) none (some (.int .i64 i)) none=some (.slice a l c)/\(Inv [ad.id] H0 [] H24->DelS ad q A B nm P H0 (.slice a l c) H24)):=by
 have u36:cfg.P.underlying 36=some (.slice 33):=by kernel_rfl
 have z33:sizeOfT cfg.P 33=some 3:=by kernel_rfl
 have hil:(keepN P nm).length=i:=by rw [<-ht,List.length_take];omega
 obtain ⟨b,q',hs,hb,hqo,hbo⟩:=slice_lo (k:=.i64) u36 z33 (by decide) hq hi;have hcells:cellsN cur=cellsN (keepN P nm)++(cellsN (cur.drop i)++[]):=by rw [List.append_nil,<-ht,<-cellsN_app,List.take_append_drop]
 have hA:(cellsN (keepN P nm)).length=i*3:=by rw [cellsN_len,hil]
 have ok:∀x∈[ad.id],okId [ad.id] H0 [] x:=fun x hx=>⟨.inl hx,fun k s hs=>by simp [nth] at hs⟩;refine ⟨some b,n-i,q',hs,fun _=> ?_⟩;rw [hcells] at hW;by_cases hin:i<n
 ·obtain ⟨H',g1,g2,g3⟩:=hW.putAt (V:=zerosN (n-i)) (by rw [zerosN_eq,cellsN_len,cellsN_len,List.length_replicate,List.length_drop,hc]) (by rw [zerosN_eq];exact cellsN_all _);rw [hA] at g1;refine ⟨[ad.id],H',⟨opB_clear (clear_of (by rw [hbo hin];exact g1)),g3,ok⟩,some ad,i,q,slice_hi u36 z33 (by decide) hq hi,fun hI2=>⟨hI2.pres,by rw [hil],_,g2⟩⟩
 ·have h0:n-i=0:=by omega
  refine ⟨[],H,⟨opB_clear (clear_of (by rw [h0];rfl)),.refl _ _,fun i hi=>by cases hi⟩,some ad,i,q,slice_hi u36 z33 (by decide) hq hi,fun hI2=>⟨hI2.pres,by rw [hil],_,hW⟩⟩
theorem loop81b(ad:LAddr)(n:Nat)(qq:Cap)(nm:List NameC)(P:NameC->Bool)(p q:LAddr)(A B:List LV)(H0:LHeap)(hn:nm.length=n)(hsm:n<=1000)(hq:QOK ad n 3 qq)(hlt:ad.id<H0.next)
  (hcl:∀(y:NameC) (H:LHeap),PresX [ad.id] H0 H->CallL cfg 83 [y.lv,.ptr (some p),.ptr (some q)] H (Ret (.bool (P y)) H)):
  ∀(m j i:Nat) (cur:List NameC),j+m=n->i<=j->cur.length=n->cur.take i=keepN P (nm.take j)->cur.drop j=nm.drop j->∀(d:Nat->LV) (H:LHeap),WAt H ad 33 A (cellsN cur) B->
   GoesT cfg 81 (DelS ad qq A B nm P H0) [ad.id] H0 [] (L81b_0 d (j:Int) (i:Int) (some ad) n qq p q) (loopAt cfg 81 0) H
 |0,j,i,cur,hj,hij,hc,ht,hd,d,H,hW=>by
  intro hin hI;have hjn:j=n:=by omega
  have ht':cur.take i=keepN P nm:=by rw [ht,List.take_of_length_le (by omega)]
  obtain ⟨x1,x2,x3,g1,g2⟩:=del_end (i:=i) hn hq (by omega) hc ht' hW hlt hI;refine g81b_0 _ [ad.id] H0 d j i (some ad) n qq p q H ⟨fun h=> ?_,fun h=>⟨x1,x2,x3,g1,fun hI=> ?_⟩⟩ hin hI
  ·simp at h;omega
  ·obtain ⟨Y,H24,g3,y1,y2,y3,g4⟩:=g2 hI;exact ⟨Y,H24,g3,y1,y2,y3,g4⟩
 |m+1,j,i,cur,hj,hij,hc,ht,hd,d,H,hW=>by
  intro hin hI;have hjn:j<nm.length:=by omega
  have hx:cur[j]? =some nm[j]:=by
   have:=congrArg (fun l=>l[0]?) hd;simp only [List.getElem?_drop,Nat.add_zero] at this;rw [this,List.getElem?_eq_getElem hjn]
  have hnext:=hI.pres.next;refine g81b_0 _ [ad.id] H0 d j i (some ad) n qq p q H ⟨fun h=>⟨⟨by omega,by omega,rfl⟩,fun _=>⟨nm[j],by simpa [adr] using wat_elem hW hx,fun k H1 gk p1 H2 p2 hI2=>⟨_,hcl nm[j] H2 hI2.pres,Ret.use ⟨_,rfl⟩,fun b H3 ⟨e,p3⟩=>⟨fun hb=>⟨⟨by omega,by omega,rfl⟩,fun hI3=> ?keep⟩,fun hb d1=> ?gone⟩⟩⟩⟩,fun h=> ?ge⟩ hin hI
  case ge=>simp at h;omega
  case keep=>
   cases e;have hW3:WAt H3 ad 33 A (cellsN cur) B:=((hW.on p1 (by simp)).on p2 (by simp;omega)).on p3 (by simp);obtain ⟨H17,g1,g2,g3⟩:=store33 hW3 (i:=i) (by omega) nm[j];refine ⟨H17,⟨by simpa [adr] using g1,.inl (by simp [adr]),fun k' s hs=> ?_⟩,fun d18=> ?_⟩
   ·cases k' with
    |zero=>cases hs;show k≠ad.id;omega
    |succ k'=>simp [nth] at hs
   ·rw [lwrap_small (by omega) (by omega),lwrap_small (by omega) (by omega)];refine loop81b ad n qq nm P p q A B H0 hn hsm hq hlt hcl m (j+1) (i+1) (cur.set i nm[j]) (by omega) (by omega) (by rw [List.length_set,hc]) ?_ ?_ d18 H17 g2
    ·have hb':P nm[j]=false:=by simpa using hb
     rw [set_take (by omega),keep_step hjn,ht,hb'];rfl
    ·rw [set_drop (by omega)];have:=congrArg (List.drop 1) hd
     rwa [List.drop_drop,List.drop_drop] at this
  case gone=>
   cases e;have hW3:WAt H3 ad 33 A (cellsN cur) B:=((hW.on p1 (by simp)).on p2 (by simp;omega)).on p3 (by simp);rw [lwrap_small (by omega) (by omega)];refine loop81b ad n qq nm P p q A B H0 hn hsm hq hlt hcl m (j+1) i cur (by omega) (by omega) hc ?_ ?_ d1 H3 hW3
   ·have hb':P nm[j]=true:=by simpa using hb
    rw [keep_step hjn,ht,hb'];simp
   ·have:=congrArg (List.drop 1) hd
    rwa [List.drop_drop,List.drop_drop] at this
theorem s81b(ad:LAddr)(n:Nat)(qq:Cap)(nm:List NameC)(P:NameC->Bool)(p q:LAddr)(A B:List LV)(H:LHeap)(hn:nm.length=n)(hsm:n<=1000)(hq:QOK ad n 3 qq)(hW:WAt H ad 33 A (cellsN nm) B)
  (hcl:∀(y:NameC) (H':LHeap),PresX [ad.id] H H'->CallL cfg 83 [y.lv,.ptr (some p),.ptr (some q)] H' (Ret (.bool (P y)) H')):
  CallL cfg 81 [.slice (some ad) n qq,.func (.func 83) [] [.ptr (some p),.ptr (some q)]] H (DelS ad qq A B nm P H):=by
 have hlt:=hW.lt;have hN:NmAt H (some ad) n qq nm:=⟨hn,hsm,by
  simp only [firstCellsL,Nat.ble_eq,Nat.le_refl,if_true];have:=hW.load;rw [cellsN_len,hn] at this;exact this,fun x e=>by cases e;exact hlt⟩
 refine e81b _ [ad.id] (some ad) n qq p q H fun hI=>⟨_,s164b (some ad) n qq nm P p q H hN fun y H' p=>hcl y H' (p.mono (by simp)),Ret.use ⟨_,rfl⟩,fun i H2 ⟨e,p2⟩=> ?_⟩;cases e;have hW2:=hW.on p2 (by simp);have hcl2:∀(y:NameC) (H':LHeap),PresX [ad.id] H2 H'->CallL cfg 83 [y.lv,.ptr (some p),.ptr (some q)] H' (Ret (.bool (P y)) H'):=fun y H' p=>hcl y H' ((p2.mono (by simp)).trans p fun i hi=>.inl hi);by_cases h0:idxF P nm 0= -1
 ·rw [h0];refine ⟨fun _ hI2=>⟨hI2.pres,?_,[],?_⟩,fun h=>by simp at h⟩
  all_goals
   have hk:keepN P nm=nm:=List.filter_eq_self.2 fun y hy=>by rw [idxF_neg.1 h0 y hy];rfl
   rw [hk]
  ·rw [hn]
  ·rw [List.append_nil];exact hW2
 ·obtain ⟨j,x,h1,h2,h3,h4⟩:=idxF_at h0;rw [Nat.zero_add] at h3;have hj:=(List.getElem?_eq_some_iff.1 h1).1;rw [h3];refine ⟨fun h=>by simp at h,fun h d3=> ?_⟩;rw [lwrap_small (by omega) (by omega)];have hk:keepN P (nm.take j)=nm.take j:=List.filter_eq_self.2 fun y hy=>by rw [h4 y hy];rfl
  have hkj:nm.take j=keepN P (nm.take (j+1)):=by
   have hxe:nm[j]=x:=by rw [List.getElem?_eq_getElem hj] at h1;exact Option.some.inj h1
   rw [keep_step hj,hk,hxe,h2];simp
  intro hin hI2;have key:=loop81b ad n qq nm P p q A B H hn hsm hq hlt hcl (n-(j+1)) (j+1) j nm (by omega) (by omega) hn hkj rfl d3 H2 hW2;exact key hin hI2
theorem u36:cfg.P.underlying 36=some (.slice 33):=by kernel_rfl
theorem z33:sizeOfT cfg.P 33=some 3:=by kernel_rfl
theorem wat_wide{H:LHeap}{a:LAddr}{e:TypeId}{A cs P B:List LV}(h:WAt H a e A cs (P++B)):WAt H a e A (cs++P) B:=by
 have he:A++(cs++P++B)=A++(cs++(P++B)):=by simp only [List.append_assoc]
 obtain ⟨m,h1,h2⟩:=h.get;exact ⟨⟨m,by rw [he];exact h1,h2⟩,h.off,by rw [he];exact h.len,h.lt,by rw [he];exact h.all⟩
end Go.Proofs.YtjihhflffkoffaaGreatDoor.Z
