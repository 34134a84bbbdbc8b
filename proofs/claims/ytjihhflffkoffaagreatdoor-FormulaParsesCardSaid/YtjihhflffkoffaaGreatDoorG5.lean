/- Contracts of functions of the program; no condition. -/
import Derived.Test.YtjihhflffkoffaaGreatDoorG0
import Derived.Test.YtjihhflffkoffaaGreatDoorLe
import Derived.Test.YtjihhflffkoffaaGreatDoorG3
import Derived.Test.YtjihhflffkoffaaGreatDoorG4
set_option linter.unusedSimpArgs false
set_option linter.unusedVariables false
set_option linter.unusedSectionVars false
set_option linter.unnecessarySimpa false
namespace Go.Proofs.YtjihhflffkoffaaGreatDoor.Z
open Go Go.Lm
set_option maxRecDepth 1000000
set_option maxHeartbeats 0
def L144t_0(d:Nat->LV)(s0:List UInt8)(p1:Option LAddr):List SV:=[.lv (.str s0),.lv (.ptr p1)]++dl d 2 14
abbrev qT3_1:List LV:=[.bool false,.bool false,.bool false,.bool false,.bool false,.bool false,.bool false,.bool false,.bool false,.bool true,.bool false,.bool false,.bool false,.bool false,.bool false,.bool false,.bool false,.bool false,.bool false,.bool false,.bool false,.bool false,.bool false,.bool false,.bool false,.bool false,.bool false,.bool false,.bool false,.bool false,.bool false,.bool false,.bool true,.bool false,.bool false,.bool false,.bool false,.bool false,.bool false,.bool false,.bool false,.bool false,.bool false,.bool false,.bool false,.bool false,.bool false,.bool false,.bool false,.bool false,.bool false,.bool false,.bool false,.bool false,.bool false,.bool false,.bool false,.bool false,.bool false,.bool false,.bool false,.bool false,.bool false,.bool false,.bool false,.bool false,.bool false,.bool false,.bool false,.bool false,.bool false,.bool false,.bool false,.bool false,.bool false,.bool false,.bool false,.bool false,.bool false,.bool false,.bool false,.bool false,.bool false,.bool false,.bool false,.bool false,.bool false,.bool false,.bool false,.bool false,.bool false,.bool false,.bool false,.bool false,.bool false,.bool false,.bool false,.bool false,.bool false,.bool false,.bool false,.bool false,.bool false,.bool false,.bool false,.bool false,.bool false,.bool false,.bool false,.bool false,.bool false,.bool false,.bool false,.bool false,.bool false,.bool false,.bool false,.bool false,.bool false,.bool false,.bool false,.bool false,.bool false,.bool false,.bool false,.bool false,.bool false,.bool false,.bool false,.bool false,.bool false,.bool false,.bool false,.bool false,.bool false,.bool false,.bool false,.bool false,.bool false,.bool false,.bool false,.bool false,.bool false,.bool false,.bool false,.bool false,.bool false,.bool false,.bool false,.bool false,.bool false,.bool false,.bool false,.bool false,.bool false,.bool false,.bool false,.bool false,.bool false,.bool false,.bool false,.bool false,.bool false,.bool false,.bool false,.bool false,.bool false,.bool false,.bool false,.bool false,.bool false,.bool false,.bool false,.bool false,.bool false,.bool false,.bool false,.bool false,.bool false,.bool false,.bool false,.bool false,.bool false,.bool false,.bool false,.bool false,.bool false,.bool false,.bool false,.bool false,.bool false,.bool false,.bool false,.bool false,.bool false,.bool false,.bool false,.bool false,.bool false,.bool false,.bool false,.bool false,.bool false,.bool false,.bool false,.bool false,.bool false,.bool false,.bool false,.bool false,.bool false,.bool false,.bool false,.bool false,.bool false,.bool false,.bool false,.bool false,.bool false,.bool false,.bool false,.bool false,.bool false,.bool false,.bool false,.bool false,.bool false,.bool false,.bool false,.bool false,.bool false,.bool false,.bool false,.bool false,.bool false,.bool false,.bool false,.bool false,.bool false,.bool false,.bool false,.bool false,.bool false,.bool false,.bool false,.bool false,.bool false,.bool false,.bool false,.bool false,.bool false,.bool false,.bool false,.bool false,.bool false,.bool false]
abbrev qT3_11:List LV:=[I6 0,I6 0,.str [],.str [],.str [],I6 0,I6 0,.bool false,.bool false]
abbrev qT3_2(i1:Nat):List Slot:=[Sk i1 qT3_11 124]
abbrev qT3_3:List LV:=[I6 6,I6 1,.str [],.str [],.str [],I6 0,I6 0,.bool false,.bool false]
abbrev qT3_4:List LV:=[I6 6,I6 2,.str [],.str [],.str [],I6 0,I6 0,.bool false,.bool false]
abbrev qT3_5:List LV:=[I6 6,I6 3,.str [],.str [],.str [],I6 0,I6 0,.bool false,.bool false]
abbrev qT3_6:List LV:=[I6 6,I6 4,.str [],.str [],.str [],I6 0,I6 0,.bool false,.bool false]
abbrev qT3_7:List LV:=[I6 6,I6 5,.str [],.str [],.str [],I6 0,I6 0,.bool false,.bool false]
abbrev qT3_8:List LV:=[I6 6,I6 6,.str [],.str [],.str [],I6 0,I6 0,.bool false,.bool false]
abbrev qT3_9:List LV:=[I6 6,I6 7,.str [],.str [],.str [],I6 0,I6 0,.bool false,.bool false]
abbrev qT3_10:List LV:=[I6 6,I6 8,.str [],.str [],.str [],I6 0,I6 0,.bool false,.bool false]
theorem e283u(R:RR)(n0:Int)(H:LHeap)
 (h:Dc (n0>=(- 100000000000)) (R0 H [] H R (.bool (decide (n0<=100000000000)))) (R0 H [] H R (.bool false))):
 CallL cfg 283 [I6 n0] H R:=call_wt0 (k:=(.go 9 (.cases 5 (.go 5 (.facts .ret)) (.go 5 (.facts .ret))))) (by kernel_rfl) h
theorem e194t(R:RR)(x0:ValC)(H:LHeap)
 (h:NX H fun i1 H2=>Inv [] H [Sk i1 (ValC.cs x0) 67] H2->CL 260 [ValC.lv x0] H2 (.cust Int (fun (n:Int)=>(.iface 283 (I6 n):LV))) fun S3=>∀y4 H5,S3 (.iface 283 (I6 y4)) H5->Dc (y4>=1) (Dc (y4<=8) (Inv [] H [Sk i1 (ValC.cs x0) 67] H5->CL 261 [] H5 (.agg [.str,.str,.str,.str,.str,.str,.str,.str,.str]) fun S6=>∀s7 s8 s9 s10 s11 s12 s13 s14 s15 H16,S6 (.agg [.str s7,.str s8,.str s9,.str s10,.str s11,.str s12,.str s13,.str s14,.str s15]) H16->∃s18,(indexL cfg.P 214 (.agg [.str s7,.str s8,.str s9,.str s10,.str s11,.str s12,.str s13,.str s14,.str s15]) (I6 y4))=(some (.str s18))/\(R0 H [Sk i1 (ValC.cs x0) 67] H16 R (.str s18))) (R0 H [Sk i1 (ValC.cs x0) 67] H5 R (.str []))) (R0 H [Sk i1 (ValC.cs x0) 67] H5 R (.str []))):
 CallL cfg 194 [ValC.lv x0] H R:=call_wt0 (k:=(.go 2 (.boxP (.go 6 (.facts (.call (.cust Int (fun (n:Int)=>(.iface 283 (I6 n):LV))) (.go 39 (.cases 27 (.go 4 (.cases 30 (.go 3 (.facts (.call (.agg [.str,.str,.str,.str,.str,.str,.str,.str,.str]) (.go 1 (.op .str (.go 2 (.facts .ret))))))) (.go 7 (.facts .ret)))) (.go 11 (.facts .ret)))))))))) (by kernel_rfl) h
theorem e149t(R:RR)(s0:List UInt8)(H:LHeap)
 (h:NX H fun i1 H2=>Inv [] H (qT3_2 i1) H2->Kg 233 [I6 1] H2 fun x4 H5=>Inv [] H (qT3_2 i1) H5->Kb 194 [ValC.lv x4] H5 fun s7 H8=>Inv [] H (qT3_2 i1) H8->Ka 232 [.str s0,.str s7] H8 fun b10 H11=>Cd b10 (PX [i1] H11 fun H12=>R0 H [Sk i1 qT3_3 124] H12 R (.tuple [.agg qT3_3,I6 (s7.length:Int)])) (Inv [] H (qT3_2 i1) H11->Kg 233 [I6 2] H11 fun x14 H15=>Inv [] H (qT3_2 i1) H15->Kb 194 [ValC.lv x14] H15 fun s17 H18=>Inv [] H (qT3_2 i1) H18->Ka 232 [.str s0,.str s17] H18 fun b20 H21=>Cd b20 (PX [i1] H21 fun H22=>R0 H [Sk i1 qT3_4 124] H22 R (.tuple [.agg qT3_4,I6 (s17.length:Int)])) (Inv [] H (qT3_2 i1) H21->Kg 233 [I6 3] H21 fun x24 H25=>Inv [] H (qT3_2 i1) H25->Kb 194 [ValC.lv x24] H25 fun s27 H28=>Inv [] H (qT3_2 i1) H28->Ka 232 [.str s0,.str s27] H28 fun b30 H31=>Cd b30 (PX [i1] H31 fun H32=>R0 H [Sk i1 qT3_5 124] H32 R (.tuple [.agg qT3_5,I6 (s27.length:Int)])) (Inv [] H (qT3_2 i1) H31->Kg 233 [I6 4] H31 fun x34 H35=>Inv [] H (qT3_2 i1) H35->Kb 194 [ValC.lv x34] H35 fun s37 H38=>Inv [] H (qT3_2 i1) H38->Ka 232 [.str s0,.str s37] H38 fun b40 H41=>Cd b40 (PX [i1] H41 fun H42=>R0 H [Sk i1 qT3_6 124] H42 R (.tuple [.agg qT3_6,I6 (s37.length:Int)])) (Inv [] H (qT3_2 i1) H41->Kg 233 [I6 5] H41 fun x44 H45=>Inv [] H (qT3_2 i1) H45->Kb 194 [ValC.lv x44] H45 fun s47 H48=>Inv [] H (qT3_2 i1) H48->Ka 232 [.str s0,.str s47] H48 fun b50 H51=>Cd b50 (PX [i1] H51 fun H52=>R0 H [Sk i1 qT3_7 124] H52 R (.tuple [.agg qT3_7,I6 (s47.length:Int)])) (Inv [] H (qT3_2 i1) H51->Kg 233 [I6 6] H51 fun x54 H55=>Inv [] H (qT3_2 i1) H55->Kb 194 [ValC.lv x54] H55 fun s57 H58=>Inv [] H (qT3_2 i1) H58->Ka 232 [.str s0,.str s57] H58 fun b60 H61=>Cd b60 (PX [i1] H61 fun H62=>R0 H [Sk i1 qT3_8 124] H62 R (.tuple [.agg qT3_8,I6 (s57.length:Int)])) (Inv [] H (qT3_2 i1) H61->Kg 233 [I6 7] H61 fun x64 H65=>Inv [] H (qT3_2 i1) H65->Kb 194 [ValC.lv x64] H65 fun s67 H68=>Inv [] H (qT3_2 i1) H68->Ka 232 [.str s0,.str s67] H68 fun b70 H71=>Cd b70 (PX [i1] H71 fun H72=>R0 H [Sk i1 qT3_9 124] H72 R (.tuple [.agg qT3_9,I6 (s67.length:Int)])) (Inv [] H (qT3_2 i1) H71->Kg 233 [I6 8] H71 fun x74 H75=>Inv [] H (qT3_2 i1) H75->Kb 194 [ValC.lv x74] H75 fun s77 H78=>Inv [] H (qT3_2 i1) H78->Ka 232 [.str s0,.str s77] H78 fun b80 H81=>Cd b80 (PX [i1] H81 fun H82=>R0 H [Sk i1 qT3_10 124] H82 R (.tuple [.agg qT3_10,I6 (s77.length:Int)])) (PX [i1] H81 fun H83=>R0 H (qT3_2 i1) H83 R (.tuple [.agg qT3_11,I6 0])))))))))):
 CallL cfg 149 [.str s0] H R:=call_wt0 (k:=(.go 2 (.boxP (.go 22 (.facts (.call (.cust ValC ValC.lv) (.facts (.call .str (.go 6 (.facts (.call .bool (.go 1 (.cases 15 (.go 7 (.putP (.go 2 (.facts .ret)))) (.go 22 (.facts (.call (.cust ValC ValC.lv) (.facts (.call .str (.go 6 (.facts (.call .bool (.go 1 (.cases 15 (.go 7 (.putP (.go 2 (.facts .ret)))) (.go 22 (.facts (.call (.cust ValC ValC.lv) (.facts (.call .str (.go 6 (.facts (.call .bool (.go 1 (.cases 15 (.go 7 (.putP (.go 2 (.facts .ret)))) (.go 22 (.facts (.call (.cust ValC ValC.lv) (.facts (.call .str (.go 6 (.facts (.call .bool (.go 1 (.cases 15 (.go 7 (.putP (.go 2 (.facts .ret)))) (.go 22 (.facts (.call (.cust ValC ValC.lv) (.facts (.call .str (.go 6 (.facts (.call .bool (.go 1 (.cases 15 (.go 7 (.putP (.go 2 (.facts .ret)))) (.go 22 (.facts (.call (.cust ValC ValC.lv) (.facts (.call .str (.go 6 (.facts (.call .bool (.go 1 (.cases 15 (.go 7 (.putP (.go 2 (.facts .ret)))) (.go 22 (.facts (.call (.cust ValC ValC.lv) (.facts (.call .str (.go 6 (.facts (.call .bool (.go 1 (.cases 15 (.go 7 (.putP (.go 2 (.facts .ret)))) (.go 22 (.facts (.call (.cust ValC ValC.lv) (.facts (.call .str (.go 6 (.facts (.call .bool (.go 1 (.cases 15 (.go 7 (.putP (.go 2 (.facts .ret)))) (.go 20 (.putP (.go 2 (.facts .ret))))))))))))))))))))))))))))))))))))))))))))))))))))))))))))))))))))))))))))))))))))))) (by kernel_rfl) h
theorem e225t(R:RR)(p0:Option LAddr)(n1:Int)(H:LHeap)
 (h:(Option.isSome p0)=true/\((0<=n1/\(n1<256/\(Option.isSome (some (adr p0)))=true))/\(Inv [] H [] H->∃b5,loadT cfg.P H 4 (Lk (LAddr.id (adr p0)) (LAddr.ver (adr p0)) ((LAddr.off (adr p0))+((Int.toNat n1)*1)))=some (.bool b5)/\(R0 H [] H R (.bool b5))))):
 CallL cfg 225 [.ptr p0,.int .u8 n1] H R:=call_wt0 (k:=(.go 8 (.op (.tuple []) (.op (.tuple []) (.facts (.op .bool (.go 2 (.facts .ret)))))))) (by kernel_rfl) h
theorem g144t_0(R:RR)(H0:LHeap)(d:Nat->LV)(s0:List UInt8)(p1:Option LAddr)(H:LHeap)
 (h:Dc ((s0.length:Int)>0) (((0:Int)<=0/\0<(s0.length:Int))/\(Inv [] H0 [] H->Ka 225 [.ptr p1,.int .u8 (byteAt s0 0)] H fun b4 H5=>Cd (!b4) (R0 H0 [] H5 R (.str s0)) (((0:Int)<=1/\(1<=(s0.length:Int)/\(s0.length:Int)<=(s0.length:Int)))/\(∀d7,GoesT cfg 144 R [] H0 [] (L144t_0 d7 (subStr s0 1 (s0.length:Int)) p1) (loopAt cfg 144 0) H5)))) (R0 H0 [] H R (.str s0))):
 GoesT cfg 144 R [] H0 [] (L144t_0 d s0 p1) (loopAt cfg 144 0) H:=seg_wt (k:=(.go 7 (.cases 7 (.go 8 (.op (.int .u8) (.facts (.call .bool (.go 2 (.cases 12 (.go 7 (.facts .ret)) (.go 4 (.op .str (.go 4 (.stop [0,1] 0)))))))))) (.go 7 (.facts .ret))))) (by kernel_rfl) h
theorem e144t(R:RR)(s0:List UInt8)(p1:Option LAddr)(H:LHeap)
 (h:∀d2,GoesT cfg 144 R [] H [] (L144t_0 d2 s0 p1) (loopAt cfg 144 0) H):
 CallL cfg 144 [.str s0,.ptr p1] H R:=call_wt0 (k:=(.go 7 (.stop [0,1] 0))) (by kernel_rfl) h
theorem e143t(R:RR)(u:Unit)(H:LHeap)
 (h:NX H fun i0 H1=>PX [i0] H1 fun H2=>PX [i0] H2 fun H3=>PX [i0] H3 fun H4=>R0 H [Sk i0 qT3_1 207] H4 R (.tuple [.agg qT3_1,.bool true])):
 CallL cfg 143 [.str [32,9]] H R:=call_wt0 (k:=(.go 2 (.boxP (.go 39 (.putP (.go 38 (.putP (.go 21 (.putP (.go 2 (.facts .ret))))))))))) (by kernel_rfl) h
theorem cutP_no{s:List UInt8}{c:UInt8}(h:s.head?≠some c):cutP s [c]=(s,false):=by
 unfold cutP
 rw [if_neg]
 cases s with
 |nil=>simp
 |cons b t=>
  simp at h
  simp [h]
theorem pow4{d k:Nat}(h:d<10 ^ k)(hk:k<=4):(d:Int)*10 ^ (4-k)<10000:=by
 have h1:d*10 ^ (4-k)<10 ^ k*10 ^ (4-k):=Nat.mul_lt_mul_of_pos_right h (Nat.pow_pos (by omega))
 rw [<-Nat.pow_add,show k+(4-k)=4 by omega] at h1
 have h2:((d*10 ^ (4-k):Nat):Int)<10000:=by omega
 simpa using h2
theorem s230(s:List UInt8)(hs:s.length<=1000)(hh:s.head?≠some 45)(H:LHeap):CallL cfg 230 [.str s] H (Ret (parseL s) H):=by
 refine e230t _ s H fun hI=>⟨_,s130 s [45] H,Ret.use ⟨_,_,rfl⟩,fun s2 b3 H4 ⟨e,_⟩ hI=> ?_⟩
 rw [cutP_no hh] at e
 cases e
 refine ⟨_,s231 s 46 H4 hs,Ret.use (cutL_sh s 46),fun s6 s7 b8 H9 ⟨e,_⟩ hI=> ?_⟩
 have key:partsF s=(s6,s7,b8)/\s6.length<=1000/\s7.length<=1000:=by
  unfold cutL at e
  unfold partsF
  cases hc:cutF 46 s with
  |none=>rw [hc] at e;cases e;exact ⟨rfl,hs,by simp⟩
  |some p=>
   obtain ⟨x,y⟩:=p
   rw [hc] at e
   cases e
   have:=congrArg List.length (cutF_eq hc)
   simp at this
   exact ⟨rfl,by omega,by omega⟩
 obtain ⟨kp,k6,k7⟩:=key
 refine ⟨_,s276 s6 k6 1 12 H9,CountR.sh,fun n11 b12 H13 ⟨_,n,b,e1,hb1,hn1,hlo1,hhi1⟩ hI=>⟨_,s276 s7 k7 1 4 H13,CountR.sh,fun n15 b16 H17 ⟨_,m,b',e2,hb2,hn2,hlo2,hhi2⟩=> ?_⟩⟩
 cases e1;cases e2
 have ok:parseOk s=(b12&&(!b8||b16)):=by
  unfold parseOk
  rw [kp,hb1,hb2]
 have bad:∀{H':LHeap},parseOk s=false->PresX [] H H'->Ret (parseL s) H (.tuple [.int .i64 0,.bool false]) H':=fun h p=>⟨by unfold parseL;rw [h];rfl,p⟩
 have good:parseOk s=true->∀d H',GoesT cfg 230 (Ret (parseL s) H) [] H [] (L230t_0 d 0 n15 false n11 (lwrap .i64 ((4:Int)-((s7.length:Nat):Int)))) (loopAt cfg 230 0) H':=by
  intro h d H'
  have h1:b12=true:=by rw [ok] at h;simp at h;exact h.1
  have h2:digs s6=true/\s6.length<=12:=by
   rw [hb1] at h1
   simp at h1
   exact ⟨h1.1,by omega⟩
  have h3:digs s7=true/\s7.length<=4:=by
   cases hb8:b8 with
   |true=>
    rw [ok,hb8,hb2] at h
    simp at h
    exact ⟨h.2.1,by omega⟩
   |false=>
    have:s7=[]:=by
     unfold partsF at kp
     split at kp
     ·cases kp;cases hb8
     ·cases kp;rfl
    rw [this];exact ⟨rfl,by simp⟩
  have v1:=hn1 h2.1 h2.2
  have v2:=hn2 h3.1 (by omega)
  have b1:=decF_12 h2.1 h2.2
  have b2:=decF_lt s7 0 h3.1
  have hw:lwrap .i64 ((4:Int)-((s7.length:Nat):Int))=((4-s7.length:Nat):Int):=by rw [lwrap_small (by omega) (by omega)];omega
  rw [hw,v1,v2]
  have hp:parseL s=toldL ((decF s6 0:Int)*10000+(decF s7 0:Int)*10 ^ (4-s7.length)):=by
   unfold parseL parseV
   rw [h,kp];rfl
  rw [hp]
  have:=loop230 H (decF s6 0:Int) ⟨by omega,by omega⟩ (4-s7.length) (by omega) (decF s7 0:Int) (by omega) (pow4 (by simpa using b2) h3.2) _ rfl (4-s7.length) 0 (by omega) d H'
  simpa using this
 refine ⟨fun h hI=>bad ?_ hI.pres,fun h=>⟨fun h8=>⟨fun h16 hI=>bad ?_ hI.pres,fun h16 d=>good ?_ d H17⟩,fun h8 d=>good ?_ d H17⟩⟩
 ·rw [ok];simp at h;rw [h];rfl
 ·rw [ok,h8];simp at h16;rw [h16];simp
 ·rw [ok,h8];simp at h h16;rw [h,h16];rfl
 ·rw [ok,h8];simp at h;rw [h];rfl
theorem s283(n:Int)(H:LHeap):CallL cfg 283 [.int .i64 n] H (Ret (.bool (numF n)) H):=by
 refine e283u _ n H ⟨fun h hI=>⟨?_,hI.pres⟩,fun h hI=>⟨?_,hI.pres⟩⟩
 all_goals simp only [numF,h,Bool.true_and,Bool.false_and]
theorem s239(n:Int)(H:LHeap):CallL cfg 239 [.int .i64 n] H (Ret (toldL n) H):=by
 refine e239t _ n H fun hI=>⟨_,s283 n H,Ret.use ⟨_,rfl⟩,fun b H3 ⟨e,_⟩=>⟨fun h hI=>⟨?_,hI.pres⟩,fun h hI=>⟨?_,hI.pres⟩⟩⟩
 ·cases e
  have:numF n=false:=by simpa using h
  unfold toldL;rw [this];rfl
 ·cases e
  have:numF n=true:=by simpa using h
  unfold toldL;rw [this];rfl
def digitsF(s:List UInt8)(l m:Int):Bool:=digs s&&(decide (l<=(s.length:Int))&&decide ((s.length:Int)<=m))
theorem loop238(s:List UInt8)(hs:s.length<=1000)(l m:Int)(H0:LHeap):∀(C A:List UInt8) (d:Nat->LV) (H:LHeap),A++C=s->digs A=true->
  GoesT cfg 238 (Ret (.bool (digitsF s l m)) H0) [] H0 [] (L238t_0 d (A.length:Int) s l m) (loopAt cfg 238 0) H
 |[],A,d,H,hA,hd=>by
  intro hin hI
  rw [List.append_nil] at hA
  subst hA
  refine g238t_0 _ H0 d A.length A l m H ⟨fun h=> ?_,fun _=>⟨fun h hI=>⟨?_,hI.pres⟩,fun h hI=>⟨?_,hI.pres⟩⟩⟩ hin hI
  ·simp at h
  ·have:decide (l<=(A.length:Int))=true:=by simpa using h
   unfold digitsF;rw [hd,this];rfl
  ·have:decide (l<=(A.length:Int))=false:=by simpa using h
   unfold digitsF;rw [hd,this];rfl
 |b::C,A,d,H,hA,hd=>by
  intro hin hI
  have hb:byteAt s (A.length:Int)=(b.toNat:Int):=by rw [<-hA];exact byteAt_app A b C
  have hl:A.length+(C.length+1)=s.length:=by rw [<-hA];simp
  have rg:(0:Int)<=(A.length:Int)/\(A.length:Int)<((s.length:Nat):Int):=by omega
  have no:digF (b.toNat:Int)=false->digitsF s l m=false:=fun h=>by
   unfold digitsF
   rw [<-hA,digs_app]
   simp [digs,h]
  refine g238t_0 _ H0 d A.length s l m H ⟨fun h=>⟨rg,fun h1 hI=>⟨?_,hI.pres⟩,fun h1=>⟨rg,fun h2 hI=>⟨?_,hI.pres⟩,fun h2 d6=> ?_⟩⟩,fun h=> ?ge⟩ hin hI
  case ge=>simp at h;omega
  ·rw [no];rw [hb] at h1;simp at h1;simp [digF];omega
  ·rw [no];rw [hb] at h2;simp at h2;simp [digF];omega
  ·rw [hb] at h1 h2
   simp at h1 h2
   have hk:lwrap .i64 ((A.length:Int)+1)=(((A++[b]).length:Nat):Int):=by rw [lwrap_small (by omega) (by omega)];simp
   rw [hk]
   exact loop238 s hs l m H0 C (A++[b]) d6 H (by rw [<-hA];simp) (by rw [digs_app,hd];simp [digs,digF];omega)
theorem s238(s:List UInt8)(hs:s.length<=1000)(l m:Int)(H:LHeap):CallL cfg 238 [.str s,.int .i64 l,.int .i64 m] H (Ret (.bool (digitsF s l m)) H):=
 e238t _ s l m H fun d=>loop238 s hs l m H s [] d H rfl rfl
theorem decF_zeros(s:List UInt8)(n:Nat):∀k,decF (s++List.replicate k 48) n=decF s n*10 ^ k
 |0=>by simp
 |k+1=>by
  rw [List.replicate_succ',<-List.append_assoc,decF_app,decF_zeros s n k]
  simp [decF,Nat.pow_succ]
  rw [Nat.mul_comm,Nat.mul_assoc]
theorem decF_start(s:List UInt8):∀n,decF s n=n*10 ^ s.length+decF s 0:=by
 induction s with
 |nil=>intro n;simp [decF]
 |cons b s ih=>
  intro n
  show decF s (10*n+(b.toNat-48))=_+decF s (10*0+(b.toNat-48))
  rw [ih (10*n+(b.toNat-48)),ih (10*0+(b.toNat-48))]
  rw [List.length_cons,Nat.pow_succ,Nat.add_mul,Nat.mul_zero,Nat.zero_add]
  rw [show 10*n*10 ^ s.length=n*(10 ^ s.length*10) by rw [Nat.mul_comm 10 n,Nat.mul_assoc,Nat.mul_comm 10]]
  omega
theorem loop154_2(s:List UInt8)(hl:s.length<=16)(hd:digs s=true)(H0:LHeap)(r:LV)(hr:toldL (decF s 0:Int)=r):∀(C A:List UInt8) (d:Nat->LV) (H:LHeap),A++C=s->
  GoesT cfg 154 (Ret r H0) [] H0 [] (L154t_2 d (A.length:Int) (decF A 0:Int) s false) (loopAt cfg 154 2) H
 |[],A,d,H,hA=>by
  intro hin hI
  rw [List.append_nil] at hA
  subst hA
  refine g154t_2 _ H0 d A.length (decF A 0) A false H ⟨fun h=> ?_,fun _=>⟨fun h=>(by cases h),fun _ hI=>⟨_,s239 _ H,Ret.use (toldL_sh _),fun n11 b12 H13 ⟨e,_⟩ hI=>⟨by rw [<-hr];exact e,hI.pres⟩⟩⟩⟩ hin hI
  simp at h
 |b::C,A,d,H,hA=>by
  intro hin hI
  have hb:byteAt s (A.length:Int)=(b.toNat:Int):=by rw [<-hA];exact byteAt_app A b C
  have hll:A.length+(C.length+1)=s.length:=by rw [<-hA];simp
  have hdA:digs A=true/\digF (b.toNat:Int)=true:=by
   rw [<-hA,digs_app] at hd
   simp [digs] at hd
   exact ⟨by simpa [digs] using hd.1,hd.2.1⟩
  have hb2:48<=b.toNat/\b.toNat<=57:=by have:=hdA.2;simp [digF] at this;omega
  have hlt:=decF_lt A 0 hdA.1
  have hp:10 ^ A.length<=10 ^ 16:=Nat.pow_le_pow_right (by omega) (by omega)
  have e1:lwrap .u8 ((b.toNat:Int)-48)=(b.toNat:Int)-48:=by
   rw [lwrap_eq]
   simp only [IntKind.wrap,IntKind.signed,IntKind.bits,Bool.false_and,Bool.false_eq_true,if_false]
   omega
  refine g154t_2 _ H0 d A.length (decF A 0) s false H ⟨fun h=>⟨by omega,fun d5=> ?_⟩,fun h=> ?ge⟩ hin hI
  case ge=>simp at h;omega
  rw [hb,e1,lwrap_small (n:=(10:Int)*(decF A 0:Int)) (by omega) (by omega),lwrap_small (n:=(b.toNat:Int)-48) (by omega) (by omega),lwrap_small (n:=(10:Int)*(decF A 0:Int)+((b.toNat:Int)-48)) (by omega) (by omega),lwrap_small (n:=(A.length:Int)+1) (by omega) (by omega)]
  have hdec:(10:Int)*(decF A 0:Int)+((b.toNat:Int)-48)=(decF (A++[b]) 0:Int):=by
   rw [decF_app]
   show _=((10*decF A 0+(b.toNat-48):Nat):Int)
   omega
  rw [hdec,show (A.length:Int)+1=(((A++[b]).length:Nat):Int) by simp]
  exact loop154_2 s hl hd H0 r hr C (A++[b]) d5 H (by rw [<-hA];simp)
theorem loop154_1(x y:List UInt8)(hx:digs x=true/\x.length<=12)(hy:digs y=true/\y.length<=4)(H0:LHeap)(r:LV)(hr:toldL ((decF x 0:Int)*10000+(decF y 0:Int)*10 ^ (4-y.length))=r):∀(m k:Nat),y.length+k+m=4->∀(d:Nat->LV) (H:LHeap),
  GoesT cfg 154 (Ret r H0) [] H0 [] (L154t_1 d (y++List.replicate k 48) false x) (loopAt cfg 154 1) H
 |0,k,hk,d,H=>by
  intro hin hI
  refine g154t_1 _ H0 d (y++List.replicate k 48) false x H ⟨fun h=> ?_,fun _=>⟨by simp;omega,fun d6=> ?_⟩⟩ hin hI
  ·simp at h;omega
  ·refine loop154_2 (x++(y++List.replicate k 48)) (by simp;omega) ?_ H0 r ?_ _ [] d6 H rfl
   ·rw [digs_app,digs_app,hx.1,hy.1]
    simp [digs,digF]
   ·rw [<-hr,decF_app,decF_start,List.length_append,List.length_replicate,decF_zeros]
    congr 1
    rw [show y.length+k=4 by omega,show k=4-y.length by omega]
    simp
 |m+1,k,hk,d,H=>by
  intro hin hI
  refine g154t_1 _ H0 d (y++List.replicate k 48) false x H ⟨fun _=>⟨by simp;omega,fun d4=> ?_⟩,fun h=> ?_⟩ hin hI
  ·have:=loop154_1 x y hx hy H0 r hr m (k+1) (by omega) d4 H
   rw [List.replicate_succ',<-List.append_assoc] at this
   exact this
  ·simp at h;omega
def L97t_0(d:Nat->LV)(n0:Int)(b1:Bool)(s2:List UInt8):List SV:=[.lv (.str s2),.lv (d 1),.lv (d 2),.lv (.bool b1),.lv (I6 n0)]++dl d 5 55
def L252t_0(d:Nat->LV)(n0:Int)(a1:Option LAddr)(l2:Nat)(c3:Cap)(a4:Option LAddr)(l5:Nat)(c6:Cap)(n7:Int):List SV:=dl d 0 3++[.lv (.slice a1 l2 c3)]++dl d 4 4++[.lv (.slice a4 l5 c6),.lv (I6 n7),.lv (I6 n0)]++dl d 11 18
abbrev qW12_1(b1:Bool)(R:RR)(H0:LHeap)(n0:Int)(s2:List UInt8)(H10:LHeap):Prop:=Cd b1 (∀d12,GoesT cfg 97 R [] H0 [] (L97t_0 d12 (lwrap .i64 (n0+1)) true s2) (loopAt cfg 97 0) H10) ((0<=n0/\n0<(s2.length:Int))/\(Inv [] H0 [] H10->Ka 153 [.int .u8 (byteAt s2 n0)] H10 fun b15 H16=>∀d17,GoesT cfg 97 R [] H0 [] (L97t_0 d17 (lwrap .i64 (n0+1)) (!b15) s2) (loopAt cfg 97 0) H16))
theorem e285t(R:RR)(n0:Int)(n1:Int)(H:LHeap)
 (h:Dc (n0>=1) (Dc (n0<=64) (Dc (n1>=1) (R0 H [] H R (.bool (decide (n1<=26)))) (R0 H [] H R (.bool false))) (R0 H [] H R (.bool false))) (R0 H [] H R (.bool false))):
 CallL cfg 285 [I6 n0,I6 n1] H R:=call_wt0 (k:=(.go 9 (.cases 7 (.go 4 (.cases 11 (.go 4 (.cases 15 (.go 5 (.facts .ret)) (.go 5 (.facts .ret)))) (.go 9 (.facts .ret)))) (.go 13 (.facts .ret))))) (by kernel_rfl) h
theorem g97t_0(R:RR)(H0:LHeap)(d:Nat->LV)(n0:Int)(b1:Bool)(s2:List UInt8)(H:LHeap)
 (h:Dc (n0<(s2.length:Int)) ((0<=n0/\n0<(s2.length:Int))/\(Inv [] H0 [] H->Ka 157 [.int .u8 (byteAt s2 n0)] H fun b5 H6=>Cd (!b5) ((0<=n0/\n0<(s2.length:Int))/\(Inv [] H0 [] H6->Ka 153 [.int .u8 (byteAt s2 n0)] H6 fun b9 H10=>Cd (!b9) ((0<=n0/\n0<(s2.length:Int))/\(Cd ((byteAt s2 n0)!=95) (R0 H0 [] H10 R (.bool false)) (qW12_1 b1 R H0 n0 s2 H10))) (qW12_1 b1 R H0 n0 s2 H10))) (qW12_1 b1 R H0 n0 s2 H6))) (R0 H0 [] H R (.bool b1))):
 GoesT cfg 97 R [] H0 [] (L97t_0 d n0 b1 s2) (loopAt cfg 97 0) H:=seg_wt (k:=(.go 8 (.cases 30 (.go 9 (.op (.int .u8) (.facts (.call .bool (.go 2 (.cases 38 (.go 2 (.op (.int .u8) (.facts (.call .bool (.go 3 (.cases 45 (.go 2 (.op (.int .u8) (.go 3 (.cases 50 (.go 5 (.facts .ret)) (.go 5 (.cases 52 (.go 15 (.stop [4,3,0] 0)) (.go 2 (.op (.int .u8) (.facts (.call .bool (.go 11 (.stop [4,3,0] 0)))))))))))) (.go 11 (.cases 52 (.go 15 (.stop [4,3,0] 0)) (.go 2 (.op (.int .u8) (.facts (.call .bool (.go 11 (.stop [4,3,0] 0)))))))))))))) (.go 18 (.cases 52 (.go 15 (.stop [4,3,0] 0)) (.go 2 (.op (.int .u8) (.facts (.call .bool (.go 11 (.stop [4,3,0] 0)))))))))))))) (.go 7 (.facts .ret))))) (by kernel_rfl) h
theorem e97t(R:RR)(s0:List UInt8)(H:LHeap)
 (h:Dc ((s0.length:Int)<1) (R0 H [] H R (.bool false)) (Dc ((s0.length:Int)>16) (R0 H [] H R (.bool false)) (((0:Int)<=0/\0<(s0.length:Int))/\(Inv [] H [] H->Ka 157 [.int .u8 (byteAt s0 0)] H fun b3 H4=>Cd (!b3) (R0 H [] H4 R (.bool false)) (Inv [] H [] H4->Kc 182 [.str s0] H4 fun n6 H7=>Dc (n6>=0) (R0 H [] H7 R (.bool false)) (∀d8,GoesT cfg 97 R [] H [] (L97t_0 d8 1 ((s0.length:Int)==1) s0) (loopAt cfg 97 0) H7)))))):
 CallL cfg 97 [.str s0] H R:=call_wt0 (k:=(.go 11 (.cases 8 (.go 21 (.facts .ret)) (.go 5 (.cases 13 (.go 16 (.facts .ret)) (.go 1 (.op (.int .u8) (.facts (.call .bool (.go 3 (.cases 19 (.go 10 (.facts .ret)) (.go 1 (.facts (.call (.int .i64) (.go 3 (.cases 23 (.go 5 (.facts .ret)) (.go 16 (.stop [4,3,0] 0)))))))))))))))))) (by kernel_rfl) h
theorem e182t(R:RR)(s0:List UInt8)(H:LHeap)
 (h:Inv [] H [] H->Kb 252 [.str s0] H fun s2 H3=>Cd (s2==[84,82,85,69]) (R0 H [] H3 R (I6 1)) (Cd (s2==[70,65,76,83,69]) (R0 H [] H3 R (I6 0)) (R0 H [] H3 R (I6 (- 1:Int))))):
 CallL cfg 182 [.str s0] H R:=call_wt0 (k:=(.go 8 (.facts (.call .str (.go 7 (.cases 5 (.go 5 (.facts .ret)) (.go 6 (.cases 7 (.go 5 (.facts .ret)) (.go 7 (.facts .ret)))))))))) (by kernel_rfl) h
theorem g252t_0(R:RR)(H0:LHeap)(d:Nat->LV)(n0:Int)(a1:Option LAddr)(l2:Nat)(c3:Cap)(a4:Option LAddr)(l5:Nat)(c6:Cap)(n7:Int)(H:LHeap)
 (h:Dc (n0<n7) ((0<=n0/\(n0<((l5:Nat):Int)/\(Option.isSome a4)=true))/\(Inv [] H0 [] H->∃n10,loadT cfg.P H 5 (Lk (LAddr.id (adr a4)) (LAddr.ver (adr a4)) ((LAddr.off (adr a4))+((Int.toNat n0)*1)))=some (.int .u8 n10)/\(Dc (n10>=97) (Dc (n10<=122) ((0<=n0/\(n0<((l2:Nat):Int)/\(Option.isSome a1)=true))/\(Inv [] H0 [] H->∃H12,(storeT cfg.P H 5 (Lk (LAddr.id (adr a1)) (LAddr.ver (adr a1)) ((LAddr.off (adr a1))+((Int.toNat n0)*1))) (.int .u8 (lwrap .u8 (n10-32)))=some H12/\okId [] H0 [] (LAddr.id (adr a1)))/\(∀d13,GoesT cfg 252 R [] H0 [] (L252t_0 d13 (lwrap .i64 (n0+1)) a1 l2 c3 a4 l5 c6 n7) (loopAt cfg 252 0) H12))) (∀d14,GoesT cfg 252 R [] H0 [] (L252t_0 d14 (lwrap .i64 (n0+1)) a1 l2 c3 a4 l5 c6 n7) (loopAt cfg 252 0) H)) (∀d15,GoesT cfg 252 R [] H0 [] (L252t_0 d15 (lwrap .i64 (n0+1)) a1 l2 c3 a4 l5 c6 n7) (loopAt cfg 252 0) H)))) (∃s17 H18,(convertL cfg.P H 155 9 (.slice a1 l2 c3))=(some (Prod.mk (.str s17) H18))/\(R0 H0 [] H R (.str s17)))):
 GoesT cfg 252 R [] H0 [] (L252t_0 d n0 a1 l2 c3 a4 l5 c6 n7) (loopAt cfg 252 0) H:=seg_wt (k:=(.go 5 (.cases 11 (.go 7 (.op (.tuple []) (.facts (.op (.int .u8) (.go 8 (.cases 17 (.go 4 (.cases 20 (.go 6 (.op (.tuple []) (.facts (.store (.go 7 (.stop [10,3,8,9] 0)))))) (.go 8 (.stop [10,3,8,9] 0)))) (.go 12 (.stop [10,3,8,9] 0)))))))) (.go 5 (.op .str (.go 2 (.facts .ret))))))) (by kernel_rfl) h
theorem e252t(R:RR)(s0:List UInt8)(H:LHeap)
 (h:Inv [] H [] H->∃a1 l2 c3 Y H4,(opL cfg (fun (x:Operand)=>denF [] (evalS cfg [.lv (.str s0),.lv (.tuple []),.lv (.str []),.lv (.tuple []),.lv (.tuple []),.lv (.tuple []),.lv (.str s0),.lv (.tuple []),.lv (.tuple []),.lv (.tuple []),.lv (.tuple []),.lv (.tuple []),.lv (.tuple []),.lv (.tuple []),.lv (.tuple []),.lv (.tuple []),.lv (.tuple []),.lv (.tuple []),.lv (.tuple []),.lv (.tuple []),.lv (.tuple []),.lv (.tuple []),.lv (.tuple []),.lv (.tuple []),.lv (.tuple []),.lv (.tuple []),.lv (.tuple []),.lv (.tuple []),.lv (.tuple [])] x)) H (Oper.mk (some 7) (Op.convert 9 155 (Operand.tmp 6)) 155 "ref.go:56" (List.toArray [Edge.mk 0 Go.Ground.data]) none)=some [(.value (.slice a1 l2 c3),H4)]/\(PresX Y H H4/\(∀i∈Y,okId [] H [] i)))/\(∀d5,GoesT cfg 252 R [] H [] (L252t_0 d5 0 a1 l2 c3 a1 l2 c3 ((l2:Nat):Int)) (loopAt cfg 252 0) H4)):
 CallL cfg 252 [.str s0] H R:=call_wt0 (k:=(.go 7 (.facts (.any .slice (.go 11 (.stop [10,3,8,9] 0)))))) (by kernel_rfl) h
theorem e157t(R:RR)(n0:Int)(H:LHeap)
 (h:Dc (n0>=97) (Dc (n0<=122) (R0 H [] H R (.bool true)) (Dc (n0>=65) (R0 H [] H R (.bool (decide (n0<=90)))) (R0 H [] H R (.bool false)))) (Dc (n0>=65) (R0 H [] H R (.bool (decide (n0<=90)))) (R0 H [] H R (.bool false)))):
 CallL cfg 157 [.int .u8 n0] H R:=call_wt0 (k:=(.go 9 (.cases 5 (.go 4 (.cases 9 (.go 9 (.facts .ret)) (.go 3 (.cases 12 (.go 6 (.facts .ret)) (.go 6 (.facts .ret)))))) (.go 7 (.cases 12 (.go 6 (.facts .ret)) (.go 6 (.facts .ret))))))) (by kernel_rfl) h
theorem e153t(R:RR)(n0:Int)(H:LHeap)
 (h:Dc (n0>=48) (R0 H [] H R (.bool (decide (n0<=57)))) (R0 H [] H R (.bool false))):
 CallL cfg 153 [.int .u8 n0] H R:=call_wt0 (k:=(.go 9 (.cases 5 (.go 5 (.facts .ret)) (.go 5 (.facts .ret))))) (by kernel_rfl) h
theorem loop252(H0:LHeap)(r n:Nat)(hr:H0.next<=r)(hn:n<=9223372036854775807):∀(C A:List UInt8) (d:Nat->LV) (H:LHeap),A.length+C.length=n->r<H.next->H.get r=some (.cells (bcs (A.map upB++C)) 5 n n .mark false false)->
  GoesT cfg 252 (Ret (.str ((A++C).map upB)) H0) [] H0 [] (L252t_0 d (A.length:Int) (some ⟨r,n,0⟩) n (.free 1) (some ⟨r,n,0⟩) n (.free 1) (n:Int)) (loopAt cfg 252 0) H
 |[],A,d,H,hl,hlt,hg=>by
  intro hin hI
  refine g252t_0 _ H0 d A.length (some ⟨r,n,0⟩) n (.free 1) (some ⟨r,n,0⟩) n (.free 1) n H ⟨fun h=> ?_,fun h=>⟨A.map upB,H,conv_from ?_,fun hI=>⟨by rw [List.append_nil],hI.pres⟩⟩⟩ hin hI
  ·simp at h hl;omega
  ·unfold loadN
   rw [List.append_nil] at hg
   simp only [hg]
   rw [if_pos (by simp),dropN_eq,List.drop_zero,takeN_of _ _ (by rw [bcs_len,List.length_map];simp at hl;omega),List.take_of_length_le (by rw [bcs_len,List.length_map];simp at hl;omega)]
 |b::C,A,d,H,hl,hlt,hg=>by
  intro hin hI
  have hAC:(A++[b])++C=A++b::C:=by simp
  have hlen:(A++[b]).length+C.length=n:=by simp at hl |-;omega
  rw [List.length_cons] at hl
  have hi:((A.length:Int)+1)=(((A++[b]).length:Nat):Int):=by simp
  have hw:lwrap .i64 ((A.length:Int)+1)=(((A++[b]).length:Nat):Int):=by rw [lwrap_small (by omega) (by omega),hi]
  have h256:=u8_lt256 b
  have hnth:(bcs (A.map upB++b::C))[A.length]? =some (.int .u8 (b.toNat:Int)):=by
   unfold bcs
   rw [List.getElem?_map,List.getElem?_append_right (by simp)]
   simp
  have same:¬(97<=b.toNat/\b.toNat<=122)->∀d',GoesT cfg 252 (Ret (.str ((A++b::C).map upB)) H0) [] H0 [] (L252t_0 d' (lwrap .i64 ((A.length:Int)+1)) (some ⟨r,n,0⟩) n (.free 1) (some ⟨r,n,0⟩) n (.free 1) (n:Int)) (loopAt cfg 252 0) H:=by
   intro hno d'
   rw [hw,<-hAC]
   refine loop252 H0 r n hr hn C (A++[b]) d' H hlen hlt ?_
   rw [hg]
   have:upB b=b:=by unfold upB;rw [if_neg hno]
   simp [this]
  refine g252t_0 _ H0 d A.length (some ⟨r,n,0⟩) n (.free 1) (some ⟨r,n,0⟩) n (.free 1) n H ⟨fun h=>⟨⟨by omega,by omega,rfl⟩,fun hI=>⟨(b.toNat:Int),?ld,fun h97=>⟨fun h122=>⟨⟨by omega,by omega,rfl⟩,fun hI=> ?st⟩,fun h122 d14=>same (by simp at h97 h122;omega) d14⟩,fun h97 d15=>same (by simp at h97;omega) d15⟩⟩,fun h=> ?ge⟩ hin hI
  case ge=>simp at h;omega
  case ld=>
   unfold loadT
   rw [show isAggT cfg.P 5=some false by kernel_rfl]
   show load1 H ⟨r,n,0+(A.length:Int).toNat*1⟩=_
   unfold load1
   simp only [hg,Int.toNat_natCast,Nat.mul_one,Nat.zero_add]
   rw [if_pos (by simp only [Bool.and_eq_true,Nat.ble_eq];omega),nth_eq]
   exact hnth
  case st=>
   have hup:upB b=UInt8.ofNat (b.toNat-32):=by unfold upB;rw [if_pos (by simp at h97 h122;omega)]
   have hval:LV.int .u8 (lwrap .u8 ((b.toNat:Int)-32))=.int .u8 ((upB b).toNat:Int):=by
    have h97':97<=b.toNat:=by simp at h97;omega
    congr 1
    rw [hup]
    obtain ⟨m,hm⟩:∃m,b.toNat=m+32:=⟨b.toNat-32,by omega⟩
    rw [hm]
    have e1:((m+32:Nat):Int)-32=Int.ofNat m:=by simp
    rw [e1]
    unfold lwrap
    simp only [Nat.ble_eq]
    simp
    omega
   refine ⟨H.put r (.cells (bcs ((A++[b]).map upB++C)) 5 n n .mark false false),⟨?_,.inr hr,fun k s hs=>by simp [nth] at hs⟩,fun d13=> ?_⟩
   ·unfold storeT
    rw [show sizeOfT cfg.P 5=some 1 by kernel_rfl]
    show storeN H ⟨r,n,0+(A.length:Int).toNat*1⟩ [.int .u8 (lwrap .u8 ((b.toNat:Int)-32))]=_
    unfold storeN
    simp only [hg,Nat.beq_refl,Bool.not_false,Bool.and_self,FZ.apart,if_true,Int.toNat_natCast,Nat.mul_one,Nat.zero_add,hval]
    have hov:=over_mid (bcs (A.map upB)) [LV.int .u8 (b.toNat:Int)] (bcs C) [LV.int .u8 ((upB b).toNat:Int)] rfl
    rw [bcs_len,List.length_map] at hov
    have e1:bcs (A.map upB++b::C)=bcs (A.map upB)++([LV.int .u8 (b.toNat:Int)]++bcs C):=by rw [bcs_app];rfl
    rw [e1,hov]
    have e2:bcs ((A++[b]).map upB++C)=bcs (A.map upB)++([LV.int .u8 ((upB b).toNat:Int)]++bcs C):=by rw [List.map_append,bcs_app,bcs_app,List.append_assoc];rfl
    rw [e2]
    rfl
   ·rw [hw,<-hAC]
    exact loop252 H0 r n hr hn C (A++[b]) d13 _ hlen hlt (by rw [LHeap.get_put,if_pos rfl])
theorem s252(s:List UInt8)(H:LHeap)(hs:s.length<=9223372036854775807):CallL cfg 252 [.str s] H (Ret (.str (s.map upB)) H):=by
 refine e252t _ s H fun hI=>⟨some ⟨H.next,s.length,0⟩,s.length,.free 1,[],H.push (.cells (bcs s) 5 s.length s.length .mark false false),⟨?_,.push _ _ _,fun i hi=>by cases hi⟩,fun d=> ?_⟩
 ·show (match convertL cfg.P H 9 155 (.str s) with
   |some (v,H')=>some [(LNext.value v,H')]
   |none=>none)=_
  rw [conv_to hs]
 ·exact loop252 H H.next s.length (Nat.le_refl _) hs s [] d _ (by simp) (Nat.lt_succ_self _) (by rw [LHeap.get_push,if_pos rfl];rfl)
theorem loop154_0(s:List UInt8)(hs:s.length<=1000)(H0:LHeap):∀(C A:List UInt8) (d:Nat->LV) (H:LHeap),A++C=s->cutF 46 s=(match cutF 46 C with |some (x,y)=>some (A++x,y) |none=>none)->
  GoesT cfg 154 (Ret (parseL s) H0) [] H0 [] (L154t_0 d false s (A.length:Int) [] s false) (loopAt cfg 154 0) H
 |[],A,d,H,hA,hc=>by
  intro hin hI
  rw [List.append_nil] at hA
  subst hA
  have hp:partsF A=(A,[],false):=by unfold partsF;rw [hc];rfl
  have ok:parseOk A=digitsF A 1 12:=by unfold parseOk;rw [hp];simp [digitsF]
  refine g154t_0 _ H0 d false A A.length [] A false H ⟨fun h=> ?_,fun _ hI=>⟨_,s238 A hs 1 12 H,Ret.use ⟨_,rfl⟩,fun b H20 ⟨e,_⟩=>⟨fun h hI=>⟨?_,hI.pres⟩,fun h=>⟨fun h=>(by cases h),fun _ d25=> ?_⟩⟩⟩⟩ hin hI
  ·simp at h
  ·cases e
   have:digitsF A 1 12=false:=by simpa using h
   unfold parseL;rw [ok,this];rfl
  ·cases e
   have h1:digitsF A 1 12=true:=by simpa using h
   have h2:digs A=true/\A.length<=12:=by
    unfold digitsF at h1
    simp only [Bool.and_eq_true,decide_eq_true_eq] at h1
    exact ⟨h1.1,by omega⟩
   have hv:parseL A=toldL ((decF A 0:Int)*10000+(decF ([]:List UInt8) 0:Int)*10 ^ (4-([]:List UInt8).length)):=by
    unfold parseL parseV;rw [ok,h1,hp];rfl
   exact loop154_1 A [] h2 ⟨rfl,by simp⟩ H0 _ hv.symm 4 0 (by simp) d25 H20
 |b::C,A,d,H,hA,hc=>by
  intro hin hI
  have hb:byteAt s (A.length:Int)=(b.toNat:Int):=by rw [<-hA];exact byteAt_app A b C
  have hl:A.length+(C.length+1)=s.length:=by rw [<-hA];simp
  have rg:(0:Int)<=(A.length:Int)/\(A.length:Int)<((s.length:Nat):Int):=by omega
  have hw:lwrap .i64 ((A.length:Int)+1)=((A.length+1:Nat):Int):=by rw [lwrap_small (by omega) (by omega)];simp
  have hpt:(b==(46:UInt8))=((byteAt s (A.length:Int))==(46:Int)):=by
   rw [hb]
   rw [Bool.eq_iff_iff]
   simp only [beq_iff_eq]
   constructor
   ·intro h;rw [h];rfl
   ·intro h;exact UInt8.toNat_inj.1 (by show b.toNat=46;omega)
  refine g154t_0 _ H0 d false s A.length [] s false H ⟨fun h=>⟨rg,fun hdot=>⟨⟨by omega,by omega,by omega⟩,⟨by rw [hw];omega,by rw [hw];omega,by omega⟩,?dot⟩,fun hdot d17=> ?go⟩,fun h=> ?ge⟩ hin hI
  case ge=>simp at h;omega
  case go=>
   rw [hw,show ((A.length+1:Nat):Int)=(((A++[b]).length:Nat):Int) by simp]
   refine loop154_0 s hs H0 C (A++[b]) d17 H (by rw [<-hA];simp) ?_
   have e:cutF 46 (b::C)=(match cutF 46 C with |some (x,y)=>some (b::x,y) |none=>none):=by
    conv=>lhs;unfold cutF
    rw [hpt,hdot]
    rfl
   rw [hc,e]
   cases cutF 46 C with
   |none=>rfl
   |some p=>simp
  case dot=>
   have hcut:cutF 46 s=some (A,C):=by
    rw [hc]
    unfold cutF
    rw [hpt,hdot]
    simp
   have e1:subStr s 0 (A.length:Int)=A:=by rw [sub_take,<-hA];simp
   have e2:subStr s (lwrap .i64 ((A.length:Int)+1)) ((s.length:Nat):Int)=C:=by rw [hw,sub_drop,<-hA];simp
   have hp:partsF s=(A,C,true):=by unfold partsF;rw [hcut]
   have ok:parseOk s=(digitsF A 1 12&&digitsF C 1 4):=by unfold parseOk;rw [hp];simp [digitsF]
   rw [e1,e2]
   refine fun hI=>⟨_,s238 A (by omega) 1 12 H,Ret.use ⟨_,rfl⟩,fun b11 H12 ⟨e11,_⟩=>⟨fun h hI=>⟨?_,hI.pres⟩,fun h1 hI=>⟨_,s238 C (by omega) 1 4 H12,Ret.use ⟨_,rfl⟩,fun b14 H15 ⟨e14,_⟩=>⟨fun h hI=>⟨?_,hI.pres⟩,fun h2 d16=> ?_⟩⟩⟩⟩
   ·cases e11
    have:digitsF A 1 12=false:=by simpa using h
    unfold parseL;rw [ok,this];rfl
   ·cases e11;cases e14
    have:digitsF C 1 4=false:=by simpa using h
    unfold parseL;rw [ok,this,Bool.and_false];rfl
   ·cases e11;cases e14
    have k1:digitsF A 1 12=true:=by simpa using h1
    have k2:digitsF C 1 4=true:=by simpa using h2
    have hv:parseL s=toldL ((decF A 0:Int)*10000+(decF C 0:Int)*10 ^ (4-C.length)):=by
     unfold parseL parseV;rw [ok,k1,k2,hp];rfl
    have j1:digs A=true/\A.length<=12:=by
     unfold digitsF at k1
     simp only [Bool.and_eq_true,decide_eq_true_eq] at k1
     exact ⟨k1.1,by omega⟩
    have j2:digs C=true/\C.length<=4:=by
     unfold digitsF at k2
     simp only [Bool.and_eq_true,decide_eq_true_eq] at k2
     exact ⟨k2.1,by omega⟩
    have:=loop154_1 A C j1 j2 H0 _ hv.symm (4-C.length) 0 (by omega) d16 H15
    simpa using this
theorem s154(s:List UInt8)(hs:s.length<=1000)(hh:s.head?≠some 45)(H:LHeap):CallL cfg 154 [.str s] H (Ret (parseL s) H):=by
 have start:∀d H',GoesT cfg 154 (Ret (parseL s) H) [] H [] (L154t_0 d false s 0 [] s false) (loopAt cfg 154 0) H':=fun d H'=>by
  have:=loop154_0 s hs H s [] d H' rfl (by cases cutF 46 s with |none=>rfl |some p=>simp)
  simpa using this
 refine e154t _ s H ⟨fun h=>⟨⟨by omega,by simp at h;omega⟩,fun h45=> ?_,fun h45 d4=> ?_⟩,fun h d5=>start d5 H⟩
 ·cases s with
  |nil=>simp at h
  |cons b t=>
   have:b=45:=by
    have h2:byteAt (b::t) 0=(b.toNat:Int):=byteAt_app [] b t
    rw [h2] at h45
    simp at h45
    exact UInt8.toNat_inj.1 (by show b.toNat=45;omega)
   rw [this] at hh
   simp at hh
 ·rw [h45];exact start d4 H
theorem x157(n:Int)(H:LHeap):CallL cfg 157 [.int .u8 n] H (Ret (.bool (letF n)) H):=by
 refine e157t _ n H ⟨fun h1=>⟨fun h2 hI=>⟨?_,hI.pres⟩,fun h2=>⟨fun h3 hI=>⟨?_,hI.pres⟩,fun h3 hI=>⟨?_,hI.pres⟩⟩⟩,fun h1=>⟨fun h3 hI=>⟨?_,hI.pres⟩,fun h3 hI=>⟨?_,hI.pres⟩⟩⟩
 all_goals
  simp only [ge_iff_le] at*
  simp [letF, *]
theorem x153(n:Int)(H:LHeap):CallL cfg 153 [.int .u8 n] H (Ret (.bool (digF n)) H):=by
 refine e153t _ n H ⟨fun h1 hI=>⟨?_,hI.pres⟩,fun h1 hI=>⟨?_,hI.pres⟩⟩
 all_goals
  simp only [ge_iff_le] at*
  simp [digF, *]
def truthF(s:List UInt8):Int:=if s.map upB==[84,82,85,69] then 1 else if s.map upB==[70,65,76,83,69] then 0 else -1
theorem x182(s:List UInt8)(hs:s.length<=1000)(H:LHeap):CallL cfg 182 [.str s] H (Ret (.int .i64 (truthF s)) H):=by
 refine e182t _ s H fun hI=>⟨_,s252 s H (by omega),Ret.use ⟨_,rfl⟩,fun s2 H3 ⟨e,_⟩=>⟨fun h hI=>⟨?_,hI.pres⟩,fun h=>⟨fun h2 hI=>⟨?_,hI.pres⟩,fun h2 hI=>⟨?_,hI.pres⟩⟩⟩⟩
 all_goals cases e;simp only [truthF, *,if_true,Bool.false_eq_true,if_false]
theorem scanF_start:∀(s:List UInt8) (k:Nat),scanF s k=(scanF s 0).map (·+k)
 |[],k=>by simp [scanF]
 |b::s,k=>by
  unfold scanF
  split
  ·rw [scanF_start s (k+1),scanF_start s (0+1)]
   cases scanF s 0<;>simp;omega
  ·split
   ·rw [scanF_start s k]
   ·rfl
theorem scanF_le:∀(s:List UInt8) (k:Nat),scanF s 0=some k->k<=s.length
 |[],k,h=>by simp [scanF] at h;omega
 |b::s,k,h=>by
  unfold scanF at h
  rw [List.length_cons]
  split at h
  ·rw [scanF_start] at h
   cases hs:scanF s 0 with
   |none=>rw [hs] at h;simp at h
   |some j=>
    rw [hs] at h
    simp at h
    have:=scanF_le s j hs
    omega
  ·split at h
   ·have:=scanF_le s k h;omega
   ·cases h
def othF:List UInt8->Bool->Bool
 |[],o=>o
 |b::s,o=>if letF (b.toNat:Int)||digF (b.toNat:Int)||(b.toNat:Int)==95 then othF s (o|| !digF (b.toNat:Int)) else false
theorem othF_scan:∀(s:List UInt8) (o:Bool),othF s o=(match scanF s 0 with |none=>false |some k=>o||decide (k<s.length))
 |[],o=>by simp [othF,scanF]
 |b::s,o=>by
  unfold othF scanF
  cases hd:digF (b.toNat:Int) with
  |true=>
   simp only [Bool.or_true,Bool.true_or,if_true,Bool.not_true,Bool.or_false]
   rw [othF_scan s o,scanF_start s (0+1)]
   cases scanF s 0<;>simp
  |false=>
   simp only [Bool.or_false,Bool.not_false,Bool.or_true,Bool.false_eq_true,if_false]
   split
   ·rw [othF_scan s true]
    cases hk:scanF s 0 with
    |none=>rfl
    |some k=>
     have:=scanF_le s k hk
     simp;omega
   ·rfl
theorem letF_dig{n:Int}(h:letF n=true):digF n=false:=by
 unfold letF at h
 unfold digF
 simp at h
 simp;omega
theorem nameF_oth(b:UInt8)(t:List UInt8)(h16:(b::t).length<=16)(hl:letF (b.toNat:Int)=true)(ht:truthF (b::t)<0):nameF (b::t)=othF t ((((b::t).length:Nat):Int)==1):=by
 unfold nameF
 simp only
 rw [if_neg (by omega),hl,if_pos rfl,othF_scan]
 have hd:=letF_dig hl
 have hsc:scanF (b::t) 0=scanF t 0:=by
  conv=>lhs;unfold scanF
  rw [hd,hl]
  simp
 rw [hsc]
 cases hk:scanF t 0 with
 |none=>rfl
 |some k=>
  have hkl:=scanF_le t k hk
  have t1:((b::t).map upB==[84,82,85,69])=false:=by
   cases h:((b::t).map upB==[84,82,85,69]) with
   |false=>rfl
   |true=>unfold truthF at ht;rw [h] at ht;simp at ht
  have t2:((b::t).map upB==[70,65,76,83,69])=false:=by
   cases h:((b::t).map upB==[70,65,76,83,69]) with
   |false=>rfl
   |true=>unfold truthF at ht;rw [t1,h] at ht;simp at ht
  simp only [t1,t2]
  rw [List.length_cons] at h16
  rw [lwrap_small (by rw [List.length_cons];omega) (by rw [List.length_cons];omega)]
  simp only [Bool.not_false,Bool.true_and,List.length_cons]
  rw [Bool.eq_iff_iff]
  simp
  omega
theorem nameF_truth{s:List UInt8}(h:0<=truthF s):nameF s=false:=by
 unfold nameF
 cases s with
 |nil=>rfl
 |cons b t=>
  simp only
  split
  ·rfl
  ·split
   ·split
    ·rfl
    ·unfold truthF at h
     split at h
     ·rename_i h1;rw [h1];rfl
     ·split at h
      ·rename_i h1;rw [h1];simp
      ·omega
   ·rfl
theorem loop97x(s:List UInt8)(hs:s.length<=16)(H0:LHeap)(r:Bool):∀(C A:List UInt8) (o:Bool) (d:Nat->LV) (H:LHeap),A++C=s->othF C o=r->
  GoesT cfg 97 (Ret (.bool r) H0) [] H0 [] (L97t_0 d (A.length:Int) o s) (loopAt cfg 97 0) H
 |[],A,o,d,H,hA,hr=>by
  intro hin hI
  rw [List.append_nil] at hA
  subst hA
  unfold othF at hr
  refine g97t_0 _ H0 d A.length o A H ⟨fun h=> ?_,fun _ hI=>⟨by rw [hr],hI.pres⟩⟩ hin hI
  simp at h
 |b::C,A,o,d,H,hA,hr=>by
  intro hin hI
  have hl:A.length+(C.length+1)=s.length:=by rw [<-hA];simp
  have hb:byteAt s (A.length:Int)=(b.toNat:Int):=by rw [<-hA];exact byteAt_app A b C
  have hi:lwrap .i64 ((A.length:Int)+1)=(((A++[b]).length:Nat):Int):=by rw [lwrap_small (by omega) (by omega)];simp
  have rg:(0:Int)<=(A.length:Int)/\(A.length:Int)<((s.length:Nat):Int):=by omega
  have c157:∀H',CallL cfg 157 [.int .u8 (byteAt s (A.length:Int))] H' (Ret (.bool (letF (b.toNat:Int))) H'):=fun H'=>by rw [hb];exact x157 _ H'
  have c153:∀H',CallL cfg 153 [.int .u8 (byteAt s (A.length:Int))] H' (Ret (.bool (digF (b.toNat:Int))) H'):=fun H'=>by rw [hb];exact x153 _ H'
  have next:(letF (b.toNat:Int)||digF (b.toNat:Int)||(b.toNat:Int)==95)=true->∀(o':Bool) (d':Nat->LV) (H':LHeap),o'=(o|| !digF (b.toNat:Int))->GoesT cfg 97 (Ret (.bool r) H0) [] H0 [] (L97t_0 d' (lwrap .i64 ((A.length:Int)+1)) o' s) (loopAt cfg 97 0) H':=by
   intro hok o' d' H' ho
   unfold othF at hr
   rw [if_pos hok] at hr
   rw [hi]
   exact loop97x s hs H0 r C (A++[b]) o' d' H' (by rw [<-hA];simp) (by rw [ho];exact hr)
  refine g97t_0 _ H0 d A.length o s H ⟨fun h=>⟨rg,fun hI=>⟨_,c157 H,Ret.use ⟨_,rfl⟩,fun b5 H6 ⟨e5,_⟩=>⟨fun h5=>⟨rg,fun hI=>⟨_,c153 H6,Ret.use ⟨_,rfl⟩,fun b9 H10 ⟨e9,_⟩=>⟨fun h9=>⟨rg,fun h95 hI=>⟨?bad,hI.pres⟩,fun h95=>⟨fun ho d=> ?a1,fun ho=>⟨rg,fun hI=>⟨_,c153 H10,Ret.use ⟨_,rfl⟩,fun b15 H16 ⟨e15,_⟩ d=> ?a2⟩⟩⟩⟩,fun h9=>⟨fun ho d=> ?a3,fun ho=>⟨rg,fun hI=>⟨_,c153 H10,Ret.use ⟨_,rfl⟩,fun b15 H16 ⟨e15,_⟩ d=> ?a4⟩⟩⟩⟩⟩⟩,fun h5=>⟨fun ho d=> ?a5,fun ho=>⟨rg,fun hI=>⟨_,c153 H6,Ret.use ⟨_,rfl⟩,fun b15 H16 ⟨e15,_⟩ d=> ?a6⟩⟩⟩⟩⟩⟩,fun h=> ?ge⟩ hin hI
  case ge=>simp at h;omega
  all_goals cases e5
  case bad=>
   cases e9
   rw [hb] at h95
   simp at h5 h9 h95
   unfold othF at hr
   rw [if_neg (by simp [h5,h9];exact h95)] at hr
   rw [<-hr]
  case a1=>cases e9;rw [hb] at h95;simp at h95;refine next (by simp [h95]) _ d _ (by rw [ho];rfl)
  case a2=>cases e9;cases e15;rw [hb] at h95;simp at h95;refine next (by simp [h95]) _ d _ (by rw [ho];rfl)
  case a3=>cases e9;simp at h9;refine next (by simp [h9]) _ d _ (by rw [ho];rfl)
  case a4=>cases e9;cases e15;simp at h9;refine next (by simp [h9]) _ d _ (by rw [ho];rfl)
  case a5=>simp at h5;refine next (by simp [h5]) _ d _ (by rw [ho];rfl)
  case a6=>cases e15;simp at h5;refine next (by simp [h5]) _ d _ (by rw [ho];rfl)
theorem x97(s:List UInt8)(H:LHeap):CallL cfg 97 [.str s] H (Ret (.bool (nameF s)) H):=by
 have no:∀{H':LHeap},nameF s=false->PresX [] H H'->Ret (.bool (nameF s)) H (.bool false) H':=fun h p=>⟨by rw [h],p⟩
 refine e97t _ s H ⟨fun h hI=>no ?_ hI.pres,fun h1=>⟨fun h hI=>no ?_ hI.pres,fun h16=>⟨⟨by omega,by simp at h1;omega⟩,fun hI=> ?_⟩⟩⟩
 ·cases s with
  |nil=>rfl
  |cons b t=>simp at h;omega
 ·cases s with
  |nil=>simp at h
  |cons b t=>unfold nameF;simp only;rw [if_pos (by simp at h |-;omega)]
 ·cases s with
  |nil=>simp at h1
  |cons b t=>
   have hs16:(b::t).length<=16:=by simp at h16 |-;omega
   have hb:byteAt (b::t) 0=(b.toNat:Int):=byteAt_app [] b t
   rw [hb]
   refine ⟨_,x157 _ H,Ret.use ⟨_,rfl⟩,fun b3 H4 ⟨e,_⟩=>⟨fun h3 hI=>no ?_ hI.pres,fun h3 hI=>⟨_,x182 (b::t) (by omega) H4,Ret.use ⟨_,rfl⟩,fun n6 H7 ⟨e6,_⟩=>⟨fun h6 hI=>no ?_ hI.pres,fun h6 d8=> ?_⟩⟩⟩⟩
   ·cases e
    have h3':letF (b.toNat:Int)=false:=by simpa using h3
    unfold nameF
    simp only
    rw [if_neg (by omega),h3']
    rfl
   ·cases e6
    exact nameF_truth (by simpa using h6)
   ·cases e;cases e6
    have h3':letF (b.toNat:Int)=true:=by simpa using h3
    rw [nameF_oth b t hs16 h3' (by simpa using h6)]
    exact loop97x (b::t) hs16 H _ t [b] _ d8 H7 rfl rfl
def zeroR:RefC:=⟨[],[],0,0,false,false⟩
def cellL:Option RefC->LV
 |some r=>.tuple [r.lv,.bool true]
 |none=>.tuple [zeroR.lv,.bool false]
theorem cellL_sh(o:Option RefC):hasSh (.tuple [(.cust RefC RefC.lv),.bool]) (cellL o):=by
 cases o with
 |none=>exact ⟨_,_,rfl⟩
 |some r=>exact ⟨_,_,rfl⟩
def colF(c:UInt8):Int:=if 97<=c.toNat then (c.toNat:Int)-96 else (c.toNat:Int)-64
def okRow(s:List UInt8):Bool:=digs s&&(decide (s.length<=2)&& !(s.head? ==some 48))
def restF(col:Int)(fc:Bool)(s:List UInt8)(fr:Bool):Option RefC:=if okRow s&&inF (decF s 0:Int) col then some ⟨[],[],(decF s 0:Int),col,fr,fc⟩ else none
def cellF(s:List UInt8):Option RefC:=
 match (cutP s [36]).1 with
 |[]=>none
 |c::t=>if letF (c.toNat:Int) then restF (colF c) (cutP s [36]).2 (cutP t [36]).1 (cutP t [36]).2 else none
theorem s280(s:List UInt8)(H:LHeap):CallL cfg 280 [.str s] H (Ret (.tuple [.str (cutP s [36]).1,.bool (cutP s [36]).2]) H):=
 e280t _ s H fun hI=>⟨_,s130 s [36] H,Ret.use ⟨_,_,rfl⟩,fun s2 b H3 ⟨e,_⟩ hI=>⟨e,hI.pres⟩⟩
theorem cutP_le(s p:List UInt8):(cutP s p).1.length<=s.length:=by
 unfold cutP
 split
 ·simp
 ·exact Nat.le_refl _
theorem colF_or(c:UInt8)(h:letF (c.toNat:Int)=true):lwrap .i64 (lwrap .i64 (lwrap .u8 ((IntKind.wrap .u8 (((BitVec.toNat (HOr.hOr (BitVec.ofInt 8 (c.toNat:Int)) (BitVec.ofInt 8 (32:Int)))):Nat):Int))-(97:Int)))+1)=colF c:=by
 have key:∀n:Fin 256,letF ((n.val:Nat):Int)=true->lwrap .i64 (lwrap .i64 (lwrap .u8 ((IntKind.wrap .u8 (((BitVec.toNat (HOr.hOr (BitVec.ofInt 8 ((n.val:Nat):Int)) (BitVec.ofInt 8 (32:Int)))):Nat):Int))-(97:Int)))+1)=(if 97<=n.val then ((n.val:Nat):Int)-96 else ((n.val:Nat):Int)-64):=by decide +kernel
 exact key ⟨c.toNat,u8_lt256 c⟩ h
theorem loop236(s:List UInt8)(hs:s.length<=1000)(col:Int)(fr fc:Bool)(H0:LHeap)(i7:Nat)(x8:RefC):∀(C A:List UInt8) (d:Nat->LV) (H:LHeap),A++C=s->digs A=true->A.length<=2->(A=[]\/s.head?≠some 48)->
  GoesT cfg 236 (Ret (cellL (restF col fc s fr)) H0) [] H0 [⟨i7,x8.cs,69⟩] (L236t_0 d (A.length:Int) (decF A 0:Int) s col fr fc ((s.length:Nat):Int)) (loopAt cfg 236 0) H
 |[],A,d,H,hA,hd,h2,h48=>by
  intro hin hI
  rw [List.append_nil] at hA
  subst hA
  refine g236t_0 _ H0 d A.length (decF A 0) A col fr fc A.length i7 x8 H ⟨fun h=> ?_,fun _ i19 H20 _ _ H21 _ hI=>⟨_,s281 (decF A 0) col H21,Ret.use ⟨_,rfl⟩,fun b23 H24 ⟨e,_⟩=>⟨fun h H25 _ hI=>⟨?_,hI.pres⟩,fun h H26 _ hI=>⟨?_,hI.pres⟩⟩⟩⟩ hin hI
  ·simp at h
  ·cases e
   have:inF (decF A 0:Int) col=false:=by simpa using h
   unfold restF;rw [this,Bool.and_false];rfl
  ·cases e
   have hin':inF (decF A 0:Int) col=true:=by simpa using h
   have hok:okRow A=true:=by
    rcases h48 with h |h
    ·subst h
     exfalso
     revert hin'
     unfold inF
     simp [decF]
    ·unfold okRow;rw [hd,decide_eq_true h2];simpa using h
   unfold restF;rw [hin',hok];rfl
 |b::C,A,d,H,hA,hd,h2,h48=>by
  intro hin hI
  have hb:byteAt s (A.length:Int)=(b.toNat:Int):=by rw [<-hA];exact byteAt_app A b C
  have hl:A.length+(C.length+1)=s.length:=by rw [<-hA];simp
  have rg:(0:Int)<=(A.length:Int)/\(A.length:Int)<((s.length:Nat):Int):=by omega
  have bad:∀{H':LHeap},okRow s=false->PresX [] H0 H'->Ret (cellL (restF col fc s fr)) H0 (.tuple [.agg [.str [],.str [],.int .i64 0,.int .i64 0,.bool false,.bool false],.bool false]) H':=fun h p=>⟨by unfold restF;rw [h];rfl,p⟩
  have h0:(byteAt s 0==48)=(s.head? ==some 48):=by
   cases s with
   |nil=>simp at hl
   |cons c t=>
    rw [show byteAt (c::t) 0=(c.toNat:Int) from byteAt_app [] c t]
    rw [Bool.eq_iff_iff]
    simp only [List.head?_cons,beq_iff_eq,Option.some.injEq]
    constructor
    ·intro h;exact UInt8.toNat_inj.1 (by show c.toNat=48;omega)
    ·intro h;rw [h];rfl
  have c174:CallL cfg 174 [.int .u8 (byteAt s (A.length:Int))] H (Ret (.bool (digF (b.toNat:Int))) H):=by rw [hb];exact s174 _ H
  refine g236t_0 _ H0 d A.length (decF A 0) s col fr fc s.length i7 x8 H ⟨fun h=>⟨rg,fun hI=>⟨_,c174,Ret.use ⟨_,rfl⟩,fun b11 H12 ⟨e,_⟩=>⟨fun h11 H13 _ hI=>bad ?_ hI.pres,fun h11=>⟨fun h1 H14 _ hI=>bad ?_ hI.pres,fun h1=>⟨⟨by omega,by omega⟩,fun h48' H16 _ hI=>bad ?_ hI.pres,fun h48'=>⟨rg,fun d18=> ?_⟩⟩⟩⟩⟩⟩,fun h=> ?ge⟩ hin hI
  case ge=>simp at h;omega
  ·cases e
   have:digF (b.toNat:Int)=false:=by simpa using h11
   unfold okRow
   have:digs s=false:=by rw [<-hA,digs_app];simp [digs,this]
   rw [this];rfl
  ·simp at h1
   unfold okRow
   rw [decide_eq_false (show ¬s.length<=2 by omega)]
   simp
  ·rw [h0] at h48'
   unfold okRow;rw [h48'];simp
  ·cases e
   have hdb:digF (b.toNat:Int)=true:=by simpa using h11
   simp at h1
   have hb2:48<=b.toNat/\b.toNat<=57:=by simp [digF] at hdb;omega
   have hlt:=decF_lt A 0 hd
   have hp:10 ^ A.length<=10 ^ 2:=Nat.pow_le_pow_right (by omega) h2
   have e1:lwrap .u8 ((b.toNat:Int)-48)=(b.toNat:Int)-48:=by
    rw [lwrap_eq]
    simp only [IntKind.wrap,IntKind.signed,IntKind.bits,Bool.false_and,Bool.false_eq_true,if_false]
    omega
   rw [hb,e1,lwrap_small (n:=(10:Int)*(decF A 0:Int)) (by omega) (by omega),lwrap_small (n:=(b.toNat:Int)-48) (by omega) (by omega),lwrap_small (n:=(10:Int)*(decF A 0:Int)+((b.toNat:Int)-48)) (by omega) (by omega),lwrap_small (n:=(A.length:Int)+1) (by omega) (by omega)]
   have hdec:(10:Int)*(decF A 0:Int)+((b.toNat:Int)-48)=(decF (A++[b]) 0:Int):=by
    rw [decF_app]
    show _=((10*decF A 0+(b.toNat-48):Nat):Int)
    omega
   rw [hdec,show (A.length:Int)+1=(((A++[b]).length:Nat):Int) by simp]
   exact loop236 s hs col fr fc H0 i7 x8 C (A++[b]) d18 H12 (by rw [<-hA];simp) (by rw [digs_app,hd];simp [digs,hdb]) (by simp;omega) (.inr (by rw [h0] at h48';simpa using h48'))
theorem s236(s:List UInt8)(hs:s.length<=1000)(H:LHeap):CallL cfg 236 [.str s] H (Ret (cellL (cellF s)) H):=by
 have bad:∀{H':LHeap},cellF s=none->PresX [] H H'->Ret (cellL (cellF s)) H (.tuple [.agg [.str [],.str [],.int .i64 0,.int .i64 0,.bool false,.bool false],.bool false]) H':=fun h p=>⟨by rw [h];rfl,p⟩
 refine e236t _ s H fun i1 H2 _ _ hI=>⟨_,s280 s H2,Ret.use ⟨_,_,rfl⟩,fun s4 b5 H6 ⟨e,_⟩=> ?_⟩
 simp only [LV.tuple.injEq,List.cons.injEq,LV.str.injEq,LV.bool.injEq,and_true] at e
 obtain ⟨e1,e2⟩:=e
 have hl:=cutP_le s [36]
 rw [<-e1] at hl
 refine ⟨fun h H7 _ hI=>bad ?_ hI.pres,fun h=> ?_⟩
 ·have:s4=[]:=by simpa using h
  unfold cellF;rw [<-e1,this]
 ·cases s4 with
  |nil=>cases h
  |cons c t=>
   have hb:byteAt (c::t) 0=(c.toNat:Int):=byteAt_app [] c t
   rw [hb]
   rw [List.length_cons] at hl
   refine ⟨⟨by omega,by simp⟩,fun hI=>⟨_,s173 _ H6,Ret.use ⟨_,rfl⟩,fun b10 H11 ⟨e10,_⟩=>⟨fun h10 H12 _ hI=>bad ?_ hI.pres,fun h10=>⟨⟨by omega,by simp⟩,⟨by omega,by simp;omega,by omega⟩,fun hI=>⟨_,s280 _ H11,Ret.use ⟨_,_,rfl⟩,fun s16 b17 H18 ⟨e16,_⟩ d19=> ?_⟩⟩⟩⟩⟩
   ·cases e10
    have:letF (c.toNat:Int)=false:=by simpa using h10
    unfold cellF;rw [<-e1];simp only;rw [this];rfl
   ·cases e10
    have hlet:letF (c.toNat:Int)=true:=by simpa using h10
    simp only [LV.tuple.injEq,List.cons.injEq,LV.str.injEq,LV.bool.injEq,and_true] at e16
    obtain ⟨e3,e4⟩:=e16
    rw [sub_drop1] at e3 e4
    simp only [List.drop_succ_cons,List.drop_zero] at e3 e4
    have hc:cellF s=restF (colF c) b5 s16 b17:=by
     unfold cellF;rw [<-e1];simp only;rw [hlet,if_pos rfl,<-e2,e3,e4]
    rw [hc,colF_or c hlet]
    have hl2:=cutP_le t [36]
    rw [<-e3] at hl2
    exact loop236 s16 (by omega) (colF c) b17 b5 H i1 zeroR s16 [] d19 H18 rfl rfl (by simp) (.inl rfl)
end Go.Proofs.YtjihhflffkoffaaGreatDoor.Z
