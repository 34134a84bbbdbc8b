/- Contracts of functions of the program; no condition. -/
import Derived.Test.YtjihhflffkoffaaGreatDoorG7
import Derived.Test.YtjihhflffkoffaaGreatDoorG0
import Derived.Test.YtjihhflffkoffaaGreatDoorLe
set_option linter.unusedSimpArgs false
set_option linter.unusedVariables false
set_option linter.unusedSectionVars false
set_option linter.unnecessarySimpa false
namespace Go.Proofs.YtjihhflffkoffaaGreatDoor.Z
open Go Go.Lm
set_option maxRecDepth 1000000
set_option maxHeartbeats 0
def opCells:List LV:=[.int .u8 43,.int .u8 45,.int .u8 42,.int .u8 47,.int .u8 94,.int .u8 38,.int .u8 61,.int .u8 60,.int .u8 62,.int .u8 37,.int .u8 40,.int .u8 41,.int .u8 44,.int .u8 58]
theorem loop76_3(c:UInt8)(s:List UInt8)(hs:1<=s.length)(hd:s.take 1=[c])(H0:LHeap)(i:Nat)(r:Nat)(R0:Option (TokC×Nat)):∀(C A:List UInt8) (d:Nat->LV) (H:LHeap),A++C=OPS->r<H.next->H.get r=some (.cells opCells 5 14 14 .mark false true)->
  R0=(if (cutF c C).isSome then some (opT [c],1) else none)->
  GoesT cfg 76 (Ret (tokL R0) H0) [] H0 [⟨i,zeroT.cs,127⟩] (L76t_3 d s (A.length:Int) (c.toNat:Int) (some ⟨r,14,0⟩) 14 (.exact 14) ((14:Nat):Int)) (loopAt cfg 76 3) H
 |[],A,d,H,hA,hr,hg,hR=>by
  intro hin hI
  have hl:A.length=14:=by have:=congrArg List.length hA;simpa [OPS] using this
  refine g76t_3 _ H0 d s A.length c.toNat (some ⟨r,14,0⟩) 14 (.exact 14) ((14:Nat):Int) i zeroT H ⟨fun h=>(by rw [hl] at h;simp at h),fun _ H15 _ hI=>⟨by rw [hR];rfl,hI.pres⟩⟩ hin hI
 |b::C,A,d,H,hA,hr,hg,hR=>by
  intro hin hI
  have hl:A.length+(C.length+1)=14:=by have:=congrArg List.length hA;simpa [OPS] using this
  have hb:OPS[A.length]? =some b:=by rw [<-hA,List.getElem?_append_right (Nat.le_refl _)];simp
  have hcell:nth opCells A.length=some (.int .u8 (b.toNat:Int)):=by
   rw [nth_eq]
   have:opCells=OPS.map fun b=>LV.int .u8 (b.toNat:Int):=rfl
   rw [this,List.getElem?_map,hb];rfl
  refine g76t_3 _ H0 d s A.length c.toNat (some ⟨r,14,0⟩) 14 (.exact 14) ((14:Nat):Int) i zeroT H ⟨fun _=>⟨⟨by omega,by omega,rfl⟩,fun _=>⟨(b.toNat:Int),?ld,fun he=>⟨by omega,fun H13 _ hI=>⟨?_,hI.pres⟩⟩,fun he d14=> ?_⟩⟩,fun h=>(by simp at h;omega)⟩ hin hI
  case ld=>
   unfold loadT
   rw [show isAggT cfg.P 5=some false by kernel_rfl]
   show load1 H ⟨r,14,0+(A.length:Int).toNat*1⟩=_
   unfold load1
   simp only [hg,Int.toNat_natCast,Nat.mul_one,Nat.zero_add]
   rw [if_pos (by simp only [Bool.and_eq_true,Nat.ble_eq];omega)]
   exact hcell
  ·have hbc:b=c:=UInt8.toNat_inj.1 (by have:=eq_of_beq he;omega)
   subst hbc
   rw [hR,cutF_cons,beq_self_eq_true,if_pos rfl]
   rw [show (1:Int)=((1:Nat):Int) from rfl,sub_take,hd]
   rfl
  ·have hbc:(b==c)=false:=by
    rw [beq_eq_false_iff_ne] at he |-
    intro e;subst e;exact he rfl
   rw [lwrap_small (by omega) (by omega),show (A.length:Int)+1=(((A++[b]).length:Nat):Int) by simp]
   refine loop76_3 c s hs hd H0 i r R0 C (A++[b]) d14 H (by rw [<-hA];simp) hr hg ?_
   have:(cutF c (b::C)).isSome=(cutF c C).isSome:=by
    rw [cutF_cons,hbc]
    cases cutF c C<;>rfl
   rw [hR,this]
def TWOS:List (List UInt8):=[[60,62],[60,61],[62,61]]
theorem twos_0:indexL cfg.P 216 (NameC.mk [60,62] [60,61] [62,61]).lv (.int .i64 ((0:Nat):Int))=some (.str [60,62]):=by kernel_rfl
theorem twos_1:indexL cfg.P 216 (NameC.mk [60,62] [60,61] [62,61]).lv (.int .i64 ((1:Nat):Int))=some (.str [60,61]):=by kernel_rfl
theorem twos_2:indexL cfg.P 216 (NameC.mk [60,62] [60,61] [62,61]).lv (.int .i64 ((2:Nat):Int))=some (.str [62,61]):=by kernel_rfl
theorem twos_at(k:Nat)(x:List UInt8)(h:TWOS[k]? =some x):indexL cfg.P 216 (NameC.mk [60,62] [60,61] [62,61]).lv (.int .i64 (k:Int))=some (.str x):=by
 have:k<3:=by
  have:=(List.getElem?_eq_some_iff.1 h).1
  simpa [TWOS] using this
 have hk:k=0\/k=1\/k=2:=by omega
 rcases hk with rfl |rfl |rfl
 ·rw [<-Option.some.inj h];exact twos_0
 ·rw [<-Option.some.inj h];exact twos_1
 ·rw [<-Option.some.inj h];exact twos_2
theorem loop76_2(c:UInt8)(s:List UInt8)(hs:1<=s.length)(hd:s.take 1=[c])(H0:LHeap)(i:Nat)(R0:Option (TokC×Nat)):∀(l:List (List UInt8)) (k:Nat) (d:Nat->LV) (H:LHeap),TWOS.drop k=l->
  R0=(if l.any (fun x=>s.take 2==x) then some (opT (s.take 2),2) else if (cutF c OPS).isSome then some (opT [c],1) else none)->
  GoesT cfg 76 (Ret (tokL R0) H0) [] H0 [⟨i,zeroT.cs,127⟩] (L76t_2 d (k:Int) s (NameC.mk [60,62] [60,61] [62,61]) (c.toNat:Int)) (loopAt cfg 76 2) H
 |[],k,d,H,hl,hR=>by
  intro hin hI
  have h3:3<=k:=by
   have:=congrArg List.length hl
   simp [TWOS] at this;omega
  have hi:=(hI.slot 0 _ rfl).1
  refine g76t_2 _ H0 d k s _ c.toNat i zeroT H ⟨fun h=>(by simp at h;omega),fun _ H12 e12 _=>⟨some ⟨H.next,14,0⟩,14,.exact 14,[H.next],H12.put H.next (.cells opCells 5 14 14 .mark false true),⟨?_,.put _ _ _,fun j hj=> ?_⟩,fun d17=> ?_⟩⟩ hin hI
  ·have:convertL cfg.P H12 155 155 (.slice (some ⟨H.next,14,0⟩) 14 (.exact 14))=some (.slice (some ⟨H.next,14,0⟩) 14 (.exact 14),H12.put H.next (.cells opCells 5 14 14 .mark false true)):=by
    unfold convertL
    rw [show cfg.P.underlying 155=some (.slice 5) by kernel_rfl]
    simp only [show cfg.P.underlying 5=some (.int .u8) by kernel_rfl,Nat.beq_refl,if_true]
    rw [e12,LHeap.get_push,if_pos rfl]
    rfl
   show (match convertL cfg.P H12 155 155 (.slice (some ⟨H.next,14,0⟩) 14 (.exact 14)) with |some (x,H')=>some [(LNext.value x,H')] |none=>none)=_
   rw [this]
  ·rw [List.mem_singleton.1 hj]
   exact okId_box (.inr hI.pres.next) (fun e=>Nat.lt_irrefl _ (by rw [<-e] at hi;exact hi))
  ·refine loop76_3 c s hs hd H0 i H.next R0 OPS [] d17 _ rfl ?_ ?_ (by rw [hR];rfl)
   ·show H.next<H12.next
    rw [e12];exact Nat.lt_succ_self _
   ·rw [LHeap.get_put,if_pos rfl]
 |x::l,k,d,H,hl,hR=>by
  intro hin hI
  have h3:k<3:=by
   have:=congrArg List.length hl
   simp [TWOS] at this;omega
  have hx:TWOS[k]? =some x:=by
   have:=congrArg (fun l=>l[0]?) hl
   simpa using this
  have hx2:x.length=2:=by
   have hk:k=0\/k=1\/k=2:=by omega
   rcases hk with rfl |rfl |rfl<;>(rw [<-Option.some.inj hx];rfl)
  have hl':TWOS.drop (k+1)=l:=by rw [<-List.drop_drop,hl];rfl
  rw [List.any_cons] at hR
  have e2:subStr s 0 2=s.take 2:=by rw [show (2:Int)=((2:Nat):Int) from rfl,sub_take]
  have next:(s.take 2==x)=false->∀d,GoesT cfg 76 (Ret (tokL R0) H0) [] H0 [⟨i,zeroT.cs,127⟩] (L76t_2 d (lwrap .i64 ((k:Int)+1)) s (NameC.mk [60,62] [60,61] [62,61]) (c.toNat:Int)) (loopAt cfg 76 2) H:=by
   intro hn d
   rw [lwrap_small (by omega) (by omega)]
   exact loop76_2 c s hs hd H0 i R0 l (k+1) d H hl' (by rw [hR,hn,Bool.false_or])
  refine g76t_2 _ H0 d k s _ c.toNat i zeroT H ⟨fun _=>⟨x,twos_at k x hx,fun hlen=>⟨by simp at hlen;omega,fun he H16 _ hI=>⟨?_,hI.pres⟩,fun he d17=>next ?_ d17⟩,fun hlen d18=>next ?_ d18⟩,fun h=>(by simp at h;omega)⟩ hin hI
  ·rw [e2] at he
   rw [hR,he,Bool.true_or,if_pos rfl]
   have hx':=eq_of_beq he
   rw [<-hx'];rfl
  ·rw [e2] at he
   exact he
  ·rw [beq_eq_false_iff_ne]
   intro e
   have:=congrArg List.length e
   rw [List.length_take] at this
   simp at hlen;omega
def oneF:List UInt8->Option (TokC×Nat)
 |[]=>none
 |c::t=>if digF (c.toNat:Int) then numTF (c::t) else if (c.toNat:Int)==34 then quotedF (c::t) else if (c.toNat:Int)==35 then faultF (c::t)
  else if (c.toNat:Int)==91||((c.toNat:Int)==36||letF (c.toNat:Int)) then namedF (c::t) else opF (c::t)
theorem s156(H:LHeap):CallL cfg 156 [] H (Ret NAG H):=e156t _ H fun i0 H1 _ _ H2 _ hI=>⟨rfl,hI.pres⟩
theorem tok_cs{x:TokC}{n:Int}{o:Option (TokC×Nat)}{H H':LHeap}(h:LV.tuple [x.lv,.int .i64 n]=tokL o)(p:PresX [] H H'):Ret (tokL o) H (.tuple [x.lv,.int .i64 n]) H':=⟨h,p⟩
theorem s76(c:UInt8)(t:List UInt8)(hs:(c::t).length<=1000)(H:LHeap):CallL cfg 76 [.str (c::t)] H (Ret (tokL (oneF (c::t))) H):=by
 have hb:byteAt (c::t) 0=(c.toNat:Int):=byteAt_app [] c t
 have h1:oneF (c::t)=if digF (c.toNat:Int) then numTF (c::t) else if (c.toNat:Int)==34 then quotedF (c::t) else if (c.toNat:Int)==35 then faultF (c::t)
  else if (c.toNat:Int)==91||((c.toNat:Int)==36||letF (c.toNat:Int)) then namedF (c::t) else opF (c::t):=rfl
 have hop:opF (c::t)=if twoB (c::t) then some (opT ((c::t).take 2),2) else if (cutF c OPS).isSome then some (opT [c],1) else none:=rfl
 have hd1:(c::t).take 1=[c]:=rfl
 have c155:=s155 c t hs
 have c158:=s158 c t hs
 have hl1:1<=(c::t).length:=by simp
 generalize c::t=s at*
 refine e76t _ s H fun i1 H2 _ _=> ?_
 rw [hb]
 refine ⟨by omega,fun _=>⟨_,x153 _ H2,Ret.use ⟨_,rfl⟩,fun b5 H6 ⟨e5,_⟩=>⟨fun h5 d7=> ?_,fun h5=> ?_⟩⟩⟩
 ·cases e5
  rw [h1,h5,if_pos rfl]
  exact loop76_0 s hs H i1 s [] d7 H6 rfl (by simp)
 ·cases e5
  rw [h5,if_neg (by simp)] at h1
  refine ⟨fun h34 _=>⟨_,c155 H6,Ret.use (tokL_sh _),fun x9 n10 H11 ⟨e,_⟩ H12 _ hI=> ?_⟩,fun h34=>⟨fun h35 _=>⟨_,s156 H6,Ret.use ⟨_,_,_,_,_,_,_,_,_,rfl⟩,fun s14 s15 s16 s17 s18 s19 s20 s21 s22 H23 ⟨e,_⟩ d24=> ?_⟩,fun h35=>⟨fun h91 _=>⟨_,c158 H6,Ret.use (tokL_sh _),fun x9 n10 H11 ⟨e,_⟩ H12 _ hI=> ?_⟩,fun h91=>⟨fun h36 _=>⟨_,c158 H6,Ret.use (tokL_sh _),fun x9 n10 H11 ⟨e,_⟩ H12 _ hI=> ?_⟩,fun h36 _=>⟨_,x157 _ H6,Ret.use ⟨_,rfl⟩,fun b36 H37 ⟨e36,_⟩=>⟨fun hb36 _=>⟨_,c158 H37,Ret.use (tokL_sh _),fun x9 n10 H11 ⟨e,_⟩ H12 _ hI=> ?_⟩,fun hb36 d43=> ?_⟩⟩⟩⟩⟩⟩
  ·rw [h1,h34,if_pos rfl];exact tok_cs e hI.pres
  ·rw [h1,h34,if_neg (by simp),h35,if_pos rfl]
   unfold NAG at e
   simp only [LV.agg.injEq,List.cons.injEq,LV.str.injEq,and_true] at e
   obtain ⟨rfl,rfl,rfl,rfl,rfl,rfl,rfl,rfl,rfl⟩:=e
   intro hin hI
   refine g76t_1 _ H d24 0 s _ _ _ _ _ _ _ _ _ i1 zeroT H23 ⟨fun _=>⟨[],nag_0,fun h=>(by cases h),fun _ d19=> ?_⟩,fun h=>(by simp at h)⟩ hin hI
   rw [lwrap_small (by omega) (by omega)]
   exact loop76_1 s hs H i1 (faultF s) NAMES 1 d19 H23 (by omega) rfl rfl
  ·rw [h1,h34,if_neg (by simp),h35,if_neg (by simp),h91,Bool.true_or,if_pos rfl];exact tok_cs e hI.pres
  ·rw [h1,h34,if_neg (by simp),h35,if_neg (by simp),h36,Bool.true_or,Bool.or_true,if_pos rfl];exact tok_cs e hI.pres
  ·cases e36
   rw [h1,h34,if_neg (by simp),h35,if_neg (by simp),hb36,Bool.or_true,Bool.or_true,if_pos rfl];exact tok_cs e hI.pres
  ·cases e36
   rw [h1,h34,if_neg (by simp),h35,if_neg (by simp),h91,h36,hb36]
   refine loop76_2 c s hl1 hd1 H i1 (opF s) TWOS 0 d43 H37 rfl ?_
   rw [hop]
   unfold twoB
   simp [TWOS]
def L18a_0(d:Nat->LV)(a0:Option LAddr)(l1:Nat)(c2:Cap):List SV:=dl d 0 4++[.lv (.slice a0 l1 c2),.own 0 0]++dl d 6 51
def L18b_0(d:Nat->LV)(a0:Option LAddr)(l1:Nat)(c2:Cap):List SV:=dl d 0 4++[.lv (.slice a0 l1 c2),.own 0 0]++dl d 6 51
def L18c_0(d:Nat->LV)(a0:Option LAddr)(l1:Nat)(c2:Cap):List SV:=dl d 0 4++[.lv (.slice a0 l1 c2),.own 0 0]++dl d 6 51
def L18d_0(d:Nat->LV)(a0:Option LAddr)(l1:Nat)(c2:Cap):List SV:=dl d 0 4++[.lv (.slice a0 l1 c2),.own 0 0]++dl d 6 51
def L18e_0(d:Nat->LV)(a0:Option LAddr)(l1:Nat)(c2:Cap):List SV:=dl d 0 4++[.lv (.slice a0 l1 c2),.own 0 0]++dl d 6 51
abbrev qT5_1:List LV:=[I6 0,I6 0,.str [],.str [],.str [],I6 0,I6 0,.bool false,.bool false]
abbrev qT5_2(n18:Int)(y11:List UInt8):Prop:=0<=n18/\(n18<=(y11.length:Int)/\(y11.length:Int)<=(y11.length:Int))
abbrev qT5_3(a0:Option LAddr)(l1:Nat)(c2:Cap)(H21:LHeap):List LV:=[.slice a0 l1 c2,.slice (some (Lk (LHeap.next H21) 9 0)) 1 (.exact 1)]
abbrev qT5_4(cs:List LV)(H':LHeap)(i3:Nat):Prop:=List.length cs=2/\H'.get i3=some (Slot.obj ⟨i3,cs,121⟩)
theorem g18a_0(R:RR)(H0:LHeap)(d:Nat->LV)(a0:Option LAddr)(l1:Nat)(c2:Cap)(i3:Nat)(s4:List UInt8)(v5:LV)(H:LHeap)
 (h:Inv [] H0 [Sk i3 [.str s4,v5] 121] H->Kb 73 [.str s4,.str [32,9]] H fun s7 H8=>PX [i3] H8 fun H9=>Cd (s7==[]) (R0 H0 [Sk i3 [.str s7,v5] 121] H9 R (.tuple [.slice a0 l1 c2,I6 0])) (Inv [] H0 [Sk i3 [.str s7,v5] 121] H9->∃S10,CallL cfg 74 [.ptr (some (Lk i3 2 0))] H9 S10/\((∀v H',S10 v H'->PresX [i3] H9 H'/\(hasSh (.tuple []) v/\(∃cs,hasSh (.cust (List UInt8) (fun (s:List UInt8)=>(.agg [.str s,.func (.func 147) [] []]:LV))) (.agg cs)/\ (qT5_4 cs H' i3))))/\(∀y11 H12,S10 (.tuple []) H12->H12.get i3=some (Slot.obj (Sk i3 [.str y11,.func (Fn.func 147) [] []] 121))->NX H12 fun i13 H14=>([.func (Fn.func 147) [] [],.str y11]:List LV)=[.func (Fn.func 147) [] [],.str y11]/\(Inv [] H0 [Sk i3 [.str y11,.func (Fn.func 147) [] []] 121,Sk i13 qT5_1 124] H14->Ke 147 [.str y11] H14 fun x17 n18 H19=>PX [i13] H19 fun H21=>Cd (n18==0) (R0 H0 [Sk i3 [.str y11,.func (Fn.func 147) [] []] 121,Sk i13 (TokC.cs x17) 124] H21 R (.tuple [.slice none 0 (.exact 0),I6 10])) (∀H23,H23=(LHeap.push H21 (LObj.cells (TokC.cs x17) 124 9 9 .none false true))->Inv [] H0 [Sk i3 [.str y11,.func (Fn.func 147) [] []] 121,Sk i13 (TokC.cs x17) 124] H23->∃Y a24 l25 c26 H27,(appendL cfg.P H23 [22,22] (qT5_3 a0 l1 c2 H21) =some ((.slice a24 l25 c26),H27)/\(PresX Y H23 H27/\(∀i∈Y,okId [] H0 [Sk i3 [.str y11,.func (Fn.func 147) [] []] 121,Sk i13 (TokC.cs x17) 124] i)))/\((qT5_2 n18 y11) /\(PX [i3] H27 fun H29=>∀d30,GoesT cfg 18 R [] H0 [Sk i3 [.str (subStr y11 n18 (y11.length:Int)),.func (Fn.func 147) [] []] 121] (L18a_0 d30 a24 l25 c26) (loopAt cfg 18 0) H29)))))))):
 GoesT cfg 18 R [] H0 [Sk i3 [.str s4,v5] 121] (L18a_0 d a0 l1 c2) (loopAt cfg 18 0) H:=seg_wt (k:=(.go 8 (.facts (.call .str (.go 2 (.putP (.go 10 (.cases 26 (.go 7 (.facts .ret)) (.go 5 (.facts (.callO 0 (.cust (List UInt8) (fun (s:List UInt8)=>(.agg [.str s,.func (.func 147) [] []]:LV))) (.tuple []) (.go 11 (.boxP (.check (.facts (.call (.tuple [.cust TokC TokC.lv,.int .i64]) (.go 3 (.check (.putP (.go 1 (.check (.go 7 (.cases 43 (.go 6 (.facts .ret)) (.go 6 (.row (.facts (.app (.go 9 (.op .str (.go 2 (.putP (.go 3 (.stop [4,5] 1))))))))))))))))))))))))))))))))) (by kernel_rfl) h
theorem e18a(R:RR)(s0:List UInt8)(H:LHeap)
 (h:Dc ((s0.length:Int)>255) (R0 H [] H R (.tuple [.slice none 0 (.exact 0),I6 3])) (NX H fun i1 H2=>∀d3,GoesT cfg 18 R [] H [Sk i1 [.str s0,Go.Lm.LV.nilFunc] 121] (L18a_0 d3 none 0 (.exact 0)) (loopAt cfg 18 0) H2)):
 CallL cfg 18 [.str s0] H R:=call_wt0 (k:=(.go 12 (.cases 10 (.go 6 (.facts .ret)) (.go 10 (.boxP (.go 4 (.stop [4,5] 1))))))) (by kernel_rfl) h
theorem g18b_0(R:RR)(H0:LHeap)(d:Nat->LV)(a0:Option LAddr)(l1:Nat)(c2:Cap)(i3:Nat)(s4:List UInt8)(v5:LV)(H:LHeap)
 (h:Inv [] H0 [Sk i3 [.str s4,v5] 121] H->Kb 73 [.str s4,.str [32,9]] H fun s7 H8=>PX [i3] H8 fun H9=>Cd (s7==[]) (R0 H0 [Sk i3 [.str s7,v5] 121] H9 R (.tuple [.slice a0 l1 c2,I6 0])) (Inv [] H0 [Sk i3 [.str s7,v5] 121] H9->∃S10,CallL cfg 74 [.ptr (some (Lk i3 2 0))] H9 S10/\((∀v H',S10 v H'->PresX [i3] H9 H'/\(hasSh (.tuple []) v/\(∃cs,hasSh (.cust (List UInt8) (fun (s:List UInt8)=>(.agg [.str s,.func (.func 148) [] []]:LV))) (.agg cs)/\ (qT5_4 cs H' i3))))/\(∀y11 H12,S10 (.tuple []) H12->H12.get i3=some (Slot.obj (Sk i3 [.str y11,.func (Fn.func 148) [] []] 121))->NX H12 fun i13 H14=>([.func (Fn.func 148) [] [],.str y11]:List LV)=[.func (Fn.func 148) [] [],.str y11]/\(Inv [] H0 [Sk i3 [.str y11,.func (Fn.func 148) [] []] 121,Sk i13 qT5_1 124] H14->Ke 148 [.str y11] H14 fun x17 n18 H19=>PX [i13] H19 fun H21=>Cd (n18==0) (R0 H0 [Sk i3 [.str y11,.func (Fn.func 148) [] []] 121,Sk i13 (TokC.cs x17) 124] H21 R (.tuple [.slice none 0 (.exact 0),I6 10])) (∀H23,H23=(LHeap.push H21 (LObj.cells (TokC.cs x17) 124 9 9 .none false true))->Inv [] H0 [Sk i3 [.str y11,.func (Fn.func 148) [] []] 121,Sk i13 (TokC.cs x17) 124] H23->∃Y a24 l25 c26 H27,(appendL cfg.P H23 [22,22] (qT5_3 a0 l1 c2 H21) =some ((.slice a24 l25 c26),H27)/\(PresX Y H23 H27/\(∀i∈Y,okId [] H0 [Sk i3 [.str y11,.func (Fn.func 148) [] []] 121,Sk i13 (TokC.cs x17) 124] i)))/\((qT5_2 n18 y11) /\(PX [i3] H27 fun H29=>∀d30,GoesT cfg 18 R [] H0 [Sk i3 [.str (subStr y11 n18 (y11.length:Int)),.func (Fn.func 148) [] []] 121] (L18b_0 d30 a24 l25 c26) (loopAt cfg 18 0) H29)))))))):
 GoesT cfg 18 R [] H0 [Sk i3 [.str s4,v5] 121] (L18b_0 d a0 l1 c2) (loopAt cfg 18 0) H:=seg_wt (k:=(.go 8 (.facts (.call .str (.go 2 (.putP (.go 10 (.cases 26 (.go 7 (.facts .ret)) (.go 5 (.facts (.callO 0 (.cust (List UInt8) (fun (s:List UInt8)=>(.agg [.str s,.func (.func 148) [] []]:LV))) (.tuple []) (.go 11 (.boxP (.check (.facts (.call (.tuple [.cust TokC TokC.lv,.int .i64]) (.go 3 (.check (.putP (.go 1 (.check (.go 7 (.cases 43 (.go 6 (.facts .ret)) (.go 6 (.row (.facts (.app (.go 9 (.op .str (.go 2 (.putP (.go 3 (.stop [4,5] 1))))))))))))))))))))))))))))))))) (by kernel_rfl) h
theorem g18c_0(R:RR)(H0:LHeap)(d:Nat->LV)(a0:Option LAddr)(l1:Nat)(c2:Cap)(i3:Nat)(s4:List UInt8)(v5:LV)(H:LHeap)
 (h:Inv [] H0 [Sk i3 [.str s4,v5] 121] H->Kb 73 [.str s4,.str [32,9]] H fun s7 H8=>PX [i3] H8 fun H9=>Cd (s7==[]) (R0 H0 [Sk i3 [.str s7,v5] 121] H9 R (.tuple [.slice a0 l1 c2,I6 0])) (Inv [] H0 [Sk i3 [.str s7,v5] 121] H9->∃S10,CallL cfg 74 [.ptr (some (Lk i3 2 0))] H9 S10/\((∀v H',S10 v H'->PresX [i3] H9 H'/\(hasSh (.tuple []) v/\(∃cs,hasSh (.cust (List UInt8) (fun (s:List UInt8)=>(.agg [.str s,.func (.func 149) [] []]:LV))) (.agg cs)/\ (qT5_4 cs H' i3))))/\(∀y11 H12,S10 (.tuple []) H12->H12.get i3=some (Slot.obj (Sk i3 [.str y11,.func (Fn.func 149) [] []] 121))->NX H12 fun i13 H14=>([.func (Fn.func 149) [] [],.str y11]:List LV)=[.func (Fn.func 149) [] [],.str y11]/\(Inv [] H0 [Sk i3 [.str y11,.func (Fn.func 149) [] []] 121,Sk i13 qT5_1 124] H14->Ke 149 [.str y11] H14 fun x17 n18 H19=>PX [i13] H19 fun H21=>Cd (n18==0) (R0 H0 [Sk i3 [.str y11,.func (Fn.func 149) [] []] 121,Sk i13 (TokC.cs x17) 124] H21 R (.tuple [.slice none 0 (.exact 0),I6 10])) (∀H23,H23=(LHeap.push H21 (LObj.cells (TokC.cs x17) 124 9 9 .none false true))->Inv [] H0 [Sk i3 [.str y11,.func (Fn.func 149) [] []] 121,Sk i13 (TokC.cs x17) 124] H23->∃Y a24 l25 c26 H27,(appendL cfg.P H23 [22,22] (qT5_3 a0 l1 c2 H21) =some ((.slice a24 l25 c26),H27)/\(PresX Y H23 H27/\(∀i∈Y,okId [] H0 [Sk i3 [.str y11,.func (Fn.func 149) [] []] 121,Sk i13 (TokC.cs x17) 124] i)))/\((qT5_2 n18 y11) /\(PX [i3] H27 fun H29=>∀d30,GoesT cfg 18 R [] H0 [Sk i3 [.str (subStr y11 n18 (y11.length:Int)),.func (Fn.func 149) [] []] 121] (L18c_0 d30 a24 l25 c26) (loopAt cfg 18 0) H29)))))))):
 GoesT cfg 18 R [] H0 [Sk i3 [.str s4,v5] 121] (L18c_0 d a0 l1 c2) (loopAt cfg 18 0) H:=seg_wt (k:=(.go 8 (.facts (.call .str (.go 2 (.putP (.go 10 (.cases 26 (.go 7 (.facts .ret)) (.go 5 (.facts (.callO 0 (.cust (List UInt8) (fun (s:List UInt8)=>(.agg [.str s,.func (.func 149) [] []]:LV))) (.tuple []) (.go 11 (.boxP (.check (.facts (.call (.tuple [.cust TokC TokC.lv,.int .i64]) (.go 3 (.check (.putP (.go 1 (.check (.go 7 (.cases 43 (.go 6 (.facts .ret)) (.go 6 (.row (.facts (.app (.go 9 (.op .str (.go 2 (.putP (.go 3 (.stop [4,5] 1))))))))))))))))))))))))))))))))) (by kernel_rfl) h
theorem g18d_0(R:RR)(H0:LHeap)(d:Nat->LV)(a0:Option LAddr)(l1:Nat)(c2:Cap)(i3:Nat)(s4:List UInt8)(v5:LV)(H:LHeap)
 (h:Inv [] H0 [Sk i3 [.str s4,v5] 121] H->Kb 73 [.str s4,.str [32,9]] H fun s7 H8=>PX [i3] H8 fun H9=>Cd (s7==[]) (R0 H0 [Sk i3 [.str s7,v5] 121] H9 R (.tuple [.slice a0 l1 c2,I6 0])) (Inv [] H0 [Sk i3 [.str s7,v5] 121] H9->∃S10,CallL cfg 74 [.ptr (some (Lk i3 2 0))] H9 S10/\((∀v H',S10 v H'->PresX [i3] H9 H'/\(hasSh (.tuple []) v/\(∃cs,hasSh (.cust (List UInt8) (fun (s:List UInt8)=>(.agg [.str s,.func (.func 151) [] []]:LV))) (.agg cs)/\ (qT5_4 cs H' i3))))/\(∀y11 H12,S10 (.tuple []) H12->H12.get i3=some (Slot.obj (Sk i3 [.str y11,.func (Fn.func 151) [] []] 121))->NX H12 fun i13 H14=>([.func (Fn.func 151) [] [],.str y11]:List LV)=[.func (Fn.func 151) [] [],.str y11]/\(Inv [] H0 [Sk i3 [.str y11,.func (Fn.func 151) [] []] 121,Sk i13 qT5_1 124] H14->Ke 151 [.str y11] H14 fun x17 n18 H19=>PX [i13] H19 fun H21=>Cd (n18==0) (R0 H0 [Sk i3 [.str y11,.func (Fn.func 151) [] []] 121,Sk i13 (TokC.cs x17) 124] H21 R (.tuple [.slice none 0 (.exact 0),I6 10])) (∀H23,H23=(LHeap.push H21 (LObj.cells (TokC.cs x17) 124 9 9 .none false true))->Inv [] H0 [Sk i3 [.str y11,.func (Fn.func 151) [] []] 121,Sk i13 (TokC.cs x17) 124] H23->∃Y a24 l25 c26 H27,(appendL cfg.P H23 [22,22] (qT5_3 a0 l1 c2 H21) =some ((.slice a24 l25 c26),H27)/\(PresX Y H23 H27/\(∀i∈Y,okId [] H0 [Sk i3 [.str y11,.func (Fn.func 151) [] []] 121,Sk i13 (TokC.cs x17) 124] i)))/\((qT5_2 n18 y11) /\(PX [i3] H27 fun H29=>∀d30,GoesT cfg 18 R [] H0 [Sk i3 [.str (subStr y11 n18 (y11.length:Int)),.func (Fn.func 151) [] []] 121] (L18d_0 d30 a24 l25 c26) (loopAt cfg 18 0) H29)))))))):
 GoesT cfg 18 R [] H0 [Sk i3 [.str s4,v5] 121] (L18d_0 d a0 l1 c2) (loopAt cfg 18 0) H:=seg_wt (k:=(.go 8 (.facts (.call .str (.go 2 (.putP (.go 10 (.cases 26 (.go 7 (.facts .ret)) (.go 5 (.facts (.callO 0 (.cust (List UInt8) (fun (s:List UInt8)=>(.agg [.str s,.func (.func 151) [] []]:LV))) (.tuple []) (.go 11 (.boxP (.check (.facts (.call (.tuple [.cust TokC TokC.lv,.int .i64]) (.go 3 (.check (.putP (.go 1 (.check (.go 7 (.cases 43 (.go 6 (.facts .ret)) (.go 6 (.row (.facts (.app (.go 9 (.op .str (.go 2 (.putP (.go 3 (.stop [4,5] 1))))))))))))))))))))))))))))))))) (by kernel_rfl) h
theorem g18e_0(R:RR)(H0:LHeap)(d:Nat->LV)(a0:Option LAddr)(l1:Nat)(c2:Cap)(i3:Nat)(s4:List UInt8)(v5:LV)(H:LHeap)
 (h:Inv [] H0 [Sk i3 [.str s4,v5] 121] H->Kb 73 [.str s4,.str [32,9]] H fun s7 H8=>PX [i3] H8 fun H9=>Cd (s7==[]) (R0 H0 [Sk i3 [.str s7,v5] 121] H9 R (.tuple [.slice a0 l1 c2,I6 0])) (Inv [] H0 [Sk i3 [.str s7,v5] 121] H9->∃S10,CallL cfg 74 [.ptr (some (Lk i3 2 0))] H9 S10/\((∀v H',S10 v H'->PresX [i3] H9 H'/\(hasSh (.tuple []) v/\(∃cs,hasSh (.cust (List UInt8) (fun (s:List UInt8)=>(.agg [.str s,.func (.func 152) [] []]:LV))) (.agg cs)/\ (qT5_4 cs H' i3))))/\(∀y11 H12,S10 (.tuple []) H12->H12.get i3=some (Slot.obj (Sk i3 [.str y11,.func (Fn.func 152) [] []] 121))->NX H12 fun i13 H14=>([.func (Fn.func 152) [] [],.str y11]:List LV)=[.func (Fn.func 152) [] [],.str y11]/\(Inv [] H0 [Sk i3 [.str y11,.func (Fn.func 152) [] []] 121,Sk i13 qT5_1 124] H14->Ke 152 [.str y11] H14 fun x17 n18 H19=>PX [i13] H19 fun H21=>Cd (n18==0) (R0 H0 [Sk i3 [.str y11,.func (Fn.func 152) [] []] 121,Sk i13 (TokC.cs x17) 124] H21 R (.tuple [.slice none 0 (.exact 0),I6 10])) (∀H23,H23=(LHeap.push H21 (LObj.cells (TokC.cs x17) 124 9 9 .none false true))->Inv [] H0 [Sk i3 [.str y11,.func (Fn.func 152) [] []] 121,Sk i13 (TokC.cs x17) 124] H23->∃Y a24 l25 c26 H27,(appendL cfg.P H23 [22,22] (qT5_3 a0 l1 c2 H21) =some ((.slice a24 l25 c26),H27)/\(PresX Y H23 H27/\(∀i∈Y,okId [] H0 [Sk i3 [.str y11,.func (Fn.func 152) [] []] 121,Sk i13 (TokC.cs x17) 124] i)))/\((qT5_2 n18 y11) /\(PX [i3] H27 fun H29=>∀d30,GoesT cfg 18 R [] H0 [Sk i3 [.str (subStr y11 n18 (y11.length:Int)),.func (Fn.func 152) [] []] 121] (L18e_0 d30 a24 l25 c26) (loopAt cfg 18 0) H29)))))))):
 GoesT cfg 18 R [] H0 [Sk i3 [.str s4,v5] 121] (L18e_0 d a0 l1 c2) (loopAt cfg 18 0) H:=seg_wt (k:=(.go 8 (.facts (.call .str (.go 2 (.putP (.go 10 (.cases 26 (.go 7 (.facts .ret)) (.go 5 (.facts (.callO 0 (.cust (List UInt8) (fun (s:List UInt8)=>(.agg [.str s,.func (.func 152) [] []]:LV))) (.tuple []) (.go 11 (.boxP (.check (.facts (.call (.tuple [.cust TokC TokC.lv,.int .i64]) (.go 3 (.check (.putP (.go 1 (.check (.go 7 (.cases 43 (.go 6 (.facts .ret)) (.go 6 (.row (.facts (.app (.go 9 (.op .str (.go 2 (.putP (.go 3 (.stop [4,5] 1))))))))))))))))))))))))))))))))) (by kernel_rfl) h
def blankB(b:UInt8):Bool:=(b.toNat:Int)==32||(b.toNat:Int)==9
def dropB:List UInt8->List UInt8
 |[]=>[]
 |b::s=>if blankB b then dropB s else b::s
theorem dropB_le:∀s,(dropB s).length<=s.length
 |[]=>Nat.le_refl _
 |b::s=>by
  unfold dropB
  split
  ·have:=dropB_le s;simp;omega
  ·exact Nat.le_refl _
theorem dropB_head:∀{s:List UInt8} {c:UInt8} {t:List UInt8},dropB s=c::t->blankB c=false
 |[],c,t,h=>by cases h
 |b::s,c,t,h=>by
  unfold dropB at h
  split at h
  ·exact dropB_head h
  ·rename_i hb
   cases h
   simpa using hb
def asetB:List Bool:=List.replicate 9 false++[true]++List.replicate 22 false++[true]++List.replicate 223 false
def ASET:List LV:=asetB.map LV.bool
theorem aset_at(b:UInt8):nth ASET b.toNat=some (.bool (blankB b)):=by
 have key:∀n:Fin 256,asetB[n.val]? =some (((n.val:Nat):Int)==32||((n.val:Nat):Int)==9):=by decide +kernel
 rw [nth_eq]
 unfold ASET
 rw [List.getElem?_map,key ⟨b.toNat,u8_lt256 b⟩]
 rfl
theorem aset_len:ASET.length=256:=by unfold ASET;rw [List.length_map];decide +kernel
theorem s143(H:LHeap):CallL cfg 143 [.str [32,9]] H (Ret (.tuple [.agg ASET,.bool true]) H):=
 e143t _ () H fun i0 H1 _ _ H2 _ H3 _ H4 _ hI=>⟨rfl,hI.pres⟩
theorem s225(i:Nat)(b:UInt8)(H:LHeap)(hg:H.get i=some (Slot.obj ⟨i,ASET,207⟩)):CallL cfg 225 [.ptr (some ⟨i,256,0⟩),.int .u8 (b.toNat:Int)] H (Ret (.bool (blankB b)) H):=by
 have h256:=u8_lt256 b
 refine e225t _ (some ⟨i,256,0⟩) b.toNat H ⟨rfl,⟨by omega,by omega,rfl⟩,fun _=>⟨blankB b,?_,fun hI=>⟨rfl,hI.pres⟩⟩⟩
 unfold loadT
 rw [show isAggT cfg.P 4=some false by kernel_rfl]
 show load1 H ⟨i,256,0+(b.toNat:Int).toNat*1⟩=_
 unfold load1
 simp only [hg,Slot.obj,aset_len,Int.toNat_natCast,Nat.mul_one,Nat.zero_add]
 rw [if_pos (by simp only [Bool.and_eq_true,Nat.ble_eq];omega)]
 exact aset_at b
theorem loop144(i:Nat)(H0:LHeap)(r:LV):∀(s:List UInt8) (d:Nat->LV) (H:LHeap),i<H.next->H.get i=some (Slot.obj ⟨i,ASET,207⟩)->r=.str (dropB s)->
  GoesT cfg 144 (Ret r H0) [] H0 [] (L144t_0 d s (some ⟨i,256,0⟩)) (loopAt cfg 144 0) H
 |[],d,H,hi,hg,hr=>by
  intro hin hI
  exact g144t_0 _ H0 d [] _ H ⟨fun h=>(by simp at h),fun _ hI=>⟨by rw [hr];rfl,hI.pres⟩⟩ hin hI
 |b::s,d,H,hi,hg,hr=>by
  intro hin hI
  have hb:byteAt (b::s) 0=(b.toNat:Int):=byteAt_app [] b s
  have c225:CallL cfg 225 [.ptr (some ⟨i,256,0⟩),.int .u8 (byteAt (b::s) 0)] H (Ret (.bool (blankB b)) H):=by rw [hb];exact s225 i b H hg
  refine g144t_0 _ H0 d (b::s) _ H ⟨fun _=>⟨⟨by omega,by simp⟩,fun _=>⟨_,c225,Ret.use ⟨_,rfl⟩,fun b4 H5 ⟨e4,p5⟩=>⟨fun h4 hI=>⟨?_,hI.pres⟩,fun h4=>⟨⟨by omega,by simp;omega,by omega⟩,fun d7=> ?_⟩⟩⟩⟩,fun h=>(by simp at h)⟩ hin hI
  ·cases e4
   have:blankB b=false:=by simpa using h4
   rw [hr];unfold dropB;rw [this];rfl
  ·cases e4
   have:blankB b=true:=by simpa using h4
   rw [sub_drop1]
   exact loop144 i H0 r s d7 H5 (Nat.lt_of_lt_of_le hi p5.next) (by rw [(p5.keep i hi (by simp)).get];exact hg) (by rw [hr];unfold dropB;rw [this,if_pos rfl];cases s<;>rfl)
theorem s73(s:List UInt8)(H:LHeap):CallL cfg 73 [.str s,.str [32,9]] H (Ret (.str (dropB s)) H):=by
 refine e73t _ s H ⟨fun h hI=>⟨by rw [eq_of_beq h];rfl,hI.pres⟩,fun h _=>⟨_,s143 H,Ret.use ⟨(),rfl⟩,fun y1 H2 _ i3 H4 _ _ H5 _ hI=> ?_⟩⟩
 have hs:=hI.slot 0 _ rfl
 exact ⟨Ret (.str (dropB s)) H5,e144t _ s _ H5 fun d=>loop144 i3 H5 _ s d H5 hs.1 hs.2.1 rfl,Ret.use ⟨_,rfl⟩,fun s7 H8 ⟨e,_⟩ hI=>⟨e,hI.pres⟩⟩
theorem s75(b:UInt8)(H:LHeap):CallL cfg 75 [.int .u8 (b.toNat:Int)] H (Ret (.bool (blankB b)) H):=by
 refine e75t _ _ H ⟨fun h hI=>⟨?_,hI.pres⟩,fun h hI=>⟨?_,hI.pres⟩⟩
 ·unfold blankB;rw [h];rfl
 ·unfold blankB;rw [h,Bool.false_or]
def stR(n:Int):Nat:=if digF n then 147 else if n==34 then 148 else if n==35 then 149 else if letF n||(n==91||n==36) then 151 else 152
def stN(c:UInt8):Nat:=stR (c.toNat:Int)
theorem stR_high{n:Int}(h:128<=n):stR n=152:=by
 have h1:digF n=false:=by unfold digF;rw [decide_eq_false (show ¬n<=57 by omega),Bool.and_false]
 have h2:letF n=false:=by unfold letF;rw [decide_eq_false (show ¬n<=122 by omega),decide_eq_false (show ¬n<=90 by omega)];simp
 have h3:(n==34)=false:=by rw [beq_eq_false_iff_ne];omega
 have h4:(n==35)=false:=by rw [beq_eq_false_iff_ne];omega
 have h5:(n==91)=false:=by rw [beq_eq_false_iff_ne];omega
 have h6:(n==36)=false:=by rw [beq_eq_false_iff_ne];omega
 unfold stR
 rw [h1,h2,h3,h4,h5,h6];rfl
theorem stR_dec(b:UInt8)(l:List UInt8):stR (((decodeL (b::l)).1:Nat):Int)=stN b:=by
 unfold stN
 by_cases hb:b.toNat<128
 ·rw [decL_ascii b l hb]
 ·have:=decL_high b l (by omega)
  rw [stR_high (by omega),stR_high (by omega)]
def StS(i:Nat)(s:List UInt8)(f:Nat)(H:LHeap):LV->LHeap->Prop:=fun v H'=>PresX [i] H H'/\v=.tuple []/\H'.get i=some (Slot.obj ⟨i,[.str s,.func (.func f) [] []],121⟩)
theorem s74(i:Nat)(c:UInt8)(t:List UInt8)(v:LV)(H:LHeap)(hi:i<H.next)(hg:H.get i=some (Slot.obj ⟨i,[.str (c::t),v],121⟩)):CallL cfg 74 [.ptr (some ⟨i,2,0⟩)] H (StS i (c::t) (stN c) H):=by
 obtain ⟨h1,h2⟩:=range_new (c::t) H
 refine e74t _ (c::t) v i H (inv_box hi hg (by simp)) fun _=>⟨some ⟨H.next,0,0⟩,[],H.push (.stringIter (c::t) 0),⟨?_,.push _ _ _,fun j hj=>by cases hj⟩,fun d2=> ?_⟩
 ·show (match rangeL cfg.P H 9 (.str (c::t)) with |some (x,H')=>some [(LNext.value x,H')] |none=>none)=_
  rw [h1]
 ·obtain ⟨q,H',eq,hn,pq,hit'⟩:=next_some h2 (show (c::t).drop 0=c::t from rfl)
  cases eq
  have st:=stR_dec c t
  generalize (((decodeL (c::t)).1:Nat):Int)=n at hn st
  intro hin hI
  refine g74t_0 _ H d2 _ i (c::t) v _ (.inl fun _=>⟨(0,n),[H.next],H',⟨?_,pq,fun j hj=> ?_⟩,fun _=>⟨_,s146 n H',Ret.use ⟨_,rfl⟩,fun b7 H8 ⟨e7,_⟩=>⟨fun h7 H9 _ hI=>⟨hI.pres,rfl,?_⟩,fun h7=>⟨fun h34 H10 _ hI=>⟨hI.pres,rfl,?_⟩,fun h34=>⟨fun h35 H11 _ hI=>⟨hI.pres,rfl,?_⟩,fun h35 _=>⟨_,s150 n H8,Ret.use ⟨_,rfl⟩,fun b13 H14 ⟨e13,_⟩=>⟨fun h13 H15 _ hI=>⟨hI.pres,rfl,?_⟩,fun h13=>⟨fun h91 H16 _ hI=>⟨hI.pres,rfl,?_⟩,fun h91=>⟨fun h36 H17 _ hI=>⟨hI.pres,rfl,?_⟩,fun h36 H18 _ hI=>⟨hI.pres,rfl,?_⟩⟩⟩⟩⟩⟩⟩⟩⟩⟩) hin hI
  ·show (match nextL (H.push (.stringIter (c::t) 0)) (.ptr (some ⟨H.next,0,0⟩)) true with |some l=>some (l.map fun ((x,H'):LV×LHeap)=>(LNext.value x,H')) |none=>none)=_
   rw [hn]
   rfl
  ·rw [List.mem_singleton.1 hj]
   exact okId_box (.inr (Nat.le_refl _)) (fun e=>Nat.lt_irrefl _ (by rw [<-e] at hi;exact hi))
  all_goals
   rw [<-st]
   have hs:=(hI.slot 0 _ rfl).2.1
   unfold stR
   (try cases e7)
   (try cases e13)
   simp only [h7,if_true,if_false,Bool.false_eq_true]
   (try simp only [h34,if_true,if_false,Bool.false_eq_true])
   (try simp only [h35,if_true,if_false,Bool.false_eq_true])
   (try simp only [h13,if_true,if_false,Bool.false_eq_true,Bool.true_or,Bool.false_or])
   (try simp only [h91,if_true,if_false,Bool.false_eq_true,Bool.true_or,Bool.false_or])
   (try simp only [h36,if_true,if_false,Bool.false_eq_true,Bool.true_or,Bool.false_or])
   exact hs
theorem st_call(c:UInt8)(t:List UInt8)(hs:(c::t).length<=1000)(H:LHeap):CallL cfg (stN c) [.str (c::t)] H (Ret (tokL (oneF (c::t))) H):=by
 have h1:oneF (c::t)=if digF (c.toNat:Int) then numTF (c::t) else if (c.toNat:Int)==34 then quotedF (c::t) else if (c.toNat:Int)==35 then faultF (c::t)
  else if (c.toNat:Int)==91||((c.toNat:Int)==36||letF (c.toNat:Int)) then namedF (c::t) else opF (c::t):=rfl
 have h2:stN c=if digF (c.toNat:Int) then 147 else if (c.toNat:Int)==34 then 148 else if (c.toNat:Int)==35 then 149 else if letF (c.toNat:Int)||((c.toNat:Int)==91||(c.toNat:Int)==36) then 151 else 152:=rfl
 rw [h1,h2]
 cases digF (c.toNat:Int) with
 |true=>exact s147 _ hs H
 |false=>cases ((c.toNat:Int)==34) with
  |true=>exact s148 c t hs H
  |false=>cases ((c.toNat:Int)==35) with
   |true=>exact s149 _ hs H
   |false=>cases letF (c.toNat:Int)<;>cases ((c.toNat:Int)==91)<;>cases ((c.toNat:Int)==36)<;>first |exact s151 c t hs H |exact s152 c t hs H
def cellsT:List TokC->List LV
 |[]=>[]
 |x::l=>x.cs++cellsT l
theorem cellsT_app:∀(l m:List TokC),cellsT (l++m)=cellsT l++cellsT m
 |[],m=>rfl
 |x::l,m=>by simp only [List.cons_append,cellsT,cellsT_app l m,List.append_assoc]
theorem tokc_len(x:TokC):x.cs.length=9:=rfl
theorem cellsT_drop:∀(l:List TokC) (i:Nat) (x:TokC),l[i]? =some x->((cellsT l).drop (i*9)).take 9=x.cs
 |[],i,x,h=>by simp at h
 |y::l,0,x,h=>by
  cases h
  rw [Nat.zero_mul,List.drop_zero,cellsT,List.take_append_of_le_length (by rw [tokc_len];exact Nat.le_refl _),List.take_of_length_le (by rw [tokc_len];exact Nat.le_refl _)]
 |y::l,i+1,x,h=>by
  rw [cellsT,show (i+1)*9=y.cs.length+i*9 by rw [tokc_len];omega,<-List.drop_drop,List.drop_left]
  exact cellsT_drop l i x (by simpa using h)
def lexF(s:List UInt8):Option (List TokC):=
 match s with
 |[]=>some []
 |c::t=>if blankB c then lexF t else match oneF (c::t) with
  |none=>none
  |some (x,k)=>if h:k=0 then none else (lexF ((c::t).drop k)).map (x::·)
termination_by s.length
decreasing_by
 ·simp
 ·simp;omega
theorem lexF_nil:lexF []=some []:=by unfold lexF;rfl
theorem lexF_blank{c:UInt8}{t:List UInt8}(h:blankB c=true):lexF (c::t)=lexF t:=by
 conv=>lhs;unfold lexF
 simp only [h,if_true]
theorem lexF_none{c:UInt8}{t:List UInt8}(h:blankB c=false)(ho:oneF (c::t)=none):lexF (c::t)=none:=by
 unfold lexF
 simp only [h,ho,Bool.false_eq_true,if_false]
theorem lexF_zero{c:UInt8}{t:List UInt8}{x:TokC}(h:blankB c=false)(ho:oneF (c::t)=some (x,0)):lexF (c::t)=none:=by
 unfold lexF
 simp only [h,ho,Bool.false_eq_true,if_false]
 rfl
theorem lexF_some{c:UInt8}{t:List UInt8}{x:TokC}{k:Nat}(h:blankB c=false)(ho:oneF (c::t)=some (x,k))(hk:k≠0):lexF (c::t)=(lexF ((c::t).drop k)).map (x::·):=by
 conv=>lhs;unfold lexF
 simp only [h,ho,Bool.false_eq_true,if_false]
 rw [dif_neg hk]
theorem lexF_drop:∀s:List UInt8,lexF s=lexF (dropB s)
 |[]=>rfl
 |c::t=>by
  unfold dropB
  split
  ·rename_i h
   rw [lexF_blank h];exact lexF_drop t
  ·rfl
def resO(acc:List TokC):Option (List TokC)->List TokC×Int
 |some l=>(acc++l,0)
 |none=>([],10)
def lexO(s:List UInt8):List TokC×Int:=if s.length>255 then ([],3) else resO [] (lexF s)
theorem resO_cons(acc:List TokC)(x:TokC)(o:Option (List TokC)):resO acc (o.map (x::·))=resO (acc++[x]) o:=by
 cases o with
 |none=>rfl
 |some l=>simp [resO]
def LexS(ty:TypeId)(o:List TokC×Int)(H0:LHeap):LV->LHeap->Prop:=fun w H'=>PresX [] H0 H'/\∃a q,w=.tuple [.slice a o.1.length q,.int .i64 o.2]/\RowAt H' ty 9 a o.1.length q (cellsT o.1)
theorem qF_le:∀(s:List UInt8) (r:List UInt8×Nat),qF s=some r->r.2<=s.length
 |[],r,h=>by cases h
 |[b],r,h=>by
  unfold qF at h
  split at h
  ·cases h;simp
  ·cases h
 |b::c::s,r,h=>by
  rw [qF] at h
  split at h
  ·split at h
   ·cases hq:qF s with
    |none=>rw [hq] at h;cases h
    |some x=>
     rw [hq] at h;cases h
     have:=qF_le s x hq
     simp;omega
   ·cases h;simp
  ·cases hq:qF (c::s) with
   |none=>rw [hq] at h;cases h
   |some x=>
    rw [hq] at h;cases h
    have:=qF_le (c::s) x hq
    simp at this |-;omega
theorem take_le{s x:List UInt8}(h:(s.take x.length==x)=true):x.length<=s.length:=by
 have:=congrArg List.length (eq_of_beq h)
 rw [List.length_take] at this
 omega
theorem flt_le:∀(l:List (List UInt8)) (n:Nat) (s:List UInt8) (r:TokC×Nat),fltF l n s=some r->r.2<=s.length
 |[],n,s,r,h=>by cases h
 |x::l,n,s,r,h=>by
  rw [flt_cons] at h
  split at h
  ·rename_i hx
   cases h
   exact take_le hx
  ·exact flt_le l (n+1) s r h
theorem word_le{b w:List UInt8}{n:Nat}{r:TokC×Nat}(h:wordF b w n=some r):r.2=n:=by
 unfold wordF at h
 split at h
 ·cases h;rfl
 ·split at h
  ·cases h;rfl
  ·cases h
theorem end_le{b:List UInt8}{k:Nat}{s:List UInt8}{r:TokC×Nat}(hk:k<=s.length)(h:endF b k s=some r):r.2<=s.length:=by
 unfold endF at h
 split at h
 ·rename_i hb
  cases hr:refTF (s.take (endM k s)) with
  |none=>rw [hr] at h;cases h
  |some x=>rw [hr] at h;cases h;exact (endM_le hk hb).2
 ·rw [word_le h];exact (endN_le hk).2
theorem named_le{c:UInt8}{t:List UInt8}{r:TokC×Nat}(h:namedF (c::t)=some r):r.2<=(c::t).length:=by
 have hnf:namedF (c::t)=if c==91 then (match cutF 93 t with
  |some (b,_)=>if nameF b then endF b (b.length+2) (c::t) else none
  |none=>none) else endF [] 0 (c::t):=rfl
 rw [hnf] at h
 split at h
 ·cases hc:cutF 93 t with
  |none=>rw [hc] at h;cases h
  |some x=>
   obtain ⟨b,m⟩:=x
   rw [hc] at h
   simp only at h
   split at h
   ·have:=cutF_len hc
    exact end_le (by simp;omega) h
   ·cases h
 ·exact end_le (by simp) h
theorem op_le{c:UInt8}{t:List UInt8}{r:TokC×Nat}(h:opF (c::t)=some r):r.2<=(c::t).length:=by
 have hop:opF (c::t)=if twoB (c::t) then some (opT ((c::t).take 2),2) else if (cutF c OPS).isSome then some (opT [c],1) else none:=rfl
 rw [hop] at h
 split at h
 ·rename_i ht
  cases h
  unfold twoB at ht
  simp only [Bool.or_eq_true] at ht
  rcases ht with h |h |h
  ·exact take_le (x:=[60,62]) h
  ·exact take_le (x:=[60,61]) h
  ·exact take_le (x:=[62,61]) h
 ·split at h
  ·cases h;simp
  ·cases h
theorem one_le{c:UInt8}{t:List UInt8}{x:TokC}{k:Nat}(h:oneF (c::t)=some (x,k)):k<=(c::t).length:=by
 have h1:oneF (c::t)=if digF (c.toNat:Int) then numTF (c::t) else if (c.toNat:Int)==34 then quotedF (c::t) else if (c.toNat:Int)==35 then faultF (c::t)
  else if (c.toNat:Int)==91||((c.toNat:Int)==36||letF (c.toNat:Int)) then namedF (c::t) else opF (c::t):=rfl
 rw [h1] at h
 split at h
 ·unfold numTF at h
  cases hp:parseO ((c::t).take (spanF numB (c::t))) with
  |none=>rw [hp] at h;cases h
  |some v=>rw [hp] at h;cases h;exact spanF_le _ _
 ·split at h
  ·rw [show quotedF (c::t)=(qF t).map fun r=>(strT r.1,r.2+1) from rfl] at h
   cases hq:qF t with
   |none=>rw [hq] at h;cases h
   |some r=>
    rw [hq] at h;cases h
    have:=qF_le t r hq
    simp;omega
  ·split at h
   ·exact flt_le _ _ _ _ h
   ·split at h
    ·exact named_le h
    ·exact op_le h
theorem rowTk:RowT cfg.P 22 124 9 88:=⟨by kernel_rfl,by kernel_rfl,by decide,by kernel_rfl,by kernel_rfl,by kernel_rfl,⟨zeroT.lv,by kernel_rfl,rfl⟩⟩
theorem rowTd:RowT cfg.P 26 127 9 88:=⟨by kernel_rfl,by kernel_rfl,by decide,by kernel_rfl,by kernel_rfl,by kernel_rfl,⟨zeroT.lv,by kernel_rfl,rfl⟩⟩
theorem tok_cells(x:TokC):allCells x.cs=true:=rfl
theorem tok_inv{o:Option (TokC×Nat)}{x:TokC}{n:Int}(h:LV.tuple [x.lv,.int .i64 n]=tokL o):(o=none/\n=0)\/(∃k:Nat,o=some (x,k)/\n=(k:Int)):=by
 cases o with
 |none=>
  simp only [tokL,LV.tuple.injEq,List.cons.injEq,LV.int.injEq,and_true,true_and] at h
  exact .inl ⟨rfl,h.2⟩
 |some r=>
  obtain ⟨y,k⟩:=r
  simp only [tokL,LV.tuple.injEq,List.cons.injEq,LV.int.injEq,and_true,true_and] at h
  refine .inr ⟨k,?_,h.2⟩
  have:=h.1
  cases x;cases y
  simp only [TokC.lv,TokC.cs,LV.agg.injEq,List.cons.injEq,LV.str.injEq,LV.bool.injEq,LV.int.injEq,and_true,true_and] at this
  obtain ⟨rfl,rfl,rfl,rfl,rfl,rfl,rfl,rfl,rfl⟩:=this
  rfl
end Go.Proofs.YtjihhflffkoffaaGreatDoor.Z
