/- Contracts of functions of the program; no condition. -/
import Derived.Test.YtjihhflffkoffaaGreatDoorG5
set_option linter.unusedSimpArgs false
set_option linter.unusedVariables false
set_option linter.unusedSectionVars false
set_option linter.unnecessarySimpa false
namespace Go.Proofs.YtjihhflffkoffaaGreatDoor.Z
open Go Go.Lm
set_option maxRecDepth 1000000
set_option maxHeartbeats 0
theorem colF_up(c:UInt8)(h:letF (c.toNat:Int)=true):lwrap .i64 (lwrap .i64 (lwrap .u8 (((upB c).toNat:Int)-65))+1)=colF c:=by
 have hu:((upB c).toNat:Int)-64=colF c/\65<=(upB c).toNat/\(upB c).toNat<=90:=by
  unfold letF at h
  simp at h
  have h256:=u8_lt256 c
  unfold colF upB
  by_cases h97:97<=c.toNat
  ·rw [if_pos h97,if_pos (by omega),UInt8.toNat_ofNat']
   omega
  ·rw [if_neg h97,if_neg (by omega)]
   omega
 have e1:lwrap .u8 (((upB c).toNat:Int)-65)=((upB c).toNat:Int)-65:=by
  rw [lwrap_eq]
  simp only [IntKind.wrap,IntKind.signed,IntKind.bits,Bool.false_and,Bool.false_eq_true,if_false]
  omega
 rw [e1,lwrap_small (n:=((upB c).toNat:Int)-65) (by omega) (by omega),lwrap_small (by omega) (by omega)]
 omega
theorem head36(w:UInt8)(v:List UInt8):((w.toNat:Int)=36->cutP (w::v) [36]=(v,true))/\(¬(w.toNat:Int)=36->cutP (w::v) [36]=(w::v,false)):=by
 refine ⟨fun h=> ?_,fun h=> ?_⟩
 ·have:w=36:=UInt8.toNat_inj.1 (by show w.toNat=36;omega)
  subst this
  rfl
 ·refine cutP_no ?_
  simp
  intro e
  subst e
  exact h rfl
theorem rest_short{col:Int}{fc fr:Bool}{s:List UInt8}(h:s.length=0):restF col fc s fr=none:=by
 have:s=[]:=List.eq_nil_of_length_eq_zero h
 subst this
 unfold restF okRow inF
 simp [decF,digs]
theorem rest_long{col:Int}{fc fr:Bool}{s:List UInt8}(h:2<s.length):restF col fc s fr=none:=by
 unfold restF okRow
 rw [decide_eq_false (show ¬s.length<=2 by omega)]
 simp
theorem head48{s:List UInt8}(h:0<s.length):(byteAt s 0==48)=(s.head? ==some 48):=by
 cases s with
 |nil=>simp at h
 |cons c t=>
  rw [show byteAt (c::t) 0=(c.toNat:Int) from byteAt_app [] c t]
  rw [Bool.eq_iff_iff]
  simp only [List.head?_cons,beq_iff_eq,Option.some.injEq]
  constructor
  ·intro h;exact UInt8.toNat_inj.1 (by show c.toNat=48;omega)
  ·intro h;rw [h];rfl
theorem rest_48{col:Int}{fc fr:Bool}{s:List UInt8}(h:0<s.length)(k:(byteAt s 0==48)=true):restF col fc s fr=none:=by
 rw [head48 h] at k
 unfold restF okRow
 rw [k]
 simp
theorem h48_of{s:List UInt8}(h:0<s.length)(k:(byteAt s 0==48)=false):(s.head? ==some 48)=false:=by
 rw [<-head48 h];exact k
theorem x285(n m:Int)(H:LHeap):CallL cfg 285 [.int .i64 n,.int .i64 m] H (Ret (.bool (inF n m)) H):=by
 have out:∀{H':LHeap},¬(1<=n/\n<=64/\1<=m/\m<=26)->PresX [] H H'->Ret (.bool (inF n m)) H (.bool false) H':=fun h p=>⟨by unfold inF;rw [decide_eq_false h],p⟩
 refine e285t _ n m H ⟨fun h1=>⟨fun h2=>⟨fun h3 hI=>⟨?_,hI.pres⟩,fun h hI=>out (by simp at h;omega) hI.pres⟩,fun h hI=>out (by simp at h;omega) hI.pres⟩,fun h hI=>out (by simp at h;omega) hI.pres⟩
 simp only [decide_eq_true_eq,ge_iff_le] at h1 h2 h3
 congr 1
 unfold inF
 exact decide_eq_decide.2 (by omega)
theorem loop242(s:List UInt8)(hs:1<=s.length/\s.length<=2)(col:Int)(fc fr:Bool)(H0:LHeap)(i1 i3:Nat)(x3:RefC)(h48:(s.head? ==some 48)=false):∀(C A:List UInt8) (d:Nat->LV) (H:LHeap),A++C=s->digs A=true->
  GoesT cfg 242 (Ret (cellL (restF col fc s fr)) H0) [] H0 [⟨i1,x3.cs,69⟩,⟨i3,(⟨[],[],(decF A 0:Int),col,fr,fc⟩:RefC).cs,69⟩] (L242t_0 d (A.length:Int) s) (loopAt cfg 242 0) H
 |[],A,d,H,hA,hd=>by
  intro hin hI
  rw [List.append_nil] at hA
  subst hA
  have hok:okRow A=true:=by unfold okRow;rw [hd,decide_eq_true hs.2,h48];rfl
  refine g242t_0 _ H0 d A.length A i1 x3 i3 ⟨[],[],(decF A 0:Int),col,fr,fc⟩ H ⟨fun h=> ?_,fun _ hI=>⟨_,x285 (decF A 0) col H,Ret.use ⟨_,rfl⟩,fun b17 H18 ⟨e,_⟩=>⟨fun h H19 _ hI=>⟨?_,hI.pres⟩,fun h H20 _ hI=>⟨?_,hI.pres⟩⟩⟩⟩ hin hI
  ·simp at h
  ·cases e
   have:inF (decF A 0:Int) col=false:=by simpa using h
   unfold restF;rw [this,Bool.and_false];rfl
  ·cases e
   have:inF (decF A 0:Int) col=true:=by simpa using h
   unfold restF;rw [this,hok];rfl
 |b::C,A,d,H,hA,hd=>by
  intro hin hI
  have hb:byteAt s (A.length:Int)=(b.toNat:Int):=by rw [<-hA];exact byteAt_app A b C
  have hl:A.length+(C.length+1)=s.length:=by rw [<-hA];simp
  have rg:(0:Int)<=(A.length:Int)/\(A.length:Int)<((s.length:Nat):Int):=by omega
  have c153:CallL cfg 153 [.int .u8 (byteAt s (A.length:Int))] H (Ret (.bool (digF (b.toNat:Int))) H):=by rw [hb];exact x153 _ H
  refine g242t_0 _ H0 d A.length s i1 x3 i3 ⟨[],[],(decF A 0:Int),col,fr,fc⟩ H ⟨fun h=>⟨rg,fun hI=>⟨_,c153,Ret.use ⟨_,rfl⟩,fun b8 H9 ⟨e,_⟩=>⟨fun h8 H10 _ hI=>⟨?_,hI.pres⟩,fun h8=>⟨rg,rfl,fun H13 _ d15=> ?_⟩⟩⟩⟩,fun h=> ?ge⟩ hin hI
  case ge=>simp at h;omega
  ·cases e
   have h1:digF (b.toNat:Int)=false:=by simpa using h8
   have:digs s=false:=by rw [<-hA,digs_app];simp [digs,h1]
   unfold restF okRow;rw [this];rfl
  ·cases e
   have hdb:digF (b.toNat:Int)=true:=by simpa using h8
   have hb2:48<=b.toNat/\b.toNat<=57:=by simp [digF] at hdb;omega
   have hlt:=decF_lt A 0 hd
   have hp:10 ^ A.length<=10 ^ 2:=Nat.pow_le_pow_right (by omega) (by omega)
   have e1:lwrap .u8 ((b.toNat:Int)-48)=(b.toNat:Int)-48:=by
    rw [lwrap_eq]
    simp only [IntKind.wrap,IntKind.signed,IntKind.bits,Bool.false_and,Bool.false_eq_true,if_false]
    omega
   have hdec:(10:Int)*(decF A 0:Int)+((b.toNat:Int)-48)=(decF (A++[b]) 0:Int):=by
    rw [decF_app]
    show _=((10*decF A 0+(b.toNat-48):Nat):Int)
    omega
   have e5:lwrap .i64 (lwrap .i64 ((10:Int)*(decF A 0:Int))+lwrap .i64 (lwrap .u8 (byteAt s (A.length:Int)-48)))=(decF (A++[b]) 0:Int):=by
    rw [hb,e1,lwrap_small (n:=(10:Int)*(decF A 0:Int)) (by omega) (by omega),lwrap_small (n:=(b.toNat:Int)-48) (by omega) (by omega),lwrap_small (by omega) (by omega),hdec]
   rw [lwrap_small (n:=(A.length:Int)+1) (by omega) (by omega),show (A.length:Int)+1=(((A++[b]).length:Nat):Int) by simp]
   have:=loop242 s hs col fc fr H0 i1 i3 x3 h48 C (A++[b]) d15 H13 (by rw [<-hA];simp) (by rw [digs_app,hd];simp [digs,hdb])
   rw [<-e5] at this
   exact this
theorem s242(s:List UInt8)(hs:s.length<=1000)(H:LHeap):CallL cfg 242 [.str s] H (Ret (cellL (cellF s)) H):=by
 have bad:∀{H':LHeap},cellF s=none->PresX [] H H'->Ret (cellL (cellF s)) H (.tuple [.agg [.str [],.str [],.int .i64 0,.int .i64 0,.bool false,.bool false],.bool false]) H':=fun h p=>⟨by rw [h];rfl,p⟩
 refine e242t _ s H fun i1 H2 _ _ i3 H4 _ _=>⟨fun h0=>⟨⟨by omega,by simp at h0;omega⟩,fun h36 H6 _=>⟨⟨by omega,by simp at h0;omega,by omega⟩,?dollar⟩,fun h36=> ?plain⟩,fun h0=> ?empty⟩
 case dollar=>
  obtain ⟨u,hu⟩:∃u,s=36::u:=by
   cases s with
   |nil=>simp at h0
   |cons b t=>
    rw [show byteAt (b::t) 0=(b.toNat:Int) from byteAt_app [] b t] at h36
    simp at h36
    exact ⟨t,by rw [show b=36 from UInt8.toNat_inj.1 (by show b.toNat=36;omega)]⟩
  have HC0:cutP s [36]=(u,true):=by rw [hu];rfl
  have hd:subStr s 1 ((s.length:Nat):Int)=u:=by rw [sub_drop1,hu];rfl
  dsimp only [qT2_12,qT2_13,qT2_14,qT2_15,qT2_2,qT2_22,qT2_23,qT2_26,qT2_28,qT2_3,qT2_33];rw [hd]
  clear hd
  refine ⟨fun h2 H8 _ hI=>bad ?_ hI.pres,fun h2=> ?_⟩
  ·
   simp at h2
   unfold cellF
   rw [HC0]
   cases u with
   |nil=>rfl
   |cons c v=>
    have:v=[]:=List.eq_nil_of_length_eq_zero (by simp at h2;omega)
    subst this
    simp only
    split
    ·unfold restF okRow inF;simp [cutP,decF,digs]
    ·rfl
  ·cases u with
   |nil=>simp at h2
   |cons c v=>
    cases v with
    |nil=>simp at h2
    |cons w v=>
     have hb:byteAt (c::w::v) 0=(c.toNat:Int):=byteAt_app [] c (w::v)
     have hw:byteAt (w::v) 0=(w.toNat:Int):=byteAt_app [] w v
     have e1:subStr (c::w::v) 0 1=[c]:=by rw [show (1:Int)=((1:Nat):Int) from rfl,sub_take];rfl
     rw [hb,e1]
     simp only [sub_drop1,List.drop_succ_cons,List.drop_zero]
     refine ⟨⟨by omega,by first |(simp;done) |(simp;omega)⟩,fun hI=>⟨_,x157 _ _,Ret.use ⟨_,rfl⟩,fun b11 H12 ⟨e11,_⟩=>⟨fun h11 H13 _ hI=>bad ?_ hI.pres,fun h11=>⟨⟨by omega,by omega,by first |(simp;done) |(simp;omega)⟩,fun hI=>⟨_,s252 [c] H12 (by simp),Ret.use ⟨_,rfl⟩,fun s16 H17 ⟨e16,_⟩=> ?_⟩⟩⟩⟩⟩
     ·cases e11
      have:letF (c.toNat:Int)=false:=by simpa using h11
      unfold cellF
      rw [HC0]
      simp only
      rw [this];rfl
     ·cases e11
      have hlet:letF (c.toNat:Int)=true:=by simpa using h11
      cases e16
      have hu:byteAt ([c].map upB) 0=((upB c).toNat:Int):=byteAt_app [] (upB c) []
      rw [hu,colF_up c hlet]
      have hcell:∀fr z,cutP (w::v) [36]=(z,fr)->cellF s=restF (colF c) true z fr:=by
       intro fr z hz
       unfold cellF
       rw [HC0]
       simp only
       rw [hlet,if_pos rfl,hz]
      have h36:=head36 w v
      refine ⟨⟨by omega,by simp⟩,fun H19 _=>⟨⟨by omega,by first |(simp;done) |(simp;omega),by omega⟩,⟨by omega,by first |(simp;done) |(simp;omega)⟩,fun hd2 H22 _=> ?_,fun hd2=> ?_⟩⟩
      ·rw [hw] at hd2
       have hz:cutP (w::v) [36]=(v,true):=h36.1 (by simpa using hd2)
       refine ⟨⟨by omega,by first |(simp;done) |(simp;omega),by omega⟩,fun h1 H24 _ hI=>bad ?_ hI.pres,fun h1=>⟨fun h3 H25 _ hI=>bad ?_ hI.pres,fun h3=>⟨⟨by omega,by simp at h1;omega⟩,fun h48 H27 _ hI=>bad ?_ hI.pres,fun h48 d28=> ?_⟩⟩⟩
       ·rw [hcell _ _ hz];exact rest_short (by simp at h1;omega)
       ·rw [hcell _ _ hz];exact rest_long (by simp at h3;omega)
       ·rw [hcell _ _ hz];exact rest_48 (by simp at h1;omega) h48
       ·rw [hcell _ _ hz]
        exact loop242 v (by simp at h1 h3;omega) (colF c) true true H i1 i3 zeroR (h48_of (by simp at h1;omega) h48) v [] d28 H22 rfl rfl
      ·rw [hw] at hd2
       have hz:cutP (w::v) [36]=(w::v,false):=h36.2 (by simpa using hd2)
       refine ⟨fun h1 H24 _ hI=>bad ?_ hI.pres,fun h1=>⟨fun h3 H25 _ hI=>bad ?_ hI.pres,fun h3=>⟨⟨by omega,by simp⟩,fun h48 H27 _ hI=>bad ?_ hI.pres,fun h48 d28=> ?_⟩⟩⟩
       ·rw [hcell _ _ hz];exact rest_short (by simp at h1;omega)
       ·rw [hcell _ _ hz];exact rest_long (by simp at h3 |-;omega)
       ·rw [hcell _ _ hz];exact rest_48 (by simp) h48
       ·rw [hcell _ _ hz]
        exact loop242 (w::v) (by simp at h1 h3 |-;omega) (colF c) true false H i1 i3 zeroR (h48_of (by simp) h48) (w::v) [] d28 _ rfl rfl
 case plain=>
  have HC0:cutP s [36]=(s,false):=by
   cases s with
   |nil=>simp at h0
   |cons b t=>
    rw [show byteAt (b::t) 0=(b.toNat:Int) from byteAt_app [] b t] at h36
    exact (head36 b t).2 (by simpa using h36)
  refine ⟨fun h2 H8 _ hI=>bad ?_ hI.pres,fun h2=> ?_⟩
  ·
   simp at h2
   unfold cellF
   rw [HC0]
   cases s with
   |nil=>rfl
   |cons c v=>
    have:v=[]:=List.eq_nil_of_length_eq_zero (by simp at h2;omega)
    subst this
    simp only
    split
    ·unfold restF okRow inF;simp [cutP,decF,digs]
    ·rfl
  ·cases s with
   |nil=>simp at h2
   |cons c v=>
    cases v with
    |nil=>simp at h2
    |cons w v=>
     have hb:byteAt (c::w::v) 0=(c.toNat:Int):=byteAt_app [] c (w::v)
     have hw:byteAt (w::v) 0=(w.toNat:Int):=byteAt_app [] w v
     have e1:subStr (c::w::v) 0 1=[c]:=by rw [show (1:Int)=((1:Nat):Int) from rfl,sub_take];rfl
     dsimp only [qT2_12,qT2_13,qT2_14,qT2_15,qT2_2,qT2_22,qT2_23,qT2_26,qT2_28,qT2_3,qT2_33];rw [hb,e1]
     simp only [sub_drop1,List.drop_succ_cons,List.drop_zero]
     refine ⟨⟨by omega,by first |(simp;done) |(simp;omega)⟩,fun hI=>⟨_,x157 _ _,Ret.use ⟨_,rfl⟩,fun b11 H12 ⟨e11,_⟩=>⟨fun h11 H13 _ hI=>bad ?_ hI.pres,fun h11=>⟨⟨by omega,by omega,by first |(simp;done) |(simp;omega)⟩,fun hI=>⟨_,s252 [c] H12 (by simp),Ret.use ⟨_,rfl⟩,fun s16 H17 ⟨e16,_⟩=> ?_⟩⟩⟩⟩⟩
     ·cases e11
      have:letF (c.toNat:Int)=false:=by simpa using h11
      unfold cellF
      rw [HC0]
      simp only
      rw [this];rfl
     ·cases e11
      have hlet:letF (c.toNat:Int)=true:=by simpa using h11
      cases e16
      have hu:byteAt ([c].map upB) 0=((upB c).toNat:Int):=byteAt_app [] (upB c) []
      rw [hu,colF_up c hlet]
      have hcell:∀fr z,cutP (w::v) [36]=(z,fr)->cellF (c::w::v)=restF (colF c) false z fr:=by
       intro fr z hz
       unfold cellF
       rw [HC0]
       simp only
       rw [hlet,if_pos rfl,hz]
      have h36:=head36 w v
      refine ⟨⟨by omega,by simp⟩,fun H19 _=>⟨⟨by omega,by first |(simp;done) |(simp;omega),by omega⟩,⟨by omega,by first |(simp;done) |(simp;omega)⟩,fun hd2 H22 _=> ?_,fun hd2=> ?_⟩⟩
      ·rw [hw] at hd2
       have hz:cutP (w::v) [36]=(v,true):=h36.1 (by simpa using hd2)
       refine ⟨⟨by omega,by first |(simp;done) |(simp;omega),by omega⟩,fun h1 H24 _ hI=>bad ?_ hI.pres,fun h1=>⟨fun h3 H25 _ hI=>bad ?_ hI.pres,fun h3=>⟨⟨by omega,by simp at h1;omega⟩,fun h48 H27 _ hI=>bad ?_ hI.pres,fun h48 d28=> ?_⟩⟩⟩
       ·rw [hcell _ _ hz];exact rest_short (by simp at h1;omega)
       ·rw [hcell _ _ hz];exact rest_long (by simp at h3;omega)
       ·rw [hcell _ _ hz];exact rest_48 (by simp at h1;omega) h48
       ·rw [hcell _ _ hz]
        exact loop242 v (by simp at h1 h3;omega) (colF c) false true H i1 i3 zeroR (h48_of (by simp at h1;omega) h48) v [] d28 H22 rfl rfl
      ·rw [hw] at hd2
       have hz:cutP (w::v) [36]=(w::v,false):=h36.2 (by simpa using hd2)
       refine ⟨fun h1 H24 _ hI=>bad ?_ hI.pres,fun h1=>⟨fun h3 H25 _ hI=>bad ?_ hI.pres,fun h3=>⟨⟨by omega,by simp⟩,fun h48 H27 _ hI=>bad ?_ hI.pres,fun h48 d28=> ?_⟩⟩⟩
       ·rw [hcell _ _ hz];exact rest_short (by simp at h1;omega)
       ·rw [hcell _ _ hz];exact rest_long (by simp at h3 |-;omega)
       ·rw [hcell _ _ hz];exact rest_48 (by simp) h48
       ·rw [hcell _ _ hz]
        exact loop242 (w::v) (by simp at h1 h3 |-;omega) (colF c) false false H i1 i3 zeroR (h48_of (by simp) h48) (w::v) [] d28 _ rfl rfl
 case empty=>
  have:s=[]:=by simpa using h0
  subst this
  exact ⟨fun _ H8 _ hI=>bad rfl hI.pres,fun h=>by simp at h⟩
theorem cellL_inv{o:Option RefC}{x:RefC}{b:Bool}(h:LV.tuple [x.lv,.bool b]=cellL o):o=if b then some x else none:=by
 cases o with
 |none=>
  simp only [cellL,LV.tuple.injEq,List.cons.injEq,LV.bool.injEq,and_true] at h
  rw [h.2];rfl
 |some r=>
  simp only [cellL,LV.tuple.injEq,List.cons.injEq,LV.bool.injEq,and_true] at h
  rw [h.2,if_pos rfl]
  congr 1
  have:=h.1
  cases x;cases r
  simp only [RefC.lv,RefC.cs,LV.agg.injEq,List.cons.injEq,LV.str.injEq,LV.bool.injEq,LV.int.injEq,and_true,true_and] at this
  obtain ⟨h1,h2,h3,h4,h5,h6⟩:=this
  subst h1;subst h2;subst h3;subst h4;subst h5;subst h6
  rfl
def tailR(b s:List UInt8):Option RefC:=match cutF 33 s with
 |some (x,y)=>if nameF x then (cellF y).map (fun r=>⟨b,x,r.row,r.col,r.fixRow,r.fixCol⟩) else none
 |none=>(cellF s).map (fun r=>⟨b,[],r.row,r.col,r.fixRow,r.fixCol⟩)
def refTF(s:List UInt8):Option RefC:=
 if (cutP s [91]).2 then match cutF 93 (cutP s [91]).1 with
  |some (b,m)=>if nameF b&&(cutF 33 m).isSome then tailR b m else none
  |none=>none
 else tailR [] s
theorem cut_inv{s x y:List UInt8}{b:Bool}{c:UInt8}(h:LV.tuple [.str x,.str y,.bool b]=cutL s c):cutF c s=if b then some (x,y) else none:=by
 unfold cutL at h
 cases k:cutF c s with
 |none=>
  rw [k] at h
  simp only [LV.tuple.injEq,List.cons.injEq,LV.str.injEq,LV.bool.injEq,and_true] at h
  rw [h.2.2];rfl
 |some p=>
  obtain ⟨x',y'⟩:=p
  rw [k] at h
  simp only [LV.tuple.injEq,List.cons.injEq,LV.str.injEq,LV.bool.injEq,and_true] at h
  rw [h.2.2,h.1,h.2.1];rfl
theorem cutF_len{c:UInt8}{s x y:List UInt8}(h:cutF c s=some (x,y)):x.length+(y.length+1)=s.length:=by
 rw [cutF_eq h];simp
theorem s235(s:List UInt8)(hs:s.length<=1000)(H:LHeap):CallL cfg 235 [.str s] H (Ret (cellL (refTF s)) H):=by
 have bad:∀{H':LHeap},refTF s=none->PresX [] H H'->Ret (cellL (refTF s)) H (.tuple [.agg [.str [],.str [],.int .i64 0,.int .i64 0,.bool false,.bool false],.bool false]) H':=fun h p=>⟨by rw [h];rfl,p⟩
 have good:∀{H':LHeap} {b x:List UInt8} {m n:Int} {f g:Bool},refTF s=some ⟨b,x,m,n,f,g⟩->PresX [] H H'->Ret (cellL (refTF s)) H (.tuple [.agg [.str b,.str x,.int .i64 m,.int .i64 n,.bool f,.bool g],.bool true]) H':=fun h p=>⟨by rw [h];rfl,p⟩
 refine e235t _ s H fun i1 H2 _ _ hI=>⟨_,s130 s [91] H2,Ret.use ⟨_,_,rfl⟩,fun s4 b5 H6 ⟨e,_⟩=> ?_⟩
 simp only [LV.tuple.injEq,List.cons.injEq,LV.str.injEq,LV.bool.injEq,and_true] at e
 obtain ⟨e1,e2⟩:=e
 have hl:=cutP_le s [91]
 rw [<-e1] at hl
 refine ⟨fun h5 hI=>⟨_,s231 s4 93 H6 (by omega),Ret.use (cutL_sh _ _),fun s8 s9 b10 H11 ⟨e10,_⟩=> ?_⟩,fun h5 hI=>⟨_,s231 s 33 H6 hs,Ret.use (cutL_sh _ _),fun s53 s54 b55 H56 ⟨e55,_⟩=> ?_⟩⟩
 ·have q1:=cut_inv e10
  rw [h5] at e2
  have F0:refTF s=match cutF 93 s4 with
   |some (b,m)=>if nameF b&&(cutF 33 m).isSome then tailR b m else none
   |none=>none:=by unfold refTF;rw [<-e2,<-e1];rfl
  rw [q1] at F0
  refine ⟨fun h10 H12 _ hI=>bad ?_ hI.pres,fun h10 hI=>⟨_,s90 s8 H11,Ret.use ⟨_,rfl⟩,fun b14 H15 ⟨e14,_⟩=> ?_⟩⟩
  ·have:b10=false:=by simpa using h10
   rw [F0,this];rfl
  ·have hb10:b10=true:=by simpa using h10
   rw [hb10] at F0 q1
   have hl9:=cutF_len q1
   cases e14
   refine ⟨fun h14 H16 _ hI=>bad ?_ hI.pres,fun h14 hI=>⟨_,s237 s9 33 H15,Ret.use ⟨_,rfl⟩,fun b18 H19 ⟨e18,_⟩=> ?_⟩⟩
   ·have:nameF s8=false:=by simpa using h14
    rw [F0];simp [this]
   ·have hn8:nameF s8=true:=by simpa using h14
    cases e18
    refine ⟨fun h18 H20 _ hI=>bad ?_ hI.pres,fun h18 hI=>⟨_,s231 s9 33 H19 (by omega),Ret.use (cutL_sh _ _),fun s22 s23 b24 H25 ⟨e24,_⟩=> ?_⟩⟩
    ·have:(cutF 33 s9).isSome=false:=by simpa using h18
     rw [F0];simp [this]
    ·have hc:(cutF 33 s9).isSome=true:=by simpa using h18
     have F1:refTF s=tailR s8 s9:=by rw [F0];simp [hn8,hc]
     have q2:=cut_inv e24
     unfold tailR at F1
     rw [q2] at F1
     refine ⟨fun h24 hI=>⟨_,s90 s22 H25,Ret.use ⟨_,rfl⟩,fun b27 H28 ⟨e27,_⟩=> ?_⟩,fun h24 hI=> ?_⟩
     ·rw [h24] at F1 q2
      have hl23:=cutF_len q2
      cases e27
      refine ⟨fun h27 H29 _ hI=>bad ?_ hI.pres,fun h27 hI=>⟨_,s236 s23 (by omega) H28,Ret.use (cellL_sh _),fun x31 b32 H33 ⟨e32,_⟩ i34 H35 _ _ H36 _=>⟨fun h32 H37 _ hI=>bad ?_ hI.pres,fun h32 H38 _ H39 _ H40 _ hI=>good ?_ hI.pres⟩⟩⟩
      ·have:nameF s22=false:=by simpa using h27
       rw [F1];simp [this]
      ·have:nameF s22=true:=by simpa using h27
       have hb:b32=false:=by simpa using h32
       rw [F1];simp [this,cellL_inv e32,hb]
      ·have:nameF s22=true:=by simpa using h27
       have hb:b32=true:=by simpa using h32
       rw [F1];simp [this,cellL_inv e32,hb]
     ·rw [q2,h24] at hc
      cases hc
 ·have h5':b5=false:=h5
  rw [h5'] at e2
  have F1:refTF s=tailR [] s:=by unfold refTF;rw [<-e2];rfl
  have q2:=cut_inv e55
  unfold tailR at F1
  rw [q2] at F1
  refine ⟨fun h24 hI=>⟨_,s90 s53 H56,Ret.use ⟨_,rfl⟩,fun b27 H28 ⟨e27,_⟩=> ?_⟩,fun h24 hI=>⟨_,s236 s hs H56,Ret.use (cellL_sh _),fun x31 b32 H33 ⟨e32,_⟩ i34 H35 _ _ H36 _=>⟨fun h32 H37 _ hI=>bad ?_ hI.pres,fun h32 H38 _ H39 _ H40 _ hI=>good ?_ hI.pres⟩⟩⟩
  ·rw [h24] at F1 q2
   have hl23:=cutF_len q2
   cases e27
   refine ⟨fun h27 H29 _ hI=>bad ?_ hI.pres,fun h27 hI=>⟨_,s236 s54 (by omega) H28,Ret.use (cellL_sh _),fun x31 b32 H33 ⟨e32,_⟩ i34 H35 _ _ H36 _=>⟨fun h32 H37 _ hI=>bad ?_ hI.pres,fun h32 H38 _ H39 _ H40 _ hI=>good ?_ hI.pres⟩⟩⟩
   ·have:nameF s53=false:=by simpa using h27
    rw [F1];simp [this]
   ·have:nameF s53=true:=by simpa using h27
    have hb:b32=false:=by simpa using h32
    rw [F1];simp [this,cellL_inv e32,hb]
   ·have:nameF s53=true:=by simpa using h27
    have hb:b32=true:=by simpa using h32
    rw [F1];simp [this,cellL_inv e32,hb]
  ·rw [h24] at F1
   have hb:b32=false:=by simpa using h32
   rw [F1];simp [cellL_inv e32,hb]
  ·rw [h24] at F1
   have hb:b32=true:=by simpa using h32
   rw [F1];simp [cellL_inv e32,hb]
theorem loop284(s:List UInt8)(c:UInt8)(hs:s.length<=1000)(H0:LHeap)(r:Int):∀(C A:List UInt8) (d:Nat->LV) (H:LHeap),A++C=s->findByte c C A.length=r->
  GoesT cfg 284 (Ret (.int .i64 r) H0) [] H0 [] (L284t_0 d (A.length:Int) s (c.toNat:Int)) (loopAt cfg 284 0) H
 |[],A,d,H,hA,hr=>by
  intro hin hI
  rw [List.append_nil] at hA
  subst hA
  exact g284t_0 _ H0 d A.length A c.toNat H ⟨fun h=>(by simp at h),fun _ hI=>⟨by rw [<-hr];rfl,hI.pres⟩⟩ hin hI
 |b::C,A,d,H,hA,hr=>by
  intro hin hI
  have hb:byteAt s (A.length:Int)=(b.toNat:Int):=by rw [<-hA];exact byteAt_app A b C
  have hl:A.length+(C.length+1)=s.length:=by rw [<-hA];simp
  unfold findByte at hr
  refine g284t_0 _ H0 d A.length s c.toNat H ⟨fun _=>⟨by omega,fun h hI=>⟨?_,hI.pres⟩,fun h d4=> ?_⟩,fun h=>(by simp at h;omega)⟩ hin hI
  ·rw [hb] at h
   have:b=c:=UInt8.toNat_inj.1 (by have:=eq_of_beq h;omega)
   subst this
   rw [beq_self_eq_true,if_pos rfl] at hr
   rw [<-hr]
  ·rw [hb] at h
   have hne:(b==c)=false:=by
    rw [beq_eq_false_iff_ne] at h |-
    intro e;subst e;exact h rfl
   rw [hne,if_neg (by simp)] at hr
   rw [lwrap_small (by omega) (by omega),show (A.length:Int)+1=(((A++[b]).length:Nat):Int) by simp]
   exact loop284 s c hs H0 r C (A++[b]) d4 H (by rw [<-hA];simp) (by simpa using hr)
theorem s284(s:List UInt8)(c:UInt8)(hs:s.length<=1000)(H:LHeap):CallL cfg 284 [.str s,.int .u8 (c.toNat:Int)] H (Ret (.int .i64 (findByte c s 0)) H):=
 e284t _ s _ H fun d=>loop284 s c hs H _ s [] d H rfl rfl
theorem tailR_none{b s:List UInt8}(h:cutF 33 s=none):tailR b s=(cellF s).map (fun r=>⟨b,[],r.row,r.col,r.fixRow,r.fixCol⟩):=by
 unfold tailR;rw [h]
theorem tailR_some{b s x y:List UInt8}(h:cutF 33 s=some (x,y)):tailR b s=if nameF x then (cellF y).map (fun r=>⟨b,x,r.row,r.col,r.fixRow,r.fixCol⟩) else none:=by
 unfold tailR;rw [h]
theorem cutF_cons(c b:UInt8)(s:List UInt8):cutF c (b::s)=if b==c then some ([],s) else match cutF c s with |some (x,y)=>some (b::x,y) |none=>none:=rfl
theorem cut_find{c:UInt8}{s:List UInt8}:(cutF c s=none/\findByte c s 0= -1)\/(∃x y,cutF c s=some (x,y)/\findByte c s 0=(x.length:Int)/\s=x++c::y/\x.length+(y.length+1)=s.length):=by
 rw [find_cut]
 cases h:cutF c s with
 |none=>exact .inl ⟨rfl,rfl⟩
 |some p=>exact .inr ⟨p.1,p.2,rfl,by simp,cutF_eq h,cutF_len h⟩
theorem cut_sub{s x y:List UInt8}{c:UInt8}(hs:s.length<=1000)(h:s=x++c::y):subStr s 0 (x.length:Int)=x/\subStr s (lwrap .i64 ((x.length:Int)+1)) ((s.length:Nat):Int)=y/\lwrap .i64 ((x.length:Int)+1)=((x.length+1:Nat):Int):=by
 have hl:s.length=x.length+(y.length+1):=by rw [h];simp
 have hw:lwrap .i64 (((x.length:Nat):Int)+1)=((x.length+1:Nat):Int):=by rw [lwrap_small (by omega) (by omega)];simp
 refine ⟨?_,?_,hw⟩
 ·rw [sub_take,h];simp
 ·rw [hw,sub_drop,h];simp
theorem s241(s:List UInt8)(hs:s.length<=1000)(H:LHeap):CallL cfg 241 [.str s] H (Ret (cellL (refTF s)) H):=by
 have bad:∀{H':LHeap},refTF s=none->PresX [] H H'->Ret (cellL (refTF s)) H (.tuple [.agg [.str [],.str [],.int .i64 0,.int .i64 0,.bool false,.bool false],.bool false]) H':=fun h p=>⟨by rw [h];rfl,p⟩
 have good:∀{H':LHeap} {b x:List UInt8} {m n:Int} {f g:Bool},refTF s=some ⟨b,x,m,n,f,g⟩->PresX [] H H'->Ret (cellL (refTF s)) H (.tuple [.agg [.str b,.str x,.int .i64 m,.int .i64 n,.bool f,.bool g],.bool true]) H':=fun h p=>⟨by rw [h];rfl,p⟩
 refine e241t _ s H fun i1 H2 _ _=>⟨fun h0=> ?full,fun h0=> ?empty⟩
 case empty=>
  have:s=[]:=by simpa using h0
  subst this
  have hn:refTF []=none:=rfl
  refine fun hI=>⟨_,s284 [] 33 (by simp) _,Ret.use ⟨_,rfl⟩,fun n87 H88 ⟨e,_⟩=> ?_⟩
  cases e
  refine ⟨fun h=> ?_,fun _ hI=>⟨_,s242 [] (by simp) _,Ret.use (cellL_sh _),fun x109 b110 H111 ⟨e,_⟩ i112 H113 _ _ H114 _=>⟨fun _ H115 _ hI=>bad hn hI.pres,fun h=> ?_⟩⟩⟩
  ·simp [findByte] at h
  ·have:=cellL_inv e
   rw [show cellF []=none from rfl] at this
   simp at h
   rw [h] at this
   cases this
 case full=>
  cases s with
  |nil=>simp at h0
  |cons a t=>
  have ha:byteAt (a::t) 0=(a.toNat:Int):=byteAt_app [] a t
  have ht:t.length<=999:=by simpa using hs
  refine ⟨⟨by omega,by simp⟩,fun h91 hI=>⟨_,s284 _ 93 hs _,Ret.use ⟨_,rfl⟩,fun n5 H6 ⟨e5,_⟩=> ?book⟩,fun h91 hI=>⟨_,s284 _ 33 hs _,Ret.use ⟨_,rfl⟩,fun n54 H55 ⟨e54,_⟩=> ?plain⟩⟩
  case plain=>
   have hp:cutP (a::t) [91]=(a::t,false):=by
    refine cutP_no ?_
    rw [ha] at h91
    simp
    intro e;subst e;simp at h91
   have F0:refTF (a::t)=tailR [] (a::t):=by unfold refTF;rw [hp];rfl
   cases e54
   rcases cut_find (c:=33) (s:=a::t) with ⟨k,kf⟩ |⟨x,y,k,kf,ks,kl⟩
   ·rw [kf]
    rw [tailR_none k] at F0
    refine ⟨fun h=>(by simp at h),fun _ hI=>⟨_,s242 _ hs _,Ret.use (cellL_sh _),fun x32 b33 H34 ⟨e33,_⟩ i35 H36 _ _ H37 _=>⟨fun h H38 _ hI=>bad ?_ hI.pres,fun h H39 _ H40 _ H41 _ hI=>good ?_ hI.pres⟩⟩⟩
    ·have hb:b33=false:=by simpa using h
     rw [F0];simp [cellL_inv e33,hb]
    ·have hb:b33=true:=by simpa using h
     rw [F0];simp [cellL_inv e33,hb]
   ·rw [kf]
    rw [tailR_some k] at F0
    obtain ⟨c1,c2,c3⟩:=cut_sub hs ks
    dsimp only [qT2_10,qT2_17,qT2_18,qT2_2,qT2_21,qT2_29,qT2_31,qT2_32,qT2_6]
    rw [c1,c2]
    refine ⟨fun _=>⟨by omega,fun hI=>⟨_,x97 x _,Ret.use ⟨_,rfl⟩,fun b25 H26 ⟨e25,_⟩=>⟨fun h25 H27 _ hI=>bad ?_ hI.pres,fun h25=>⟨by omega,by omega,fun hI=>⟨_,s242 y (by omega) _,Ret.use (cellL_sh _),fun x32 b33 H34 ⟨e33,_⟩ i35 H36 _ _ H37 _=>⟨fun h H38 _ hI=>bad ?_ hI.pres,fun h H39 _ H40 _ H41 _ hI=>good ?_ hI.pres⟩⟩⟩⟩⟩⟩,fun h=>(by simp at h)⟩
    ·cases e25
     have:nameF x=false:=by simpa using h25
     rw [F0];simp [this]
    ·cases e25
     have:nameF x=true:=by simpa using h25
     have hb:b33=false:=by simpa using h
     rw [F0];simp [this,cellL_inv e33,hb]
    ·cases e25
     have:nameF x=true:=by simpa using h25
     have hb:b33=true:=by simpa using h
     rw [F0];simp [this,cellL_inv e33,hb]
  case book=>
   have hab:a=91:=by
    rw [ha] at h91
    exact UInt8.toNat_inj.1 (by show a.toNat=91;simp at h91;omega)
   subst hab
   have hp:cutP (91::t) [91]=(t,true):=rfl
   have F0:refTF (91::t)=match cutF 93 t with
    |some (b,m)=>if nameF b&&(cutF 33 m).isSome then tailR b m else none
    |none=>none:=by unfold refTF;rw [hp];rfl
   cases e5
   have hcut:findByte 93 (91::t) 0=match cutF 93 t with |some (x,_)=>((x.length+1:Nat):Int) |none=> -1:=by
    rw [find_cut,cutF_cons,if_neg (by decide)]
    cases cutF 93 t with
    |none=>rfl
    |some p=>simp
   rcases cut_find (c:=93) (s:=t) with ⟨k,kf⟩ |⟨b,m,k,kf,ks,kl⟩
   ·rw [k] at F0 hcut
    rw [hcut]
    exact ⟨fun _ H7 _ hI=>bad F0 hI.pres,fun h=>(by simp at h)⟩
   ·rw [k] at F0 hcut
    simp only at F0 hcut
    rw [hcut]
    have hw:lwrap .i64 (((b.length+1:Nat):Int)+1)=((b.length+2:Nat):Int):=by rw [lwrap_small (by omega) (by omega)];simp;omega
    have c1:subStr (91::t) 1 ((b.length+1:Nat):Int)=b:=by
     unfold subStr
     rw [ks];simp
    have c2:subStr (91::t) ((b.length+2:Nat):Int) (((91::t).length:Nat):Int)=m:=by
     rw [sub_drop,ks];simp
    dsimp only [qT2_10,qT2_17,qT2_18,qT2_2,qT2_21,qT2_29,qT2_31,qT2_32,qT2_6]
    rw [hw,c1,c2]
    have hm:m.length<=1000:=by omega
    have hlen:(((91::t).length:Nat):Int)=(t.length:Int)+1:=by simp
    refine ⟨fun h=>(by simp at h;omega),fun _=>⟨by omega,fun hI=>⟨_,x97 b _,Ret.use ⟨_,rfl⟩,fun b10 H11 ⟨e10,_⟩=>⟨fun h10 H12 _ hI=>bad ?_ hI.pres,fun h10=>⟨by omega,by omega,fun hI=>⟨_,s284 m 33 hm _,Ret.use ⟨_,rfl⟩,fun n17 H18 ⟨e17,_⟩=>⟨fun h17 H19 _ hI=>bad ?_ hI.pres,fun h17 hI=>⟨_,s284 m 33 hm _,Ret.use ⟨_,rfl⟩,fun n21 H22 ⟨e21,_⟩=> ?_⟩⟩⟩⟩⟩⟩⟩⟩
    ·cases e10
     have:nameF b=false:=by simpa using h10
     rw [F0];simp [this]
    ·cases e10;cases e17
     rcases cut_find (c:=33) (s:=m) with ⟨k2,kf2⟩ |⟨x,y,k2,kf2,ks2,kl2⟩
     ·rw [F0,k2];simp
     ·rw [kf2] at h17;simp at h17;omega
    ·cases e10;cases e17;cases e21
     have hnb:nameF b=true:=by simpa using h10
     rcases cut_find (c:=33) (s:=m) with ⟨k2,kf2⟩ |⟨x,y,k2,kf2,ks2,kl2⟩
     ·rw [kf2] at h17;simp at h17
     ·rw [kf2]
      rw [k2] at F0
      simp only [Option.isSome_some,Bool.and_true,hnb,if_true,tailR_some k2] at F0
      obtain ⟨c1,c2,c3⟩:=cut_sub hm ks2
      rw [c1,c2]
      refine ⟨fun _=>⟨by omega,fun hI=>⟨_,x97 x _,Ret.use ⟨_,rfl⟩,fun b25 H26 ⟨e25,_⟩=>⟨fun h25 H27 _ hI=>bad ?_ hI.pres,fun h25=>⟨by omega,by omega,fun hI=>⟨_,s242 y (by omega) _,Ret.use (cellL_sh _),fun x32 b33 H34 ⟨e33,_⟩ i35 H36 _ _ H37 _=>⟨fun h H38 _ hI=>bad ?_ hI.pres,fun h H39 _ H40 _ H41 _ hI=>good ?_ hI.pres⟩⟩⟩⟩⟩⟩,fun h=>(by simp at h)⟩
      ·cases e25
       have:nameF x=false:=by simpa using h25
       rw [F0];simp [this]
      ·cases e25
       have:nameF x=true:=by simpa using h25
       have hb:b33=false:=by simpa using h
       rw [F0];simp [this,cellL_inv e33,hb]
      ·cases e25
       have:nameF x=true:=by simpa using h25
       have hb:b33=true:=by simpa using h
       rw [F0];simp [this,cellL_inv e33,hb]
def zeroT:TokC:=⟨0,0,[],[],[],0,0,false,false⟩
def tokL:Option (TokC×Nat)->LV
 |some (t,n)=>.tuple [t.lv,.int .i64 (n:Int)]
 |none=>.tuple [zeroT.lv,.int .i64 0]
theorem tokL_sh(o:Option (TokC×Nat)):hasSh (.tuple [(.cust TokC TokC.lv),.int .i64]) (tokL o):=by
 cases o with
 |none=>exact ⟨_,_,rfl⟩
 |some r=>exact ⟨_,_,rfl⟩
theorem loop240(s:List UInt8)(hs:s.length<=1000)(H0:LHeap)(r:Nat):∀(C A:List UInt8) (d:Nat->LV) (H:LHeap),A++C=s->A.length+spanF wordB C=r->
  GoesT cfg 240 (Ret (.int .i64 (r:Int)) H0) [] H0 [] (L240t_0 d (A.length:Int) s) (loopAt cfg 240 0) H
 |[],A,d,H,hA,hr=>by
  intro hin hI
  have hrl:r=s.length:=by rw [<-hr,<-hA];simp [spanF]
  rw [List.append_nil] at hA
  subst hA
  exact g240t_0 _ H0 d A.length A H ⟨fun h=>(by simp at h),fun _ hI=>⟨by rw [hrl],hI.pres⟩⟩ hin hI
 |b::C,A,d,H,hA,hr=>by
  intro hin hI
  have hb:byteAt s (A.length:Int)=(b.toNat:Int):=by rw [<-hA];exact byteAt_app A b C
  have hl:A.length+(C.length+1)=s.length:=by rw [<-hA];simp
  have rg:(0:Int)<=(A.length:Int)/\(A.length:Int)<((s.length:Nat):Int):=by omega
  unfold spanF at hr
  have yes:wordB (b.toNat:Int)=true->∀(d:Nat->LV) (H:LHeap),GoesT cfg 240 (Ret (.int .i64 (r:Int)) H0) [] H0 [] (L240t_0 d (lwrap .i64 ((A.length:Int)+1)) s) (loopAt cfg 240 0) H:=by
   intro hw d H
   rw [hw,if_pos rfl] at hr
   rw [lwrap_small (by omega) (by omega),show (A.length:Int)+1=(((A++[b]).length:Nat):Int) by simp]
   exact loop240 s hs H0 r C (A++[b]) d H (by rw [<-hA];simp) (by simp;omega)
  have no:wordB (b.toNat:Int)=false->r=A.length:=by
   intro hw
   rw [hw,if_neg (by simp)] at hr
   omega
  have c157:CallL cfg 157 [.int .u8 (byteAt s (A.length:Int))] H (Ret (.bool (letF (b.toNat:Int))) H):=by rw [hb];exact x157 _ H
  have c153:∀H,CallL cfg 153 [.int .u8 (byteAt s (A.length:Int))] H (Ret (.bool (digF (b.toNat:Int))) H):=by intro H;rw [hb];exact x153 _ H
  refine g240t_0 _ H0 d A.length s H ⟨fun _=>⟨rg,fun hI=>⟨_,c157,Ret.use ⟨_,rfl⟩,fun b4 H5 ⟨e4,_⟩=>⟨fun h4 d6=>yes ?_ d6 H5,fun h4=>⟨rg,fun hI=>⟨_,c153 H5,Ret.use ⟨_,rfl⟩,fun b9 H10 ⟨e9,_⟩=>⟨fun h9 d11=>yes ?_ d11 H10,fun h9=>⟨rg,fun h95 d13=>yes ?_ d13 H10,fun h95=>⟨rg,fun h36 d15=>yes ?_ d15 H10,fun h36 hI=>⟨?_,hI.pres⟩⟩⟩⟩⟩⟩⟩⟩⟩,fun h=>(by simp at h;omega)⟩ hin hI
  ·cases e4;unfold wordB;rw [h4];rfl
  ·cases e4;cases e9;unfold wordB;rw [h4,h9];rfl
  ·rw [hb] at h95;unfold wordB;rw [h95];simp
  ·rw [hb] at h36;unfold wordB;rw [h36];simp
  ·cases e4;cases e9
   rw [hb] at h95 h36
   rw [no (by unfold wordB;rw [h4,h9,h95,h36];rfl)]
theorem s240(s:List UInt8)(hs:s.length<=1000)(H:LHeap):CallL cfg 240 [.str s] H (Ret (.int .i64 ((spanF wordB s:Nat):Int)) H):=
 e240t _ s H fun d=>loop240 s hs H _ s [] d H rfl (by simp)
theorem s243(s:List UInt8)(hs:s.length<=1000)(b:Bool)(H:LHeap):CallL cfg 243 [.str s,.bool b] H (Ret (.bool (nameF s||(!b&&decide (0<=truthF s)))) H):=by
 refine e243t _ s b H fun hI=>⟨_,x97 s H,Ret.use ⟨_,rfl⟩,fun b3 H4 ⟨e3,_⟩=>⟨fun h3 hI=>⟨?_,hI.pres⟩,fun h3=>⟨fun hb hI=>⟨_,x182 s hs H4,Ret.use ⟨_,rfl⟩,fun n6 H7 ⟨e6,_⟩ hI=>⟨?_,hI.pres⟩⟩,fun hb hI=>⟨?_,hI.pres⟩⟩⟩⟩
 ·cases e3;rw [h3];rfl
 ·cases e3;cases e6;rw [h3,hb];rfl
 ·cases e3;rw [h3,hb];rfl
def refT(r:RefC):TokC:=⟨3,0,[],r.book,r.sheet,r.row,r.col,r.fixRow,r.fixCol⟩
def wordT(b w:List UInt8):TokC:=⟨4,0,w,b,[],0,0,false,false⟩
def wordF(b w:List UInt8)(n:Nat):Option (TokC×Nat):=match (if b=[] then cellF w else none) with
 |some r=>some (refT r,n)
 |none=>if nameF w||(b==[]&&decide (0<=truthF w)) then some (wordT b w,n) else none
theorem word_cell{b w:List UInt8}{n:Nat}{r:RefC}(hb:b=[])(h:cellF w=some r):wordF b w n=some (refT r,n):=by
 unfold wordF;rw [if_pos hb,h]
theorem word_none{b w:List UInt8}{n:Nat}(h:b=[]->cellF w=none):wordF b w n=if nameF w||(b==[]&&decide (0<=truthF w)) then some (wordT b w,n) else none:=by
 unfold wordF
 by_cases hb:b=[]
 ·rw [if_pos hb,h hb]
 ·rw [if_neg hb]
def endN(k:Nat)(s:List UInt8):Nat:=k+spanF wordB (s.drop k)
def endM(k:Nat)(s:List UInt8):Nat:=endN k s+(1+spanF wordB (s.drop (endN k s+1)))
def bangB(k:Nat)(s:List UInt8):Bool:=(s.drop (endN k s)).take 1==[33]
def endF(b:List UInt8)(k:Nat)(s:List UInt8):Option (TokC×Nat):=
 if bangB k s then (refTF (s.take (endM k s))).map fun r=>(refT r,endM k s)
 else wordF b ((s.drop k).take (endN k s-k)) (endN k s)
def namedF:List UInt8->Option (TokC×Nat)
 |[]=>none
 |c::t=>if c==91 then match cutF 93 t with
   |some (b,_)=>if nameF b then endF b (b.length+2) (c::t) else none
   |none=>none
  else endF [] 0 (c::t)
theorem endN_le{k:Nat}{s:List UInt8}(h:k<=s.length):k<=endN k s/\endN k s<=s.length:=by
 unfold endN
 have:=spanF_le wordB (s.drop k)
 rw [List.length_drop] at this
 omega
theorem bang_lt{k:Nat}{s:List UInt8}(h:bangB k s=true):endN k s<s.length:=by
 apply Classical.byContradiction
 intro hn
 unfold bangB at h
 rw [List.drop_eq_nil_of_le (by omega)] at h
 cases h
theorem endM_le{k:Nat}{s:List UInt8}(hk:k<=s.length)(h:bangB k s=true):endN k s+1<=endM k s/\endM k s<=s.length:=by
 have h1:=bang_lt h
 unfold endM
 have:=spanF_le wordB (s.drop (endN k s+1))
 rw [List.length_drop] at this
 omega
theorem byte_drop{s:List UInt8}{n:Nat}(h:n<s.length):∃b t,s.drop n=b::t/\byteAt s (n:Int)=(b.toNat:Int):=by
 have h1:s.drop n=s[n]::s.drop (n+1):=List.drop_eq_getElem_cons h
 refine ⟨_,_,h1,?_⟩
 have:=byteAt_app (s.take n) s[n] (s.drop (n+1))
 rw [<-h1,List.take_append_drop,List.length_take,Nat.min_eq_left (by omega)] at this
 exact this
theorem bang_byte{k:Nat}{s:List UInt8}(h:endN k s<s.length):bangB k s=(byteAt s ((endN k s:Nat):Int)==33):=by
 obtain ⟨b,t,h1,h2⟩:=byte_drop h
 unfold bangB
 rw [h1,h2]
 rw [Bool.eq_iff_iff]
 simp only [List.take_succ_cons,List.take_zero,beq_iff_eq,List.cons.injEq,and_true]
 constructor
 ·intro e;rw [e];rfl
 ·intro e;exact UInt8.toNat_inj.1 (by show b.toNat=33;omega)
theorem bang_end{k:Nat}{s:List UInt8}(h:¬endN k s<s.length):bangB k s=false:=by
 cases hb:bangB k s with
 |false=>rfl
 |true=>exact absurd (bang_lt hb) h
theorem sub_part(s:List UInt8)(k n:Nat):subStr s (k:Int) (n:Int)=(s.drop k).take (n-k):=by unfold subStr;simp
theorem truth_up(w:List UInt8):decide (0<=truthF w)=(w.map upB==[84,82,85,69]||w.map upB==[70,65,76,83,69]):=by
 unfold truthF
 cases h:(w.map upB==[84,82,85,69]) with
 |true=>rfl
 |false=>
  cases h2:(w.map upB==[70,65,76,83,69]) with
  |true=>rfl
  |false=>rfl
theorem name_ne{s:List UInt8}(h:nameF s=true):s≠[]:=by
 intro e;subst e;cases h
theorem s151(c:UInt8)(t:List UInt8)(hs:(c::t).length<=1000)(H:LHeap):CallL cfg 151 [.str (c::t)] H (Ret (tokL (namedF (c::t))) H):=by
 have h0:byteAt (c::t) 0=(c.toNat:Int):=byteAt_app [] c t
 have hnf:namedF (c::t)=if c==91 then (match cutF 93 t with
  |some (b,_)=>if nameF b then endF b (b.length+2) (c::t) else none
  |none=>none) else endF [] 0 (c::t):=rfl
 have hlen:(c::t).length=t.length+1:=rfl
 have hd1:(c::t).drop 1=t:=rfl
 generalize hst:c::t=s at*
 have bad:∀{H':LHeap},namedF s=none->PresX [] H H'->Ret (tokL (namedF s)) H (.tuple [.agg [.int .i64 0,.int .i64 0,.str [],.str [],.str [],.int .i64 0,.int .i64 0,.bool false,.bool false],.int .i64 0]) H':=fun h p=>⟨by rw [h];rfl,p⟩
 have good:∀{H':LHeap} {t:TokC} {n:Nat},namedF s=some (t,n)->PresX [] H H'->Ret (tokL (namedF s)) H (.tuple [.agg t.cs,.int .i64 (n:Int)]) H':=fun h p=>⟨by rw [h];rfl,p⟩
 refine e151t _ s H fun i1 H2 _ _=>⟨by omega,fun h91=> ?book,fun h91=> ?plain⟩
 case book=>
  have hc:c=91:=by rw [h0] at h91;exact UInt8.toNat_inj.1 (by show c.toNat=91;have:=eq_of_beq h91;omega)
  rw [hc,beq_self_eq_true,if_pos rfl] at hnf
  dsimp only [qT1_1,qT1_10,qT1_11,qT1_12,qT1_13,qT1_3,qT1_5,qT1_8]
  rw [sub_drop1,hd1]
  refine ⟨by omega,fun hI=>⟨_,s231 t 93 _ (by omega),Ret.use (cutL_sh _ _),fun s6 s7 b8 H9 ⟨e8,_⟩=> ?_⟩⟩
  have q1:=cut_inv e8
  rw [q1] at hnf
  refine ⟨fun h8 H10 _ hI=>bad ?_ hI.pres,fun h8 hI=>⟨_,s90 s6 _,Ret.use ⟨_,rfl⟩,fun b12 H13 ⟨e12,_⟩=>⟨fun h12 H14 _ hI=>bad ?_ hI.pres,fun h12=> ?_⟩⟩⟩
  ·have:b8=false:=by simpa using h8
   rw [hnf,this];rfl
  ·have hb8:b8=true:=by simpa using h8
   cases e12
   have:nameF s6=false:=by simpa using h12
   rw [hnf,hb8];simp [this]
  ·have hb8:b8=true:=by simpa using h8
   cases e12
   have hn6:nameF s6=true:=by simpa using h12
   have hbne:=name_ne hn6
   have F0:namedF s=endF s6 (s6.length+2) s:=by rw [hnf,hb8];simp [hn6]
   rw [hb8] at q1
   have hl6:=cutF_len q1
   have hk:s6.length+2<=s.length:=by omega
   have w1:lwrap .i64 (((s6.length:Nat):Int)+2)=((s6.length+2:Nat):Int):=by rw [lwrap_small (by omega) (by omega)];simp
   rw [w1,sub_drop]
   have w2:lwrap .i64 ((((s6.length+2):Nat):Int)+((spanF wordB (s.drop (s6.length+2)):Nat):Int))=((endN (s6.length+2) s:Nat):Int):=by
    have:=endN_le hk
    unfold endN at this |-
    skip
    rw [lwrap_small (by omega) (by omega)];simp
   refine ⟨by omega,fun hI=>⟨_,s234 _ _,Ret.use ⟨_,rfl⟩,fun n17 H18 ⟨e17,_⟩=> ?_⟩⟩
   cases e17
   rw [w2,sub_drop]
   have hN:=endN_le hk
   generalize hn:endN (s6.length+2) s=n at*
   refine ⟨by omega,fun hI=>⟨_,s232 _ [33] _,Ret.use ⟨_,rfl⟩,fun b21 H22 ⟨e21,_⟩=>⟨fun h21=> ?_,fun h21=> ?_⟩⟩⟩
   ·have hbang:bangB (s6.length+2) s=true:=by rw [h21] at e21;unfold bangB;rw [hn];exact (LV.bool.inj e21).symm
    have hM:=endM_le hk hbang
    have hlt:=bang_lt hbang
    rw [hn] at hM hlt
    have w3:lwrap .i64 (((n:Nat):Int)+1)=((n+1:Nat):Int):=by rw [lwrap_small (by omega) (by omega)];simp
    have w4:lwrap .i64 (((n:Nat):Int)+lwrap .i64 (1+((spanF wordB (s.drop (n+1)):Nat):Int)))=((endM (s6.length+2) s:Nat):Int):=by
     unfold endM at hM |-
     rw [hn] at hM |-
     rw [lwrap_small (n:=1+((spanF wordB (s.drop (n+1)):Nat):Int)) (by omega) (by omega),lwrap_small (by omega) (by omega)];simp
    rw [w3,sub_drop]
    refine ⟨by omega,fun hI=>⟨_,s234 _ _,Ret.use ⟨_,rfl⟩,fun n25 H26 ⟨e25,_⟩=> ?_⟩⟩
    cases e25
    rw [w4,sub_take]
    have F1:namedF s=(refTF (s.take (endM (s6.length+2) s))).map fun r=>(refT r,endM (s6.length+2) s):=by rw [F0];unfold endF;rw [hbang,if_pos rfl]
    refine ⟨by omega,fun hI=>⟨_,s235 _ (by rw [List.length_take];omega) _,Ret.use (cellL_sh _),fun x29 b30 H31 ⟨e30,_⟩ i32 H33 _ _ H34 _=>⟨fun h H35 _ hI=>bad ?_ hI.pres,fun h H36 _ hI=>good (t:=refT x29) ?_ hI.pres⟩⟩⟩
    ·have hb:b30=false:=by simpa using h
     rw [F1,cellL_inv e30,hb];rfl
    ·have hb:b30=true:=by simpa using h
     rw [F1,cellL_inv e30,hb];rfl
   ·have hbang:bangB (s6.length+2) s=false:=by rw [h21] at e21;unfold bangB;rw [hn];exact (LV.bool.inj e21).symm
    rw [sub_part]
    generalize hw:(s.drop (s6.length+2)).take (n-(s6.length+2))=w at*
    have hwl:w.length<=1000:=by rw [<-hw,List.length_take];first |omega |(rw [List.length_drop];omega)
    have F1:namedF s=wordF s6 w n:=by rw [F0];unfold endF;rw [hbang,hn,hw];rfl
    refine ⟨by omega,fun h6=>absurd (eq_of_beq h6) hbne,fun h6 hI=>⟨_,s175 w _ (by omega),Ret.use ⟨_,rfl⟩,fun s58 H59 ⟨e58,_⟩ hI=>⟨_,s90 w _,Ret.use ⟨_,rfl⟩,fun b61 H62 ⟨e61,_⟩=>⟨fun h61=>⟨fun h6' H63 _ hI=>bad ?_ hI.pres,fun h6'=> ?_⟩,fun h61 H67 _ hI=>good (t:=wordT s6 w) ?_ hI.pres⟩⟩⟩⟩
    ·cases e61
     have hnm:nameF w=false:=by simpa using h61
     rw [F1,word_none (fun e=>absurd e hbne),hnm,h6];rfl
    ·rw [h6] at h6';cases h6'
    ·cases e61
     have hnm:nameF w=true:=by simpa using h61
     rw [F1,word_none (fun e=>absurd e hbne),hnm];rfl
 case plain=>
  have hc:(c==91)=false:=by
   rw [h0] at h91
   rw [beq_eq_false_iff_ne] at h91 |-
   intro e;subst e;exact h91 rfl
  rw [hc,if_neg (by simp)] at hnf
  have F0:namedF s=endF [] 0 s:=hnf
  have hk:0<=s.length:=by omega
  dsimp only [qT1_1,qT1_10,qT1_11,qT1_12,qT1_13,qT1_3,qT1_5,qT1_8]
  rw [sub_all]
  have w2:lwrap .i64 ((0:Int)+((spanF wordB (s):Nat):Int))=((endN 0 s:Nat):Int):=by
   have:=endN_le hk
   unfold endN at this |-
   rw [List.drop_zero] at this |-
   rw [lwrap_small (by omega) (by omega)];simp
  refine ⟨by omega,fun hI=>⟨_,s234 _ _,Ret.use ⟨_,rfl⟩,fun n17 H18 ⟨e17,_⟩=> ?_⟩⟩
  cases e17
  rw [w2,sub_drop]
  have hN:=endN_le hk
  generalize hn:endN 0 s=n at*
  refine ⟨by omega,fun hI=>⟨_,s232 _ [33] _,Ret.use ⟨_,rfl⟩,fun b21 H22 ⟨e21,_⟩=>⟨fun h21=> ?_,fun h21=> ?_⟩⟩⟩
  ·have hbang:bangB 0 s=true:=by rw [h21] at e21;unfold bangB;rw [hn];exact (LV.bool.inj e21).symm
   have hM:=endM_le hk hbang
   have hlt:=bang_lt hbang
   rw [hn] at hM hlt
   have w3:lwrap .i64 (((n:Nat):Int)+1)=((n+1:Nat):Int):=by rw [lwrap_small (by omega) (by omega)];simp
   have w4:lwrap .i64 (((n:Nat):Int)+lwrap .i64 (1+((spanF wordB (s.drop (n+1)):Nat):Int)))=((endM 0 s:Nat):Int):=by
    unfold endM at hM |-
    rw [hn] at hM |-
    rw [lwrap_small (n:=1+((spanF wordB (s.drop (n+1)):Nat):Int)) (by omega) (by omega),lwrap_small (by omega) (by omega)];simp
   rw [w3,sub_drop]
   refine ⟨by omega,fun hI=>⟨_,s234 _ _,Ret.use ⟨_,rfl⟩,fun n25 H26 ⟨e25,_⟩=> ?_⟩⟩
   cases e25
   rw [w4,sub_take]
   have F1:namedF s=(refTF (s.take (endM 0 s))).map fun r=>(refT r,endM 0 s):=by rw [F0];unfold endF;rw [hbang,if_pos rfl]
   refine ⟨by omega,fun hI=>⟨_,s235 _ (by rw [List.length_take];omega) _,Ret.use (cellL_sh _),fun x29 b30 H31 ⟨e30,_⟩ i32 H33 _ _ H34 _=>⟨fun h H35 _ hI=>bad ?_ hI.pres,fun h H36 _ hI=>good (t:=refT x29) ?_ hI.pres⟩⟩⟩
   ·have hb:b30=false:=by simpa using h
    rw [F1,cellL_inv e30,hb];rfl
   ·have hb:b30=true:=by simpa using h
    rw [F1,cellL_inv e30,hb];rfl
  ·have hbang:bangB 0 s=false:=by rw [h21] at e21;unfold bangB;rw [hn];exact (LV.bool.inj e21).symm
   rw [sub_take]
   generalize hw:s.take n=w at*
   have hwl:w.length<=1000:=by rw [<-hw,List.length_take];first |omega |(rw [List.length_drop];omega)
   have F1:namedF s=wordF [] w n:=by rw [F0];unfold endF;rw [hbang,hn,List.drop_zero,Nat.sub_zero,hw];rfl
   refine ⟨by omega,fun hI=>⟨_,s236 w hwl _,Ret.use (cellL_sh _),fun x92 b93 H94 ⟨e93,_⟩ i95 H96 _ _ H97 _=>⟨fun h93 H98 _ hI=>good (t:=refT x92) ?_ hI.pres,fun h93 hI=>⟨_,s175 w _ (by omega),Ret.use ⟨_,rfl⟩,fun s58 H59 ⟨e58,_⟩ hI=>⟨_,s90 w _,Ret.use ⟨_,rfl⟩,fun b61 H62 ⟨e61,_⟩=> ?_⟩⟩⟩⟩⟩
   ·have:=cellL_inv e93
    rw [h93] at this
    rw [F1,word_cell rfl this]
   ·have:=cellL_inv e93
    rw [h93] at this
    rw [word_none (fun _=>this),truth_up] at F1
    cases e61;cases e58
    refine ⟨fun h61=>⟨fun h1=>⟨fun h2 H _ hI=>bad ?_ hI.pres,fun h2 H _ hI=>good (t:=wordT [] w) ?_ hI.pres⟩,fun h1 H _ hI=>good (t:=wordT [] w) ?_ hI.pres⟩,fun h61 H _ hI=>good (t:=wordT [] w) ?_ hI.pres⟩
    ·simp only [Bool.not_eq_true'] at h61 h1 h2
     rw [F1,h61,h1,h2];rfl
    ·simp only [Bool.not_eq_true',Bool.not_eq_false'] at h61 h1 h2
     rw [F1,h61,h1,h2];rfl
    ·simp only [Bool.not_eq_true',Bool.not_eq_false'] at h61 h1
     rw [F1,h61,h1];rfl
    ·simp only [Bool.not_eq_false'] at h61
     rw [F1,h61];rfl
theorem named_book(t:List UInt8):namedF (91::t)=match cutF 93 t with |some (b,_)=>if nameF b then endF b (b.length+2) (91::t) else none |none=>none:=rfl
theorem loop158(t s:List UInt8)(hst:91::t=s)(hs:s.length<=1000)(H0:LHeap)(i1:Nat):∀(C A:List UInt8) (d:Nat->LV) (H:LHeap),A++C=t->cutF 93 t=(match cutF 93 C with |some (x,y)=>some (A++x,y) |none=>none)->
  GoesT cfg 158 (Ret (tokL (namedF s)) H0) [] H0 [⟨i1,zeroT.cs,127⟩] (L158t_0 d ((A.length+1:Nat):Int) s) (loopAt cfg 158 0) H
 |[],A,d,H,hA,hc=>by
  intro hin hI
  rw [List.append_nil] at hA
  have hl:s.length=A.length+1:=by rw [<-hst,hA];rfl
  have F:namedF s=none:=by rw [<-hst,named_book,hc];rfl
  refine g158t_0 _ H0 d ((A.length+1:Nat):Int) s i1 zeroT H ⟨fun h=> ?_,fun _=>⟨fun _ H70 _ hI=>⟨by rw [F];rfl,hI.pres⟩,fun h=> ?_⟩⟩ hin hI
  ·simp at h;omega
  ·simp at h;omega
 |c::C,A,d,H,hA,hc=>by
  intro hin hI
  have hl:s.length=A.length+(C.length+1)+1:=by rw [<-hst,<-hA];simp
  have hb:byteAt s ((A.length+1:Nat):Int)=(c.toNat:Int):=by rw [<-hst,<-hA];exact byteAt_app (91::A) c C
  have bad:∀{H':LHeap},namedF s=none->PresX [] H0 H'->Ret (tokL (namedF s)) H0 (.tuple [.agg [.int .i64 0,.int .i64 0,.str [],.str [],.str [],.int .i64 0,.int .i64 0,.bool false,.bool false],.int .i64 0]) H':=fun h p=>⟨by rw [h];rfl,p⟩
  have good:∀{H':LHeap} {t:TokC} {n:Nat},namedF s=some (t,n)->PresX [] H0 H'->Ret (tokL (namedF s)) H0 (.tuple [.agg t.cs,.int .i64 (n:Int)]) H':=fun h p=>⟨by rw [h];rfl,p⟩
  refine g158t_0 _ H0 d ((A.length+1:Nat):Int) s i1 zeroT H ⟨fun _=>⟨by omega,fun h93 d5=> ?_,fun h93=>⟨fun h=>(by simp at h;omega),fun _=> ?_⟩⟩,fun h=>(by simp at h;omega)⟩ hin hI
  ·rw [hb] at h93
   have hne:(c==93)=false:=by
    rw [bne_iff_ne] at h93
    rw [beq_eq_false_iff_ne]
    intro e;subst e;exact h93 rfl
   rw [lwrap_small (by omega) (by omega),show (((A.length+1:Nat):Int))+1=(((A++[c]).length+1:Nat):Int) by simp]
   refine loop158 t s hst hs H0 i1 C (A++[c]) d5 H (by rw [<-hA];simp) ?_
   rw [hc,cutF_cons,hne,if_neg (by simp)]
   cases cutF 93 C with
   |none=>rfl
   |some p=>simp
  ·rw [hb] at h93
   have hceq:c=93:=UInt8.toNat_inj.1 (by show c.toNat=93;simp at h93;omega)
   subst hceq
   rw [cutF_cons,beq_self_eq_true,if_pos rfl] at hc
   simp only [List.append_nil] at hc
   have hnf:namedF s=if nameF A then endF A (A.length+2) s else none:=by
    rw [<-hst,named_book,hc]
   have hsub:subStr s 1 ((A.length+1:Nat):Int)=A:=by
    unfold subStr;rw [<-hst,<-hA];simp
   have w1:lwrap .i64 (((A.length+1:Nat):Int)+1)=((A.length+2:Nat):Int):=by rw [lwrap_small (by omega) (by omega)];simp;omega
   dsimp only [qT2_1,qT2_11,qT2_18,qT2_24,qT2_30,qT2_4,qT2_5,qT2_8,qT2_9]
   rw [hsub,w1,sub_drop]
   refine ⟨by omega,fun hI=>⟨_,x97 A _,Ret.use ⟨_,rfl⟩,fun b9 H10 ⟨e9,_⟩=>⟨fun h9 H11 _ hI=>bad ?_ hI.pres,fun h9=>⟨by omega,?_⟩⟩⟩⟩
   ·cases e9
    have:nameF A=false:=by simpa using h9
    rw [hnf,this];rfl
   ·cases e9
    have hnA:nameF A=true:=by simpa using h9
    have hbne:=name_ne hnA
    rw [hnA,if_pos rfl] at hnf
    have F0:namedF s=endF A (A.length+2) s:=hnf
    have hk:A.length+2<=s.length:=by omega
    have w2:lwrap .i64 ((((A.length+2):Nat):Int)+((spanF wordB (s.drop (A.length+2)):Nat):Int))=((endN (A.length+2) s:Nat):Int):=by
     have:=endN_le hk
     unfold endN at this |-
     skip
     rw [lwrap_small (by omega) (by omega)];simp
    refine ⟨by omega,fun hI=>⟨_,s240 _ (by rw [List.length_drop];omega) _,Ret.use ⟨_,rfl⟩,fun n17 H18 ⟨e17,_⟩=> ?_⟩⟩
    cases e17
    rw [w2]
    have hN:=endN_le hk
    have hbb:endN (A.length+2) s<s.length->bangB (A.length+2) s=(byteAt s ((endN (A.length+2) s:Nat):Int)==33):=fun h=>bang_byte h
    have hbe:¬endN (A.length+2) s<s.length->bangB (A.length+2) s=false:=fun h=>bang_end h
    generalize hn:endN (A.length+2) s=n at*
    have hword:bangB (A.length+2) s=false->namedF s=wordF A ((s.drop (A.length+2)).take (n-(A.length+2))) n:=by
     intro hbang
     generalize hw:(s.drop (A.length+2)).take (n-(A.length+2))=w at*
     rw [F0];unfold endF;rw [hbang,hn,hw];rfl
    refine ⟨fun hnl=>⟨by simp at hnl;omega,fun h21=> ?_,fun h21=> ?w1⟩,fun hnl=> ?w2⟩
    ·have hlt:n<s.length:=by simpa using hnl
     have hbang:bangB (A.length+2) s=true:=by rw [hbb hlt];exact h21
     have hM:=endM_le hk hbang
     rw [hn] at hM
     have w3:lwrap .i64 (((n:Nat):Int)+1)=((n+1:Nat):Int):=by rw [lwrap_small (by omega) (by omega)];simp
     have w4:lwrap .i64 (((n:Nat):Int)+lwrap .i64 (1+((spanF wordB (s.drop (n+1)):Nat):Int)))=((endM (A.length+2) s:Nat):Int):=by
      unfold endM at hM |-
      rw [hn] at hM |-
      rw [lwrap_small (n:=1+((spanF wordB (s.drop (n+1)):Nat):Int)) (by omega) (by omega),lwrap_small (by omega) (by omega)];simp
     rw [w3,sub_drop]
     refine ⟨by omega,fun hI=>⟨_,s240 _ (by rw [List.length_drop];omega) _,Ret.use ⟨_,rfl⟩,fun n25 H26 ⟨e25,_⟩=> ?_⟩⟩
     cases e25
     rw [w4,sub_take]
     have F1:namedF s=(refTF (s.take (endM (A.length+2) s))).map fun r=>(refT r,endM (A.length+2) s):=by rw [F0];unfold endF;rw [hbang,if_pos rfl]
     refine ⟨by omega,fun hI=>⟨_,s241 _ (by rw [List.length_take];omega) _,Ret.use (cellL_sh _),fun x29 b30 H31 ⟨e30,_⟩ i32 H33 _ _ H34 _=>⟨fun h H35 _ hI=>bad ?_ hI.pres,fun h H36 _ hI=>good (t:=refT x29) ?_ hI.pres⟩⟩⟩
     ·have hb:b30=false:=by simpa using h
      rw [F1,cellL_inv e30,hb];rfl
     ·have hb:b30=true:=by simpa using h
      rw [F1,cellL_inv e30,hb];rfl
    case' w1=>
     have hbang:bangB (A.length+2) s=false:=by rw [hbb (by simpa using hnl)];exact h21
    case' w2=>
     have hbang:bangB (A.length+2) s=false:=hbe (by simpa using hnl)
    all_goals
     have F1:=hword hbang
     rw [sub_part]
     generalize hw:(s.drop (A.length+2)).take (n-(A.length+2))=w at*
     have hwl:w.length<=1000:=by rw [<-hw,List.length_take];first |omega |(rw [List.length_drop];omega)
     refine ⟨by omega,fun hI=>⟨_,s242 w hwl _,Ret.use (cellL_sh _),fun x92 b93 H94 ⟨e93,_⟩ i95 H96 _ _ H97 _=> ?_⟩⟩
     rw [word_none (fun e=>absurd e hbne),show ((A:List UInt8)==[])=false by simpa using hbne,Bool.false_and,Bool.or_false] at F1
     refine ⟨fun h93=>⟨fun h6=>absurd (eq_of_beq h6) hbne,fun h6 hI=>⟨_,s243 w hwl _ _,Ret.use ⟨_,rfl⟩,fun b42 H43 ⟨e42,_⟩=>⟨fun h42 H44 _ hI=>bad ?_ hI.pres,fun h42 H45 _ hI=>good (t:=wordT A w) ?_ hI.pres⟩⟩⟩,fun h93 hI=>⟨_,s243 w hwl _ _,Ret.use ⟨_,rfl⟩,fun b42 H43 ⟨e42,_⟩=>⟨fun h42 H44 _ hI=>bad ?_ hI.pres,fun h42 H45 _ hI=>good (t:=wordT A w) ?_ hI.pres⟩⟩⟩
     all_goals
      rw [show ((A:List UInt8)==[])=false by simpa using hbne] at e42
      simp only [Bool.not_false,Bool.not_true,Bool.false_and,Bool.or_false,LV.bool.injEq,Bool.not_eq_true',Bool.not_eq_false'] at e42 h42
      rw [F1,<-e42,h42];rfl
theorem s158(c:UInt8)(t:List UInt8)(hs:(c::t).length<=1000)(H:LHeap):CallL cfg 158 [.str (c::t)] H (Ret (tokL (namedF (c::t))) H):=by
 have h0:byteAt (c::t) 0=(c.toNat:Int):=byteAt_app [] c t
 have hnf:namedF (c::t)=if c==91 then (match cutF 93 t with
  |some (b,_)=>if nameF b then endF b (b.length+2) (c::t) else none
  |none=>none) else endF [] 0 (c::t):=rfl
 have hlen:(c::t).length=t.length+1:=rfl
 have hlp:c=91->∀(i1:Nat) (d:Nat->LV) (H':LHeap),GoesT cfg 158 (Ret (tokL (namedF (c::t))) H) [] H [⟨i1,zeroT.cs,127⟩] (L158t_0 d ((0+1:Nat):Int) (c::t)) (loopAt cfg 158 0) H':=by
  intro hc i1 d H'
  subst hc
  exact loop158 t (91::t) rfl hs H i1 t [] d H' rfl (by cases cutF 93 t with |none=>rfl |some p=>rfl)
 generalize hst:c::t=s at*
 have bad:∀{H':LHeap},namedF s=none->PresX [] H H'->Ret (tokL (namedF s)) H (.tuple [.agg [.int .i64 0,.int .i64 0,.str [],.str [],.str [],.int .i64 0,.int .i64 0,.bool false,.bool false],.int .i64 0]) H':=fun h p=>⟨by rw [h];rfl,p⟩
 have good:∀{H':LHeap} {t:TokC} {n:Nat},namedF s=some (t,n)->PresX [] H H'->Ret (tokL (namedF s)) H (.tuple [.agg t.cs,.int .i64 (n:Int)]) H':=fun h p=>⟨by rw [h];rfl,p⟩
 refine e158t _ s H fun i1 H2 _ _=>⟨by omega,fun h91 d4=> ?book,fun h91=> ?plain⟩
 case book=>
  have hc:c=91:=by rw [h0] at h91;exact UInt8.toNat_inj.1 (by show c.toNat=91;have:=eq_of_beq h91;omega)
  exact hlp hc i1 d4 H2
 case plain=>
  have hc:(c==91)=false:=by
   rw [h0] at h91
   rw [beq_eq_false_iff_ne] at h91 |-
   intro e;subst e;exact h91 rfl
  rw [hc,if_neg (by simp)] at hnf
  have F0:namedF s=endF [] 0 s:=hnf
  have hk:0<=s.length:=by omega
  dsimp only [qT2_24,qT2_4,qT2_7,qT2_8]
  rw [sub_all]
  have w2:lwrap .i64 ((0:Int)+((spanF wordB (s):Nat):Int))=((endN 0 s:Nat):Int):=by
   have:=endN_le hk
   unfold endN at this |-
   rw [List.drop_zero] at this |-
   rw [lwrap_small (by omega) (by omega)];simp
  refine ⟨by omega,fun hI=>⟨_,s240 _ (by omega) _,Ret.use ⟨_,rfl⟩,fun n17 H18 ⟨e17,_⟩=> ?_⟩⟩
  cases e17
  rw [w2]
  have hN:=endN_le hk
  have hbb:endN 0 s<s.length->bangB 0 s=(byteAt s ((endN 0 s:Nat):Int)==33):=fun h=>bang_byte h
  have hbe:¬endN 0 s<s.length->bangB 0 s=false:=fun h=>bang_end h
  generalize hn:endN 0 s=n at*
  have hword:bangB 0 s=false->namedF s=wordF [] (s.take n) n:=by
   intro hbang
   generalize hw:s.take n=w at*
   rw [F0];unfold endF;rw [hbang,hn,List.drop_zero,Nat.sub_zero,hw];rfl
  refine ⟨fun hnl=>⟨by simp at hnl;omega,fun h21=> ?_,fun h21=> ?w1⟩,fun hnl=> ?w2⟩
  ·have hlt:n<s.length:=by simpa using hnl
   have hbang:bangB 0 s=true:=by rw [hbb hlt];exact h21
   have hM:=endM_le hk hbang
   rw [hn] at hM
   have w3:lwrap .i64 (((n:Nat):Int)+1)=((n+1:Nat):Int):=by rw [lwrap_small (by omega) (by omega)];simp
   have w4:lwrap .i64 (((n:Nat):Int)+lwrap .i64 (1+((spanF wordB (s.drop (n+1)):Nat):Int)))=((endM 0 s:Nat):Int):=by
    unfold endM at hM |-
    rw [hn] at hM |-
    rw [lwrap_small (n:=1+((spanF wordB (s.drop (n+1)):Nat):Int)) (by omega) (by omega),lwrap_small (by omega) (by omega)];simp
   rw [w3,sub_drop]
   refine ⟨by omega,fun hI=>⟨_,s240 _ (by rw [List.length_drop];omega) _,Ret.use ⟨_,rfl⟩,fun n25 H26 ⟨e25,_⟩=> ?_⟩⟩
   cases e25
   rw [w4,sub_take]
   have F1:namedF s=(refTF (s.take (endM 0 s))).map fun r=>(refT r,endM 0 s):=by rw [F0];unfold endF;rw [hbang,if_pos rfl]
   refine ⟨by omega,fun hI=>⟨_,s241 _ (by rw [List.length_take];omega) _,Ret.use (cellL_sh _),fun x29 b30 H31 ⟨e30,_⟩ i32 H33 _ _ H34 _=>⟨fun h H35 _ hI=>bad ?_ hI.pres,fun h H36 _ hI=>good (t:=refT x29) ?_ hI.pres⟩⟩⟩
   ·have hb:b30=false:=by simpa using h
    rw [F1,cellL_inv e30,hb];rfl
   ·have hb:b30=true:=by simpa using h
    rw [F1,cellL_inv e30,hb];rfl
  case' w1=>
   have hbang:bangB 0 s=false:=by rw [hbb (by simpa using hnl)];exact h21
  case' w2=>
   have hbang:bangB 0 s=false:=hbe (by simpa using hnl)
  all_goals
   have F1:=hword hbang
   rw [sub_take]
   generalize hw:s.take n=w at*
   have hwl:w.length<=1000:=by rw [<-hw,List.length_take];first |omega |(rw [List.length_drop];omega)
   refine ⟨by omega,fun hI=>⟨_,s242 w hwl _,Ret.use (cellL_sh _),fun x92 b93 H94 ⟨e93,_⟩ i95 H96 _ _ H97 _=>⟨fun h93 H98 _ hI=>good (t:=refT x92) ?_ hI.pres,fun h93 hI=>⟨_,s243 w hwl _ _,Ret.use ⟨_,rfl⟩,fun b42 H43 ⟨e42,_⟩=>⟨fun h42 H44 _ hI=>bad ?_ hI.pres,fun h42 H45 _ hI=>good (t:=wordT [] w) ?_ hI.pres⟩⟩⟩⟩⟩
   ·have:=cellL_inv e93
    rw [h93] at this
    rw [F1,word_cell rfl this]
   all_goals
    have hcn:=cellL_inv e93
    rw [h93] at hcn
    simp only [Bool.not_false,Bool.true_and,LV.bool.injEq,Bool.not_eq_true',Bool.not_eq_false'] at e42 h42
    rw [F1,word_none (fun _=>hcn),show (([]:List UInt8)==[])=true from rfl,Bool.true_and,<-e42,h42];rfl
end Go.Proofs.YtjihhflffkoffaaGreatDoor.Z
