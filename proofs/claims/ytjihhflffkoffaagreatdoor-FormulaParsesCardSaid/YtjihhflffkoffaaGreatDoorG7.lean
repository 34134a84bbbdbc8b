/- Contracts of functions of the program; no condition. -/
import Derived.Test.YtjihhflffkoffaaGreatDoorG1
import Derived.Test.YtjihhflffkoffaaGreatDoorG6
import Derived.Test.YtjihhflffkoffaaGreatDoorG0
import Derived.Test.YtjihhflffkoffaaGreatDoorLe
import Derived.Test.YtjihhflffkoffaaGreatDoorG5
set_option linter.unusedSimpArgs false
set_option linter.unusedVariables false
set_option linter.unusedSectionVars false
set_option linter.unnecessarySimpa false
namespace Go.Proofs.YtjihhflffkoffaaGreatDoor.Z
open Go Go.Lm
set_option maxRecDepth 1000000
set_option maxHeartbeats 0
theorem rowTB:RowT cfg.P 155 5 1 1:=⟨by kernel_rfl,by kernel_rfl,by decide,by kernel_rfl,by kernel_rfl,by kernel_rfl,⟨.int .u8 0,by kernel_rfl,rfl⟩⟩
theorem inv_box{H:LHeap}{i:Nat}{cs:List LV}{e:TypeId}{X:List Nat}(hi:i<H.next)(hg:H.get i=some (Slot.obj ⟨i,cs,e⟩))(hX:i∈X):Inv X H [⟨i,cs,e⟩] H:=by
 refine ⟨.refl _ _,fun k s hs=> ?_,fun j k s t hs ht hjk=> ?_⟩
 ·cases k with
  |zero=>cases hs;exact ⟨hi,hg,.inl hX⟩
  |succ k=>simp [nth] at hs
 ·cases j with
  |succ j=>simp [nth] at hs
  |zero=>cases k with
   |zero=>exact absurd rfl hjk
   |succ k=>simp [nth] at ht
theorem okId_box{X:List Nat}{H0:LHeap}{i:Nat}{cs:List LV}{e:TypeId}{j:Nat}(h:j∈X\/H0.next<=j)(hn:j≠i):okId X H0 [⟨i,cs,e⟩] j:=by
 refine ⟨h,fun k s hs=> ?_⟩
 cases k with
 |zero=>cases hs;exact fun e=>hn e.symm
 |succ k=>simp [nth] at hs
def BldS(i:Nat)(a:Option LAddr)(k:Nat)(q:Cap)(H:LHeap):LV->LHeap->Prop:=fun v H'=>PresX [i] H H'/\v=.tuple []/\H'.get i=some (Slot.obj ⟨i,[.ptr (some ⟨i,2,0⟩),.slice a k q],162⟩)
theorem s244(i:Nat)(p a:Option LAddr)(k:Nat)(q:Cap)(H:LHeap)(hi:i<H.next)(hg:H.get i=some (Slot.obj ⟨i,[.ptr p,.slice a k q],162⟩))(hp:p=none\/p=some ⟨i,2,0⟩):
  CallL cfg 244 [.ptr (some ⟨i,2,0⟩)] H (BldS i a k q H):=by
 rcases hp with rfl |rfl
 ·refine e244a _ [i] i a k q H (inv_box hi hg (by simp)) fun _=>⟨some ⟨i,2,0⟩,[],H,⟨?_,.refl _ _,fun j hj=>by cases hj⟩,fun _=>⟨some ⟨i,2,0⟩,[],H,⟨?_,.refl _ _,fun j hj=>by cases hj⟩,fun H4 p4 hI=>⟨hI.pres,rfl,?_⟩⟩⟩
  ·show (match convertL cfg.P H 160 290 (.ptr (some ⟨i,2,0⟩)) with |some (x,H')=>some [(LNext.value x,H')] |none=>none)=_
   have:convertL cfg.P H 160 290 (.ptr (some ⟨i,2,0⟩))=some (.ptr (some ⟨i,2,0⟩),H):=by
    unfold convertL
    rw [show cfg.P.underlying 160=some (.pointer 162) by kernel_rfl,show cfg.P.underlying 290=some .unsafePointer by kernel_rfl]
    simp only [hg,Slot.obj,show sizeOfT cfg.P 162=some 2 by kernel_rfl]
    rfl
   rw [this]
  ·show (match convertL cfg.P H 290 160 (.ptr (some ⟨i,2,0⟩)) with |some (x,H')=>some [(LNext.value x,H')] |none=>none)=_
   have:convertL cfg.P H 290 160 (.ptr (some ⟨i,2,0⟩))=some (.ptr (some ⟨i,2,0⟩),H):=by
    unfold convertL
    rw [show cfg.P.underlying 160=some (.pointer 162) by kernel_rfl,show cfg.P.underlying 290=some .unsafePointer by kernel_rfl]
    simp only [hg,Slot.obj,show sizeOfT cfg.P 162=some 2 by kernel_rfl,List.length_cons,List.length_nil]
    rw [if_pos (show (Nat.beq 2 2&&liesAt cfg.P cfg.P.depth 162 (2 / cfg.P.cellsOf 162) 0 162 1)=true by kernel_rfl)]
   rw [this]
  ·exact (hI.slot 0 _ rfl).2.1
 ·refine e244b _ [i] i a k q H (inv_box hi hg (by simp)) fun _=>⟨false,[],H,⟨?_,.refl _ _,fun j hj=>by cases hj⟩,fun h=>(by cases h),fun _ hI=>⟨hI.pres,rfl,(hI.slot 0 _ rfl).2.1⟩⟩
  have he:eqL cfg.P 50 160 (.ptr (some ⟨i,2,0⟩)) (.ptr (some ⟨i,2,0⟩))=some true:=by
   unfold eqL
   rw [show cfg.P.underlying 160=some (.pointer 162) by kernel_rfl]
   simp only [show sizeOfT cfg.P 162=some 2 by kernel_rfl,Nat.beq_refl,Bool.and_self,if_true]
  have hb:binL cfg.P .neq 160 (.ptr (some ⟨i,2,0⟩)) (.ptr (some ⟨i,2,0⟩)) false false=some (.bool false):=by
   unfold binL
   simp only [he,show aggOk cfg.P 160 (.ptr (some ⟨i,2,0⟩)) (.ptr (some ⟨i,2,0⟩)) false false=true from rfl,if_true,Option.map_some,Bool.not_true]
  show (match binL cfg.P .neq 160 (.ptr (some ⟨i,2,0⟩)) (.ptr (some ⟨i,2,0⟩)) false false with |some x=>some [(LNext.value x,H)] |none=>none)=_
  rw [hb]
structure Bld (H:LHeap) (i:Nat) (p a:Option LAddr) (n:Nat) (q:Cap) (s:List UInt8):Prop where
 lt:i<H.next
 get:H.get i=some (Slot.obj ⟨i,[.ptr p,.slice a n q],162⟩)
 row:RowAt H 5 1 a n q (bcs s)
 me:p=none\/p=some ⟨i,2,0⟩
 ne:∀ad,a=some ad->ad.id≠i
 pos:∀ad,a=some ad->0<n/\q=.free 1
theorem Bld.len{H:LHeap}{i:Nat}{p a:Option LAddr}{n:Nat}{q:Cap}{s:List UInt8}(h:Bld H i p a n q s):n=s.length:=by
 have:=h.row.len
 rw [bcs_len] at this;omega
def idl:Option LAddr->List Nat
 |some ad=>[ad.id]
 |none=>[]
theorem Bld.on{H H':LHeap}{i:Nat}{p a:Option LAddr}{n:Nat}{q:Cap}{s:List UInt8}(h:Bld H i p a n q s){X:List Nat}(k:PresX X H H')(h1:i∉X)(h2:∀ad,a=some ad->ad.id∉X):Bld H' i p a n q s:=
 ⟨Nat.lt_of_lt_of_le h.lt k.next,by rw [(k.keep i h.lt h1).get];exact h.get,
  h.row.on k.next (fun ad e=>by subst e;exact k.keep _ h.row.id (h2 _ rfl)) (fun ad e _=>by subst e;exact (k.keep _ h.row.id (h2 _ rfl)).get),h.me,h.ne,h.pos⟩
def BldW(i:Nat)(a:Option LAddr)(t:List UInt8)(v:LV)(H:LHeap):LV->LHeap->Prop:=fun w H'=>w=v/\PresX (i::idl a) H H'/\∃a' n' q',Bld H' i (some ⟨i,2,0⟩) a' n' q' t/\∀ad',a'=some ad'->(∃ad,a=some ad/\ad.id=ad'.id)\/H.next<=ad'.id
theorem BldW.use{i:Nat}{a:Option LAddr}{t:List UInt8}{v:LV}{H:LHeap}{sh:Sh}(h:hasSh sh v):∀w H',BldW i a t v H w H'->PresX (i::idl a) H H'/\hasSh sh w/\∃cs,hasSh (.agg [.ptr,.slice]) (.agg cs)/\List.length cs=2/\H'.get i=some (Slot.obj ⟨i,cs,162⟩):=by
 rintro w H' ⟨rfl,hp,a',n',q',hb,_⟩
 exact ⟨hp,h,_,⟨_,_,_,_,rfl⟩,rfl,hb.get⟩
theorem app_str{H:LHeap}{a:Option LAddr}{n:Nat}{q:Cap}{t:List UInt8}{r:LV}:appendL cfg.P H [155,9] [.slice a n q,.str t]=appendL cfg.P H [155,155] [.slice a n q,.str t]:=by
 unfold appendL
 simp only [show isIntT cfg.P 9=false by kernel_rfl,show isIntT cfg.P 155=false by kernel_rfl,show (cfg.P.underlying 9).isNone=false by kernel_rfl,show (cfg.P.underlying 155).isNone=false by kernel_rfl]
theorem takeN_all{α:Type}(l:List α):takeN l.length l=some l:=by rw [takeN_of _ _ (Nat.le_refl _),List.take_length]
theorem app_nil{H:LHeap}{a:Option LAddr}{n:Nat}{q:Cap}:appendL cfg.P H [155,155] [.slice a n q,.str []]=some (.slice a n q,H):=by
 unfold appendL
 simp only [rowTB.elem,rowTB.sized,rowTB.bytes,rowTB.noInt,rowTB.und,Bool.false_eq_true,if_false]
 rfl
theorem row_str{H:LHeap}{a:Option LAddr}{n:Nat}{q:Cap}{s:List UInt8}(h:RowAt H 5 1 a n q (bcs s))(hp:∀ad,a=some ad->0<n/\q=.free 1)(t:List UInt8)(hb:n+t.length<=100000):
  ∃Y a' q' H',appendL cfg.P H [155,155] [.slice a n q,.str t]=some (.slice a' (n+t.length) q',H')/\PresX Y H H'/\RowAt H' 5 1 a' (n+t.length) q' (bcs (s++t))/\(∀i∈Y,∃ad,a=some ad/\ad.id=i)/\
   (∀ad',a'=some ad'->(∃ad,a=some ad/\ad.id=ad'.id)\/H.next<=ad'.id)/\(∀ad',a'=some ad'->0<n+t.length/\q'=.free 1):=by
 cases t with
 |nil=>exact ⟨[],a,q,H,app_nil,.refl _ _,by simpa using h,(fun i hi=>by cases hi),fun ad' h=>.inl ⟨ad',h,rfl⟩,fun ad h=>hp ad h⟩
 |cons b t=>
  have hnc:∀l:List UInt8,allCells (bcs l)=true:=by
   intro l
   unfold bcs
   induction l with
   |nil=>rfl
   |cons b l ih=>exact ih
  obtain ⟨Y,a',q',H9,e9,p9,r9,hY,ha,hq⟩:=h.append2 rowTB (x:=.str (b::t)) (m:=(b::t).length) (new:=bcs (b::t)) rfl (by unfold firstCellsL;simp only [Nat.beq_refl,if_true,takeN_all,Option.map_some];rfl) (by rw [bcs_len];omega) (hnc _) (by omega)
  exact ⟨Y,a',q',H9,e9,p9,by rw [bcs_app];exact r9,hY,ha,fun _ _=>⟨by simp;omega,hq (by simp)⟩⟩
theorem s161(i:Nat){p a:Option LAddr}{n:Nat}{q:Cap}{s:List UInt8}(t:List UInt8)(H:LHeap)(h:Bld H i p a n q s)(hl:s.length+t.length<=100000):
  CallL cfg 161 [.ptr (some ⟨i,2,0⟩),.str t] H (BldW i a (s++t) (.tuple [.int .i64 ((t.length:Nat):Int),.nilIface]) H):=by
 refine e161t _ (i::idl a) i p a n q t H (inv_box h.lt h.get (by simp)) fun _=>⟨_,s244 i p a n q H h.lt h.get h.me,fun v H' ⟨h1,h2,h3⟩=>⟨h1,by rw [h2];exact rfl,_,⟨_,_,_,_,rfl⟩,rfl,h3⟩,fun p1 a2 l3 c4 H5 ⟨p5,_,g5⟩ g5' hI5=> ?_⟩
 rw [g5'] at g5
 simp only [Option.some.injEq,Slot.obj,LObj.cells.injEq,List.cons.injEq,LV.ptr.injEq,LV.slice.injEq,and_true] at g5
 obtain ⟨⟨rfl,rfl,rfl,rfl⟩,_⟩:=g5
 have r5:RowAt H5 5 1 a2 l3 c4 (bcs s):=h.row.on p5.next (fun ad e=>by subst e;exact p5.keep _ h.row.id (by simpa using h.ne _ rfl)) (fun ad e _=>by subst e;exact (p5.keep _ h.row.id (by simpa using h.ne _ rfl)).get)
 have hn:=h.len
 obtain ⟨Y,a',q',H9,e9,p9,r9,hY,ha,hpos⟩:=row_str r5 h.pos t (by omega)
 have ne9:∀ad',a'=some ad'->ad'.id≠i:=by
  intro ad' e
  rcases ha ad' e with ⟨ad,e1,e2⟩ |e1
  ·rw [<-e2];exact h.ne _ e1
  ·exact fun e=>Nat.lt_irrefl _ (Nat.lt_of_lt_of_le (by rw [e];exact Nat.lt_of_lt_of_le h.lt p5.next) e1)
 refine ⟨Y,a',l3+t.length,q',H9,⟨by rw [app_str (r:=.undef)];exact e9,p9,fun j hj=> ?_⟩,fun H10 p10 hI=>⟨rfl,hI.pres,a',l3+t.length,q',⟨Nat.lt_of_lt_of_le h.lt hI.pres.next,(hI.slot 0 _ rfl).2.1,?_,.inr rfl,ne9,hpos⟩,fun ad' e=> ?_⟩⟩
 ·obtain ⟨ad,e1,e2⟩:=hY j hj
  subst e1
  exact okId_box (.inl (by simp [idl,e2])) (by rw [<-e2];exact h.ne _ rfl)
 ·exact r9.on p10.next (fun ad e=>by subst e;exact p10.keep _ r9.id (by simpa using ne9 _ rfl)) (fun ad e _=>by subst e;exact (p10.keep _ r9.id (by simpa using ne9 _ rfl)).get)
 ·rcases ha ad' e with e1 |e1
  ·exact .inl e1
  ·exact .inr (Nat.le_trans p5.next e1)
theorem s160(i:Nat){p a:Option LAddr}{n:Nat}{q:Cap}{s:List UInt8}(c:UInt8)(H:LHeap)(h:Bld H i p a n q s)(hl:s.length<=100000):
  CallL cfg 160 [.ptr (some ⟨i,2,0⟩),.int .u8 (c.toNat:Int)] H (BldW i a (s++[c]) .nilIface H):=by
 refine e160t _ (i::idl a) i p a n q _ H (inv_box h.lt h.get (by simp)) fun _=>⟨_,s244 i p a n q H h.lt h.get h.me,fun v H' ⟨h1,h2,h3⟩=>⟨h1,by rw [h2];exact rfl,_,⟨_,_,_,_,rfl⟩,rfl,h3⟩,fun p1 a2 l3 c4 H5 ⟨p5,_,g5⟩ g5' H6 e6 hI6=> ?_⟩
 rw [g5'] at g5
 simp only [Option.some.injEq,Slot.obj,LObj.cells.injEq,List.cons.injEq,LV.ptr.injEq,LV.slice.injEq,and_true] at g5
 obtain ⟨⟨rfl,rfl,rfl,rfl⟩,_⟩:=g5
 have p6:PresX [] H5 H6:=by rw [e6];exact .push _ _ _
 have p56:PresX [i] H H6:=p5.trans p6 (fun j hj=>by cases hj)
 have r5:RowAt H6 5 1 a2 l3 c4 (bcs s):=h.row.on p56.next (fun ad e=>by subst e;exact p56.keep _ h.row.id (by simpa using h.ne _ rfl)) (fun ad e _=>by subst e;exact (p56.keep _ h.row.id (by simpa using h.ne _ rfl)).get)
 have hn:=h.len
 have hload:loadN H6 ⟨H5.next,1,0⟩ 1=some [.int .u8 (c.toNat:Int)]:=by
  unfold loadN
  rw [e6,LHeap.get_push,if_pos rfl]
  rfl
 obtain ⟨Y,a',q',H9,e9,p9,r9,hY,ha,hq⟩:=r5.append2 rowTB (x:=.slice (some ⟨H5.next,1,0⟩) 1 (.exact 1)) (m:=1) (new:=bcs [c]) rfl (by unfold firstCellsL;exact hload) rfl rfl (by omega)
 have ne9:∀ad',a'=some ad'->ad'.id≠i:=by
  intro ad' e
  rcases ha ad' e with ⟨ad,e1,e2⟩ |e1
  ·rw [<-e2];exact h.ne _ e1
  ·exact fun e=>Nat.lt_irrefl _ (Nat.lt_of_lt_of_le (by rw [e];exact Nat.lt_of_lt_of_le h.lt (Nat.le_of_lt (by rw [e6];exact Nat.lt_of_le_of_lt p5.next (Nat.lt_succ_self _)))) e1)
 refine ⟨Y,a',l3+1,q',H9,⟨e9,p9,fun j hj=> ?_⟩,fun H10 p10 hI=>⟨rfl,hI.pres,a',l3+1,q',⟨Nat.lt_of_lt_of_le h.lt hI.pres.next,(hI.slot 0 _ rfl).2.1,?_,.inr rfl,ne9,fun _ _=>⟨by omega,hq (by omega)⟩⟩,fun ad' e=> ?_⟩⟩
 ·obtain ⟨ad,e1,e2⟩:=hY j hj
  subst e1
  exact okId_box (.inl (by simp [idl,e2])) (by rw [<-e2];exact h.ne _ rfl)
 ·rw [bcs_app]
  exact r9.on p10.next (fun ad e=>by subst e;exact p10.keep _ r9.id (by simpa using ne9 _ rfl)) (fun ad e _=>by subst e;exact (p10.keep _ r9.id (by simpa using ne9 _ rfl)).get)
 ·rcases ha ad' e with e1 |e1
  ·exact .inl e1
  ·exact .inr (Nat.le_trans p56.next e1)
theorem s112(i:Nat){p a:Option LAddr}{n:Nat}{q:Cap}{s:List UInt8}(H:LHeap)(h:Bld H i p a n q s)(hl:s.length<=100000):
  CallL cfg 112 [.ptr (some ⟨i,2,0⟩)] H (fun v H'=>PresX (idl a) H H'/\v=.str s):=by
 have hn:=h.len
 have hg:=h.get
 have hrow:=h.row
 cases a with
 |none=>
  have h0:n=0/\q=.exact 0:=by
   generalize bcs s=cs at hrow
   cases hrow;exact ⟨rfl,rfl⟩
  obtain ⟨rfl,rfl⟩:=h0
  have hs:s=[]:=List.eq_nil_of_length_eq_zero (by omega)
  subst hs
  refine e112n _ [i] i p H (inv_box h.lt hg (by simp)) fun _=>⟨none,[],H,⟨rfl,.refl _ _,fun j hj=>by cases hj⟩,rfl,fun _=>⟨[],[],H,⟨rfl,.refl _ _,fun j hj=>by cases hj⟩,fun hI=>⟨.refl _ _,rfl⟩⟩⟩
 |some ad=>
  obtain ⟨hpos,rfl⟩:=h.pos ad rfl
  obtain ⟨k,rfl⟩:∃k,n=k+1:=⟨n-1,by omega⟩
  have hload:loadN H ad (k+1)=some (bcs s):=by
   have:=hrow.loadAll
   unfold firstCellsL at this
   simpa using this
  have hobj:∃m,H.get ad.id=some (.cells (bcs s) 5 (k+1) m .none false false)/\ad.ver=k+1:=by
   generalize bcs s=cs at hrow
   cases hrow with
   |free r n m cs hi h1 h2 h3 h4=>exact ⟨m,by simpa using h1,by simp⟩
  obtain ⟨m,hobj,hver⟩:=hobj
  have hfz:freezeL H ad (k+1)=some (H.put ad.id (.cells (bcs s) 5 (k+1) m (.range ad.off (ad.off+(k+1))) false false)):=by
   unfold freezeL
   simp only [hobj,hver,Nat.beq_refl,Bool.not_false,Bool.and_self,if_true]
  refine e112s _ [i,ad.id] i p ad k (.free 1) H (inv_box h.lt hg (by simp)) fun _=>⟨some ad,[],H,⟨rfl,.refl _ _,fun j hj=>by cases hj⟩,rfl,fun _=>⟨s,[ad.id],H.put ad.id (.cells (bcs s) 5 (k+1) m (.range ad.off (ad.off+(k+1))) false false),⟨?_,.put _ _ _,fun j hj=> ?_⟩,fun hI=>⟨.put _ _ _,rfl⟩⟩⟩
  ·show (match builtinL cfg H .unsafeString [250,3] [.ptr (some ad),.int .i64 (Int.ofNat (k+1))] with |some x=>some [x] |none=>none)=_
   have hbr:byteRow cfg.P 5 [250,3]=true:=by kernel_rfl
   have hble:Nat.ble (k+1) 9223372036854775807=true:=by rw [Nat.ble_eq];omega
   have:builtinL cfg H .unsafeString [250,3] [.ptr (some ad),.int .i64 (Int.ofNat (k+1))]=some (.value (.str s),H.put ad.id (.cells (bcs s) 5 (k+1) m (.range ad.off (ad.off+(k+1))) false false)):=by
    unfold builtinL
    simp only [hobj,hbr,hble,Bool.and_self,hload,bytes_bcs,hfz]
   rw [this]
  ·rw [List.mem_singleton.1 hj]
   exact okId_box (.inl (by simp)) (h.ne ad rfl)
def L148t_0(d:Nat->LV)(s0:List UInt8)(n1:Int):List SV:=[.lv (.str s0),.lv (d 1),.own 0 0,.lv (d 3),.own 1 0,.lv (I6 n1)]++dl d 6 35
abbrev qT8_1:List LV:=[I6 0,I6 0,.str [],.str [],.str [],I6 0,I6 0,.bool false,.bool false]
abbrev qT8_2(i2:Nat)(x3:TokC)(i4:Nat)(p5 a6:Option LAddr)(l7:Nat)(c8:Cap):List Slot:=[Sk i2 (TokC.cs x3) 124,Sk i4 [.ptr p5,.slice a6 l7 c8] 162]
abbrev qT8_3(H':LHeap)(i4:Nat):Prop:=∃cs,hasSh (.agg [.ptr,.slice]) (.agg cs)/\(List.length cs=2/\H'.get i4=some (Slot.obj ⟨i4,cs,162⟩))
theorem g148t_0(R:RR)(H0:LHeap)(d:Nat->LV)(s0:List UInt8)(n1:Int)(i2:Nat)(x3:TokC)(i4:Nat)(p5:Option LAddr)(a6:Option LAddr)(l7:Nat)(c8:Cap)(H:LHeap)
 (h:Dc (n1<(s0.length:Int)) ((0<=n1/\(n1<=(s0.length:Int)/\(s0.length:Int)<=(s0.length:Int)))/\(Inv [] H0 (qT8_2 i2 x3 i4 p5 a6 l7 c8) H->Ki 231 [.str (subStr s0 n1 (s0.length:Int)),.str [34]] H fun s11 s12 b13 H14=>Cd (!b13) (PX [i2] H14 fun H15=>R0 H0 [Sk i2 qT8_1 124,Sk i4 [.ptr p5,.slice a6 l7 c8] 162] H15 R (.tuple [.agg qT8_1,I6 0])) (Inv [] H0 (qT8_2 i2 x3 i4 p5 a6 l7 c8) H14->∃S16 Y,CallL cfg 161 [.ptr (some (Lk i4 2 0)),.str s11] H14 S16/\((∀v H',S16 v H'->PresX (i4::Y) H14 H'/\(hasSh (.tuple [.int .i64,.any]) v/\ (qT8_3 H' i4)))/\((∀i∈Y,okId [] H0 (qT8_2 i2 x3 i4 p5 a6 l7 c8) i)/\(∀n17 v18 p19 a20 l21 c22 H23,S16 (.tuple [I6 n17,v18]) H23->H23.get i4=some (Slot.obj (Sk i4 [.ptr p19,.slice a20 l21 c22] 162))->Inv [] H0 (qT8_2 i2 x3 i4 p19 a20 l21 c22) H23->Ka 232 [.str s12,.str [34]] H23 fun b25 H26=>Cd (!b25) (Inv [] H0 (qT8_2 i2 x3 i4 p19 a20 l21 c22) H26->∃S27 Y,CallL cfg 112 [.ptr (some (Lk i4 2 0))] H26 S27/\((∀v H',S27 v H'->PresX Y H26 H'/\hasSh .str v)/\((∀i∈Y,okId [] H0 (qT8_2 i2 x3 i4 p19 a20 l21 c22) i)/\(∀s28 H29,S27 (.str s28) H29->PX [i2] H29 fun H30=>R0 H0 [Sk i2 [I6 2,I6 0,.str s28,.str [],.str [],I6 0,I6 0,.bool false,.bool false] 124,Sk i4 [.ptr p19,.slice a20 l21 c22] 162] H30 R (.tuple [.agg [I6 2,I6 0,.str s28,.str [],.str [],I6 0,I6 0,.bool false,.bool false],I6 (lwrap .i64 ((s0.length:Int)-(s12.length:Int)))]))))) (Inv [] H0 (qT8_2 i2 x3 i4 p19 a20 l21 c22) H26->∃S31 Y,CallL cfg 160 [.ptr (some (Lk i4 2 0)),.int .u8 34] H26 S31/\((∀v H',S31 v H'->PresX (i4::Y) H26 H'/\(hasSh .any v/\ (qT8_3 H' i4)))/\((∀i∈Y,okId [] H0 (qT8_2 i2 x3 i4 p19 a20 l21 c22) i)/\(∀v32 p33 a34 l35 c36 H37,S31 v32 H37->H37.get i4=some (Slot.obj (Sk i4 [.ptr p33,.slice a34 l35 c36] 162))->∀d38,GoesT cfg 148 R [] H0 (qT8_2 i2 x3 i4 p33 a34 l35 c36) (L148t_0 d38 s0 (lwrap .i64 ((lwrap .i64 ((s0.length:Int)-(s12.length:Int)))+1))) (loopAt cfg 148 0) H37)))))))))) (PX [i2] H fun H39=>R0 H0 [Sk i2 qT8_1 124,Sk i4 [.ptr p5,.slice a6 l7 c8] 162] H39 R (.tuple [.agg qT8_1,I6 0]))):
 GoesT cfg 148 R [] H0 [Sk i2 (TokC.cs x3) 124,Sk i4 [.ptr p5,.slice a6 l7 c8] 162] (L148t_0 d s0 n1) (loopAt cfg 148 0) H:=seg_wt (k:=(.go 8 (.cases 12 (.go 7 (.op .str (.facts (.call (.tuple [.str,.str,.bool]) (.go 14 (.cases 22 (.go 4 (.putP (.go 2 (.facts .ret)))) (.go 5 (.facts (.callOY 1 (.agg [.ptr,.slice]) (.tuple [.int .i64,.any]) (.go 14 (.facts (.call .bool (.go 2 (.cases 33 (.go 3 (.facts (.callY .str (.go 2 (.putP (.go 2 (.facts .ret))))))) (.go 4 (.facts (.callOY 1 (.agg [.ptr,.slice]) .any (.go 8 (.stop [2,4,0,5] 2))))))))))))))))))) (.go 5 (.putP (.go 2 (.facts .ret))))))) (by kernel_rfl) h
theorem e148t(R:RR)(s0:List UInt8)(H:LHeap)
 (h:NX H fun i1 H2=>NX H2 fun i3 H4=>∀d5,GoesT cfg 148 R [] H [Sk i1 qT8_1 124,Sk i3 [.ptr none,.slice none 0 (.exact 0)] 162] (L148t_0 d5 s0 1) (loopAt cfg 148 0) H4):
 CallL cfg 148 [.str s0] H R:=call_wt0 (k:=(.go 2 (.boxP (.go 4 (.boxP (.go 8 (.stop [2,4,0,5] 2))))))) (by kernel_rfl) h
def qF:List UInt8->Option (List UInt8×Nat)
 |[]=>none
 |[b]=>if b==34 then some ([],1) else none
 |b::c::s=>if b==34 then (if c==34 then (qF s).map fun r=>(34::r.1,r.2+2) else some ([],1)) else (qF (c::s)).map fun r=>(b::r.1,r.2+1)
def strT(x:List UInt8):TokC:=⟨2,0,x,[],[],0,0,false,false⟩
def quotedF:List UInt8->Option (TokC×Nat)
 |[]=>none
 |_::t=>(qF t).map fun r=>(strT r.1,r.2+1)
theorem qF_no{b:UInt8}{s:List UInt8}(h:(b==34)=false):qF (b::s)=(qF s).map fun r=>(b::r.1,r.2+1):=by
 cases s with
 |nil=>unfold qF;rw [h];rfl
 |cons c s=>rw [qF,h];rfl
theorem qF_two{s:List UInt8}:qF (34::34::s)=(qF s).map fun r=>(34::r.1,r.2+2):=by rw [qF];rfl
theorem qF_end{s:List UInt8}(h:(s.take 1==[34])=false):qF (34::s)=some ([],1):=by
 cases s with
 |nil=>rfl
 |cons c s=>
  have:(c==34)=false:=by
   rw [beq_eq_false_iff_ne] at h |-
   intro e;subst e;exact h rfl
  rw [qF,this];rfl
theorem qF_cut:∀{s p r:List UInt8},cutF 34 s=some (p,r)->qF s=(qF (34::r)).map fun x=>(p++x.1,p.length+x.2)
 |[],p,r,h=>by cases h
 |b::s,p,r,h=>by
  rw [cutF_cons] at h
  cases hb:(b==34) with
  |true=>
   rw [hb,if_pos rfl] at h
   cases h
   rw [eq_of_beq hb]
   cases qF (34::s)<;>simp
  |false=>
   rw [hb,if_neg (by simp)] at h
   rw [qF_no hb]
   cases hc:cutF 34 s with
   |none=>rw [hc] at h;cases h
   |some x=>
    obtain ⟨p',r'⟩:=x
    rw [hc] at h
    cases h
    rw [qF_cut hc,Option.map_map]
    cases qF (34::r) with
    |none=>rfl
    |some x=>simp;omega
theorem qF_nocut:∀{s:List UInt8},cutF 34 s=none->qF s=none
 |[],h=>rfl
 |b::s,h=>by
  rw [cutF_cons] at h
  cases hb:(b==34) with
  |true=>rw [hb,if_pos rfl] at h;cases h
  |false=>
   rw [hb,if_neg (by simp)] at h
   rw [qF_no hb,qF_nocut (s:=s) (by
    cases hc:cutF 34 s with
    |none=>rfl
    |some x=>rw [hc] at h;cases h)]
   rfl
theorem BldW.elim{i:Nat}{a:Option LAddr}{t:List UInt8}{v:LV}{H:LHeap}{w:LV}{H':LHeap}(h:BldW i a t v H w H'){p b:Option LAddr}{n:Nat}{q:Cap}(hg:H'.get i=some (Slot.obj ⟨i,[.ptr p,.slice b n q],162⟩)):
  Bld H' i p b n q t/\(∀ad',b=some ad'->(∃ad,a=some ad/\ad.id=ad'.id)\/H.next<=ad'.id):=by
 obtain ⟨_,_,a',n',q',hb,ha⟩:=h
 have h2:=hb.get
 rw [hg] at h2
 simp only [Option.some.injEq,Slot.obj,LObj.cells.injEq,List.cons.injEq,LV.ptr.injEq,LV.slice.injEq,and_true] at h2
 obtain ⟨⟨rfl,rfl,rfl,rfl⟩,_⟩:=h2
 exact ⟨hb,ha⟩
theorem idl_ok{X:List Nat}{H0:LHeap}{a:Option LAddr}{i2 i4:Nat}{c2 c4:List LV}{e2 e4:TypeId}(h:∀ad,a=some ad->H0.next<=ad.id/\ad.id≠i2)(h4:∀ad,a=some ad->ad.id≠i4):∀j∈idl a,okId X H0 [⟨i2,c2,e2⟩,⟨i4,c4,e4⟩] j:=by
 intro j hj
 cases a with
 |none=>cases hj
 |some ad=>
  rw [List.mem_singleton.1 hj]
  refine ⟨.inr (h ad rfl).1,fun k s hs=> ?_⟩
  cases k with
  |zero=>cases hs;exact fun e=>(h ad rfl).2 e.symm
  |succ k=>cases k with
   |zero=>cases hs;exact fun e=>h4 ad rfl e.symm
   |succ k=>simp [nth] at hs
def qL(B:List UInt8)(n:Nat)(o:Option (List UInt8×Nat)):LV:=tokL (o.map fun r=>(strT (B++r.1),n+r.2))
theorem loop148(s:List UInt8)(hs:s.length<=1000)(H0:LHeap)(i2 i4:Nat):∀(m:Nat) (C A B:List UInt8) (p a:Option LAddr) (l:Nat) (c:Cap) (d:Nat->LV) (H:LHeap),C.length<=m->A++C=s->B.length+C.length<=1000->
  Bld H i4 p a l c B->(∀ad,a=some ad->H0.next<=ad.id/\ad.id≠i2)->∀r:LV,r=qL B A.length (qF C)->
  GoesT cfg 148 (Ret r H0) [] H0 [⟨i2,zeroT.cs,124⟩,⟨i4,[.ptr p,.slice a l c],162⟩] (L148t_0 d s (A.length:Int)) (loopAt cfg 148 0) H:=by
 intro m
 induction m with
 |zero=>
  intro C A B p a l c d H hm hA hB hb ha r hr hin hI
  have hC:C=[]:=List.eq_nil_of_length_eq_zero (by omega)
  subst hC
  rw [List.append_nil] at hA
  subst hA
  refine g148t_0 _ H0 d A A.length i2 zeroT i4 p a l c H ⟨fun h=>(by simp at h),fun _ H39 _ hI=>⟨?_,hI.pres⟩⟩ hin hI
  rw [hr];rfl
 |succ m ih=>
  intro C A B p a l c d H hm hA hB hb ha r hr hin hI
  have hlen:s.length=A.length+C.length:=by rw [<-hA];simp
  have hd:subStr s (A.length:Int) ((s.length:Nat):Int)=C:=by rw [sub_drop,<-hA];simp
  have hi2:i2<H.next:=(hI.slot 0 _ rfl).1
  have c231:CallL cfg 231 [.str (subStr s (A.length:Int) ((s.length:Nat):Int)),.str [34]] H (Ret (cutL C 34) H):=by rw [hd];exact s231 C 34 H (by omega)
  refine g148t_0 _ H0 d s A.length i2 zeroT i4 p a l c H ⟨fun h=>⟨by omega,fun _=>⟨_,c231,Ret.use (cutL_sh _ _),fun s11 s12 b13 H14 ⟨e13,p14⟩=> ?_⟩⟩,fun h H39 _ hI=>⟨?_,hI.pres⟩⟩ hin hI
  ·have q1:=cut_inv e13
   refine ⟨fun h13 H15 _ hI=>⟨?_,hI.pres⟩,fun h13 _=> ?_⟩
   ·have:b13=false:=by simpa using h13
    rw [this] at q1
    rw [hr,qF_nocut q1];rfl
   ·have hb13:b13=true:=by simpa using h13
    rw [hb13,if_pos rfl] at q1
    have hl1:=cutF_len q1
    have b14:Bld H14 i4 p a l c B:=hb.on p14 (by simp) (fun _ _=>by simp)
    have hq:=qF_cut q1
    refine ⟨_,idl a,s161 i4 s11 H14 b14 (by omega),BldW.use ⟨_,_,rfl⟩,idl_ok ha hb.ne,fun n17 v18 p19 a20 l21 c22 H23 w23 g23 _=> ?_⟩
    obtain ⟨b23,n23⟩:=w23.elim g23
    have p23:=w23.2.1
    have ha23:∀ad,a20=some ad->H0.next<=ad.id/\ad.id≠i2:=by
     intro ad e
     rcases n23 ad e with ⟨ad',e1,e2⟩ |e1
     ·rw [<-e2];exact ha ad' e1
     ·have h0:=hI.pres.next
      have h1:=p14.next
      exact ⟨by omega,by omega⟩
    refine ⟨_,s232 s12 [34] H23,Ret.use ⟨_,rfl⟩,fun b25 H26 ⟨e25,p26⟩=> ?_⟩
    have b26:Bld H26 i4 p19 a20 l21 c22 (B++s11):=b23.on p26 (by simp) (fun _ _=>by simp)
    have w1:lwrap .i64 (((s.length:Nat):Int)-((s12.length:Nat):Int))=((A.length+(s11.length+1):Nat):Int):=by
     rw [lwrap_small (by omega) (by omega)];omega
    rw [w1]
    refine ⟨fun h25 _=>⟨_,idl a20,s112 i4 H26 b26 (by simp;omega),fun v H' ⟨k1,k2⟩=>⟨k1,by rw [k2];exact ⟨_,rfl⟩⟩,idl_ok ha23 b26.ne,fun s28 H29 ⟨_,e28⟩ H30 _ hI=>⟨?_,hI.pres⟩⟩,fun h25 _=>⟨_,idl a20,s160 i4 34 H26 b26 (by simp;omega),BldW.use ⟨_,rfl⟩,idl_ok ha23 b26.ne,fun v32 p33 a34 l35 c36 H37 w37 g37 d38=> ?_⟩⟩
    ·cases e28
     have hb25:b25=false:=by simpa using h25
     have:(s12.take 1==[34])=false:=by
      rw [hb25] at e25;exact (LV.bool.inj e25).symm
     rw [hr,hq,qF_end this]
     simp [qL,tokL,strT]
     rfl
    ·have hb25:b25=true:=by simpa using h25
     obtain ⟨b37,n37⟩:=w37.elim g37
     have:(s12.take 1==[34])=true:=by
      rw [hb25] at e25;exact (LV.bool.inj e25).symm
     obtain ⟨C',hC'⟩:∃C',s12=34::C':=by
      cases s12 with
      |nil=>cases this
      |cons x y=>simp at this;exact ⟨y,by rw [this]⟩
     subst hC'
     rw [lwrap_small (by omega) (by omega),show (((A.length+(s11.length+1):Nat):Int))+1=(((A++s11++[34,34]).length:Nat):Int) by simp;omega]
     have hCe:=cutF_eq q1
     refine ih C' (A++s11++[34,34]) (B++s11++[34]) p33 a34 l35 c36 d38 H37 (by simp at hl1;omega) (by rw [<-hA,hCe];simp) (by simp at hl1 |-;omega) b37 ?_ r ?_
     ·intro ad e
      rcases n37 ad e with ⟨ad',e1,e2⟩ |e1
      ·rw [<-e2];exact ha23 ad' e1
      ·have h0:=hI.pres.next
       have h1:=p14.next
       have h2:=p23.next
       have h3:=p26.next
       exact ⟨by omega,by omega⟩
     ·rw [hr,hq,qF_two]
      cases qF C' with
      |none=>rfl
      |some x=>
       simp [qL,tokL,strT]
       omega
  ·have hC:C=[]:=List.eq_nil_of_length_eq_zero (by simp at h;omega)
   rw [hr,hC];rfl
theorem s148(c:UInt8)(t:List UInt8)(hs:(c::t).length<=1000)(H:LHeap):CallL cfg 148 [.str (c::t)] H (Ret (tokL (quotedF (c::t))) H):=by
 refine e148t _ (c::t) H fun i1 H2 h2 p2 i3 H4 h4 p4 d5 hin hI=> ?_
 have hs3:=hI.slot 1 _ rfl
 have hb:Bld H4 i3 none none 0 (.exact 0) []:=⟨hs3.1,hs3.2.1,.nil,.inl rfl,(fun _ e=>by cases e),(fun _ e=>by cases e)⟩
 refine loop148 (c::t) hs H i1 i3 t.length t [c] [] none none 0 (.exact 0) d5 H4 (Nat.le_refl _) rfl (by simp at hs |-;omega) hb (fun _ e=>by cases e) _ ?_ hin hI
 rw [show quotedF (c::t)=(qF t).map fun r=>(strT r.1,r.2+1) from rfl]
 unfold qL
 cases qF t with
 |none=>rfl
 |some x=>simp [Nat.add_comm]
theorem loop155(s:List UInt8)(hs:s.length<=1000)(H0:LHeap)(i3:Nat):∀(m:Nat) (C A B:List UInt8) (d:Nat->LV) (H:LHeap),C.length<=m->A++C=s->B.length+C.length<=1000->
  ∀r:LV,r=qL B A.length (qF C)->
  GoesT cfg 155 (Ret r H0) [] H0 [⟨i3,zeroT.cs,127⟩] (L155t_0 d (A.length:Int) B s) (loopAt cfg 155 0) H:=by
 intro m
 induction m with
 |zero=>
  intro C A B d H hm hA hB r hr hin hI
  have hC:C=[]:=List.eq_nil_of_length_eq_zero (by omega)
  subst hC
  rw [List.append_nil] at hA
  subst hA
  refine g155t_0 _ H0 d A.length B A i3 zeroT H ⟨fun h=>(by simp at h),fun _ H39 _ hI=>⟨?_,hI.pres⟩⟩ hin hI
  rw [hr];rfl
 |succ m ih=>
  intro C A B d H hm hA hB r hr hin hI
  cases C with
  |nil=>
   rw [List.append_nil] at hA
   subst hA
   refine g155t_0 _ H0 d A.length B A i3 zeroT H ⟨fun h=>(by simp at h),fun _ H39 _ hI=>⟨?_,hI.pres⟩⟩ hin hI
   rw [hr];rfl
  |cons b C=>
   have hlen:s.length=A.length+(C.length+1):=by rw [<-hA];simp
   have hb:byteAt s (A.length:Int)=(b.toNat:Int):=by rw [<-hA];exact byteAt_app A b C
   have w1:lwrap .i64 ((A.length:Int)+1)=((A.length+1:Nat):Int):=by rw [lwrap_small (by omega) (by omega)];simp
   have hsub:subStr s (A.length:Int) ((A.length+1:Nat):Int)=[b]:=by
    rw [sub_part,<-hA];simp
   have hbe:(b==34)=((b.toNat:Int)==34):=by
    rw [Bool.eq_iff_iff]
    simp only [beq_iff_eq]
    exact ⟨fun e=>by rw [e];rfl,fun e=>UInt8.toNat_inj.1 (by show b.toNat=34;omega)⟩
   refine g155t_0 _ H0 d A.length B s i3 zeroT H ⟨fun _=>⟨by omega,fun hne=> ?_,fun heq=> ?_⟩,fun h=>(by simp at h;omega)⟩ hin hI
   ·rw [w1,hsub]
    rw [hb] at hne
    have hb34:(b==34)=false:=by rw [hbe];rw [bne_iff_ne] at hne;rw [beq_eq_false_iff_ne];exact hne
    refine ⟨by omega,by simp at hB |-;omega,fun d8=> ?_⟩
    rw [show (((A.length+1:Nat):Int))=(((A++[b]).length:Nat):Int) by simp]
    refine ih C (A++[b]) (B++[b]) d8 H (by simp at hm;omega) (by rw [<-hA];simp) (by simp at hB |-;omega) r ?_
    rw [hr,qF_no hb34]
    cases qF C with
    |none=>rfl
    |some x=>simp [qL,tokL,strT];omega
   ·rw [hb] at heq
    have hb34:b=34:=eq_of_beq (by rw [hbe];simpa using heq)
    subst hb34
    rw [w1]
    refine ⟨fun hlt=>⟨by simp at hlt;omega,fun h2=> ?_,fun h2 H12 _ hI=>⟨?_,hI.pres⟩⟩,fun hge H13 _ hI=>⟨?_,hI.pres⟩⟩
    ·cases C with
     |nil=>simp at hlt;simp at hlen;omega
     |cons c C=>
      have hb2:byteAt s ((A.length+1:Nat):Int)=(c.toNat:Int):=by
       have:=byteAt_app (A++[34]) c C
       rw [show A++[34]++c::C=s by rw [<-hA];simp] at this
       rw [<-this];simp
      rw [hb2] at h2
      have hc34:c=34:=UInt8.toNat_inj.1 (by show c.toNat=34;have:=eq_of_beq h2;omega)
      subst hc34
      have w2:lwrap .i64 (((A.length+1:Nat):Int)+1)=(((A++[34,34]).length:Nat):Int):=by rw [lwrap_small (by omega) (by omega)];simp;omega
      rw [w2]
      refine ⟨by simp at hB |-;omega,fun d11=> ?_⟩
      refine ih C (A++[34,34]) (B++[34]) d11 H (by simp at hm;omega) (by rw [<-hA];simp) (by simp at hB |-;omega) r ?_
      rw [hr,qF_two]
      cases qF C with
      |none=>rfl
      |some x=>simp [qL,tokL,strT];omega
    ·cases C with
     |nil=>simp at hlt;simp at hlen;omega
     |cons c C=>
      have hb2:byteAt s ((A.length+1:Nat):Int)=(c.toNat:Int):=by
       have:=byteAt_app (A++[34]) c C
       rw [show A++[34]++c::C=s by rw [<-hA];simp] at this
       rw [<-this];simp
      rw [hb2] at h2
      have:((c::C).take 1==[34])=false:=by
       rw [beq_eq_false_iff_ne] at h2 |-
       intro e
       simp at e
       subst e;exact h2 rfl
      rw [hr,qF_end this]
      simp [qL,tokL,strT]
      rfl
    ·cases C with
     |nil=>
      rw [hr,qF_end rfl]
      simp [qL,tokL,strT]
      rfl
     |cons c C=>simp at hge;simp at hlen;omega
theorem s155(c:UInt8)(t:List UInt8)(hs:(c::t).length<=1000)(H:LHeap):CallL cfg 155 [.str (c::t)] H (Ret (tokL (quotedF (c::t))) H):=by
 refine e155t _ (c::t) H fun i1 H2 h2 p2 d3=> ?_
 refine loop155 (c::t) hs H i1 t.length t [c] [] d3 H2 (Nat.le_refl _) rfl (by simp at hs |-;omega) _ ?_
 rw [show quotedF (c::t)=(qF t).map fun r=>(strT r.1,r.2+1) from rfl]
 unfold qL
 cases qF t with
 |none=>rfl
 |some x=>simp [Nat.add_comm]
def L74t_0(d:Nat->LV)(p0:Option LAddr):List SV:=[.own 0 0]++dl d 1 7++[.lv (.ptr p0)]++dl d 9 34
abbrev qT4_1(d:Nat->LV)(p0:Option LAddr):List SV:=[.own 0 0,.lv (d 1),.lv (d 2),.lv (d 3),.lv (d 4),.lv (d 5),.lv (d 6),.lv (d 7),.lv (.ptr p0),.lv (d 9),.lv (d 10),.lv (d 11),.lv (d 12),.lv (d 13),.lv (d 14),.lv (d 15),.lv (d 16),.lv (d 17),.lv (d 18),.lv (d 19),.lv (d 20),.lv (d 21),.lv (d 22),.lv (d 23),.lv (d 24),.lv (d 25),.lv (d 26),.lv (d 27),.lv (d 28),.lv (d 29),.lv (d 30),.lv (d 31),.lv (d 32),.lv (d 33),.lv (d 34),.lv (d 35),.lv (d 36),.lv (d 37),.lv (d 38),.lv (d 39),.lv (d 40),.lv (d 41),.lv (d 42)]
abbrev qT4_2(i1:Nat)(H14 H0:LHeap)(s2:List UInt8)(R:RR):Prop:=PX [i1] H14 fun H15=>RX [i1] H0 [Sk i1 [.str s2,.func (Fn.func 151) [] []] 121] H15 R (.tuple [])
theorem g74t_0(R:RR)(H0:LHeap)(d:Nat->LV)(p0:Option LAddr)(i1:Nat)(s2:List UInt8)(v3:LV)(H:LHeap)
 (h:(Inv [i1] H0 [Sk i1 [.str s2,v3] 121] H->∃y4 Y H5,(opL cfg (fun (x:Operand)=>denF [Sk i1 [.str s2,v3] 121] (evalS cfg (qT4_1 d p0) x)) H (Oper.mk (some 9) (Op.next (Operand.tmp 8) true) 0 "token.go:53" (List.toArray []) none)=some [(.value (.tuple [.bool true,I6 (Prod.fst y4),.int .i32 (Prod.snd y4)]),H5)]/\(PresX Y H H5/\(∀i∈Y,okId [i1] H0 [Sk i1 [.str s2,v3] 121] i)))/\(Inv [i1] H0 [Sk i1 [.str s2,v3] 121] H5->Ka 146 [.int .i32 (Prod.snd y4)] H5 fun b7 H8=>Cd b7 (PX [i1] H8 fun H9=>RX [i1] H0 [Sk i1 [.str s2,.func (Fn.func 147) [] []] 121] H9 R (.tuple [])) (Cd ((Prod.snd y4)==34) (PX [i1] H8 fun H10=>RX [i1] H0 [Sk i1 [.str s2,.func (Fn.func 148) [] []] 121] H10 R (.tuple [])) (Cd ((Prod.snd y4)==35) (PX [i1] H8 fun H11=>RX [i1] H0 [Sk i1 [.str s2,.func (Fn.func 149) [] []] 121] H11 R (.tuple [])) (Inv [i1] H0 [Sk i1 [.str s2,v3] 121] H8->Ka 150 [.int .i32 (Prod.snd y4)] H8 fun b13 H14=>Cd b13 (qT4_2 i1 H14 H0 s2 R) (Cd ((Prod.snd y4)==91) (qT4_2 i1 H14 H0 s2 R) (Cd ((Prod.snd y4)==36) (qT4_2 i1 H14 H0 s2 R) (PX [i1] H14 fun H18=>RX [i1] H0 [Sk i1 [.str s2,.func (Fn.func 152) [] []] 121] H18 R (.tuple [])))))))))\/(Inv [i1] H0 [Sk i1 [.str s2,v3] 121] H->∃(y19:Unit) (Y:List Nat) (H20:LHeap),(opL cfg (fun (x:Operand)=>denF [Sk i1 [.str s2,v3] 121] (evalS cfg (qT4_1 d p0) x)) H (Oper.mk (some 9) (Op.next (Operand.tmp 8) true) 0 "token.go:53" (List.toArray []) none)=some [(.value (.tuple [.bool false]),H20)]/\(PresX Y H H20/\(∀i∈Y,okId [i1] H0 [Sk i1 [.str s2,v3] 121] i)))/\(RX [i1] H0 [Sk i1 [.str s2,v3] 121] H20 R (.tuple [])))):
 GoesT cfg 74 R [i1] H0 [Sk i1 [.str s2,v3] 121] (L74t_0 d p0) (loopAt cfg 74 0) H:=seg_wt (k:=(.go 2 (.alt (.facts (.any (.cust (Int×Int) (fun (p:Int×Int)=>(.tuple [.bool true,.int .i64 p.1,.int .i32 p.2]:LV))) (.go 16 (.facts (.call .bool (.go 2 (.cases 15 (.go 5 (.putP (.go 2 (.facts .ret)))) (.go 7 (.cases 21 (.go 5 (.putP (.go 2 (.facts .ret)))) (.go 7 (.cases 27 (.go 5 (.putP (.go 2 (.facts .ret)))) (.go 5 (.facts (.call .bool (.go 2 (.cases 33 (.go 7 (.putP (.go 2 (.facts .ret)))) (.go 7 (.cases 33 (.go 7 (.putP (.go 2 (.facts .ret)))) (.go 6 (.cases 33 (.go 5 (.putP (.go 2 (.facts .ret)))) (.go 5 (.putP (.go 2 (.facts .ret)))))))))))))))))))))))) (.facts (.any (.cust Unit (fun (_:Unit)=>(.tuple [.bool false]:LV))) (.go 5 (.facts .ret))))))) (by kernel_rfl) h
theorem e74t(R:RR)(s:(List UInt8))(v:Go.Lm.LV)(ii:Nat)(H:LHeap)(hI:Inv [ii] H [(Sk ii [(.str s),v] 121)] H)
 (h:Inv [ii] H [Sk ii [.str s,v] 121] H->∃p0 Y H1,(opL cfg (fun (x:Operand)=>denF [Sk ii [.str s,v] 121] (evalS cfg [.own 0 0,.lv (.tuple []),.lv (.tuple []),.lv (.tuple []),.own 0 0,.own 0 0,.own 0 0,.lv (.str s),.lv (.tuple []),.lv (.tuple []),.lv (.tuple []),.lv (.tuple []),.lv (.tuple []),.lv (.tuple []),.lv (.tuple []),.lv (.tuple []),.lv (.tuple []),.lv (.tuple []),.lv (.tuple []),.lv (.tuple []),.lv (.tuple []),.lv (.tuple []),.lv (.tuple []),.lv (.tuple []),.lv (.tuple []),.lv (.tuple []),.lv (.tuple []),.lv (.tuple []),.lv (.tuple []),.lv (.tuple []),.lv (.tuple []),.lv (.tuple []),.lv (.tuple []),.lv (.tuple []),.lv (.tuple []),.lv (.tuple []),.lv (.tuple []),.lv (.tuple []),.lv (.tuple []),.lv (.tuple []),.lv (.tuple []),.lv (.tuple []),.lv (.tuple [])] x)) H (Oper.mk (some 8) (Op.range 9 (Operand.tmp 7)) 0 "token.go:53" (List.toArray [Edge.mk 3 Go.Ground.data]) none)=some [(.value (.ptr p0),H1)]/\(PresX Y H H1/\(∀i∈Y,okId [ii] H [Sk ii [.str s,v] 121] i)))/\(∀d2,GoesT cfg 74 R [ii] H [Sk ii [.str s,v] 121] (L74t_0 d2 p0) (loopAt cfg 74 0) H1)):
 CallL cfg 74 [.ptr (some (Lk ii 2 0))] H R:=call_wt (k:=(.go 6 (.facts (.any .ptr (.go 3 (.stop [0,8] 1)))))) (kn:=[Sk ii [.str s,v] 121]) (args:=[.own 0 0]) (by kernel_rfl) h hI (fun x hx=>List.all_eq_true.1 (show List.all [.own 0 0] (inR 1)=true from rfl) x hx)
abbrev qT6_1:List LV:=[.str [],.str [35,68,73,86,47,48,33],.str [35,86,65,76,85,69,33],.str [35,82,69,70,33],.str [35,78,65,77,69,63],.str [35,78,85,77,33],.str [35,78,47,65],.str [35,67,89,67,76,69,33],.str [35,76,73,78,75,33]]
theorem e261(R:RR)(H:LHeap)
 (h:NX H fun i0 H1=>PX [i0] H1 fun H2=>R0 H [Sk i0 qT6_1 214] H2 R (.agg qT6_1)):
 CallL cfg 261 [] H R:=call_wt0 (k:=(.go 2 (.boxP (.go 4 (.putP (.go 1 (.facts .ret))))))) (by kernel_rfl) h
def opT(x:List UInt8):TokC:=⟨5,0,x,[],[],0,0,false,false⟩
def OPS:List UInt8:=[43,45,42,47,94,38,61,60,62,37,40,41,44,58]
def twoB(s:List UInt8):Bool:=s.take 2==[60,62]||(s.take 2==[60,61]||s.take 2==[62,61])
def opF:List UInt8->Option (TokC×Nat)
 |[]=>none
 |c::t=>if twoB (c::t) then some (opT ((c::t).take 2),2) else if (cutF c OPS).isSome then some (opT [c],1) else none
theorem two_ok{c:UInt8}{t:List UInt8}(h:twoB (c::t)=true):(cutF c OPS).isSome=true:=by
 unfold twoB at h
 simp only [Bool.or_eq_true,beq_iff_eq] at h
 have:c=60\/c=62:=by
  rcases h with h |h |h
  ·simp at h;exact .inl h.1
  ·simp at h;exact .inl h.1
  ·simp at h;exact .inr h.1
 rcases this with rfl |rfl<;>rfl
theorem s152(c:UInt8)(t:List UInt8)(hs:(c::t).length<=1000)(H:LHeap):CallL cfg 152 [.str (c::t)] H (Ret (tokL (opF (c::t))) H):=by
 have e1:subStr (c::t) 0 1=[c]:=by rw [show (1:Int)=((1:Nat):Int) from rfl,sub_take];rfl
 have e2:subStr (c::t) 0 2=(c::t).take 2:=by rw [show (2:Int)=((2:Nat):Int) from rfl,sub_take]
 have hop:opF (c::t)=if twoB (c::t) then some (opT ((c::t).take 2),2) else if (cutF c OPS).isSome then some (opT [c],1) else none:=rfl
 have htw:=two_ok (c:=c) (t:=t)
 have htd:twoB (c::t)=((c::t).take 2==[60,62]||((c::t).take 2==[60,61]||(c::t).take 2==[62,61])):=rfl
 have hlen:(c::t).length=t.length+1:=rfl
 have hsh:∀l:List UInt8,l.length=2->(c::t).length<=1->((c::t).take 2==l)=false:=by
  intro l hl h1
  rw [beq_eq_false_iff_ne]
  intro e
  have:=congrArg List.length e
  rw [List.length_take] at this
  omega
 refine e152t _ (c::t) H fun i1 H2 _ _=> ?_
 dsimp only [qT1_1,qT1_10,qT1_4,qT1_7]
 rw [e1,e2]
 generalize c::t=s at*
 have c237:∀H,CallL cfg 237 [.str OPS,.str [c]] H (Ret (.bool (cutF c OPS).isSome) H):=fun H=>s237 OPS c H
 have bad:∀{H':LHeap},opF s=none->PresX [] H H'->Ret (tokL (opF s)) H (.tuple [.agg [.int .i64 0,.int .i64 0,.str [],.str [],.str [],.int .i64 0,.int .i64 0,.bool false,.bool false],.int .i64 0]) H':=fun h p=>⟨by rw [h];rfl,p⟩
 have good:∀{H':LHeap} {t:TokC} {n:Nat},opF s=some (t,n)->PresX [] H H'->Ret (tokL (opF s)) H (.tuple [.agg t.cs,.int .i64 (n:Int)]) H':=fun h p=>⟨by rw [h];rfl,p⟩
 have two:∀(H2:LHeap) (b6:Bool),Ret (.bool (cutF c OPS).isSome) H2 (.bool b6) H2->True:=fun _ _ _=>trivial
 refine ⟨fun hl=> ?long,fun hl=> ?short⟩
 case long=>
  have hl2:(2:Int)<=((s.length:Nat):Int):=by simp at hl;omega
  refine ⟨by omega,fun h1=>⟨by omega,fun _=>⟨_,c237 H2,Ret.use ⟨_,rfl⟩,fun b6 H7 ⟨e6,_⟩=>⟨fun h6 H8 _ hI=> ?_,fun h6=>⟨by omega,fun H10 _ hI=>good (t:=opT (s.take 2)) (n:=2) ?_ hI.pres⟩⟩⟩⟩,fun h1=>⟨by omega,fun h2=>⟨by omega,fun _=>⟨_,c237 H2,Ret.use ⟨_,rfl⟩,fun b6 H7 ⟨e6,_⟩=>⟨fun h6 H8 _ hI=> ?_,fun h6=>⟨by omega,fun H10 _ hI=>good (t:=opT (s.take 2)) (n:=2) ?_ hI.pres⟩⟩⟩⟩,fun h2=>⟨by omega,fun h3=>⟨by omega,fun _=>⟨_,c237 H2,Ret.use ⟨_,rfl⟩,fun b6 H7 ⟨e6,_⟩=>⟨fun h6 H8 _ hI=> ?_,fun h6=>⟨by omega,fun H10 _ hI=>good (t:=opT (s.take 2)) (n:=2) ?_ hI.pres⟩⟩⟩⟩,fun h3=>⟨by omega,fun _=>⟨_,c237 H2,Ret.use ⟨_,rfl⟩,fun b6 H7 ⟨e6,_⟩=>⟨fun h6 H8 _ hI=>bad ?_ hI.pres,fun h6=>⟨by omega,fun H10 _ hI=>good (t:=opT [c]) (n:=1) ?_ hI.pres⟩⟩⟩⟩⟩⟩⟩
  ·have ht:twoB s=true:=by rw [htd,h1];rfl
   rw [LV.bool.inj e6,htw ht] at h6;cases h6
  ·have ht:twoB s=true:=by rw [htd,h1];rfl
   rw [hop,ht];rfl
  ·have ht:twoB s=true:=by rw [htd,h2,Bool.true_or,Bool.or_true]
   rw [LV.bool.inj e6,htw ht] at h6;cases h6
  ·have ht:twoB s=true:=by rw [htd,h2,Bool.true_or,Bool.or_true]
   rw [hop,ht];rfl
  ·have ht:twoB s=true:=by rw [htd,h3,Bool.or_true,Bool.or_true]
   rw [LV.bool.inj e6,htw ht] at h6;cases h6
  ·have ht:twoB s=true:=by rw [htd,h3,Bool.or_true,Bool.or_true]
   rw [hop,ht];rfl
  ·have ht:twoB s=false:=by rw [htd,h1,h2,h3];rfl
   have hb:(cutF c OPS).isSome=false:=by rw [<-LV.bool.inj e6];simpa using h6
   rw [hop,ht,hb];rfl
  ·have ht:twoB s=false:=by rw [htd,h1,h2,h3];rfl
   have hb:(cutF c OPS).isSome=true:=by rw [<-LV.bool.inj e6];simpa using h6
   rw [hop,ht,hb];rfl
 case short=>
  have hl1:s.length<=1:=by simp at hl;omega
  have ht:twoB s=false:=by rw [htd,hsh _ rfl hl1,hsh _ rfl hl1,hsh _ rfl hl1];rfl
  refine ⟨by omega,fun _=>⟨_,c237 H2,Ret.use ⟨_,rfl⟩,fun b6 H7 ⟨e6,_⟩=>⟨fun h6 H8 _ hI=>bad ?_ hI.pres,fun h6=>⟨by omega,fun H10 _ hI=>good (t:=opT [c]) (n:=1) ?_ hI.pres⟩⟩⟩⟩
  ·have hb:(cutF c OPS).isSome=false:=by rw [<-LV.bool.inj e6];simpa using h6
   rw [hop,ht,hb];rfl
  ·have hb:(cutF c OPS).isSome=true:=by rw [<-LV.bool.inj e6];simpa using h6
   rw [hop,ht,hb];rfl
def numT(v:Int):TokC:=⟨1,v,[],[],[],0,0,false,false⟩
def parseO(s:List UInt8):Option Int:=if parseOk s&&numF (parseV s) then some (parseV s) else none
def numTF(s:List UInt8):Option (TokC×Nat):=(parseO (s.take (spanF numB s))).map fun v=>(numT v,spanF numB s)
theorem parse_inv{s:List UInt8}{n:Int}{b:Bool}(h:LV.tuple [.int .i64 n,.bool b]=parseL s):parseO s=if b then some n else none:=by
 unfold parseL toldL at h
 unfold parseO
 cases h1:parseOk s with
 |false=>
  rw [h1] at h
  simp at h
  rw [h.2];rfl
 |true=>
  rw [h1,if_pos rfl] at h
  cases h2:numF (parseV s) with
  |false=>
   rw [h2] at h
   simp at h
   rw [h.2];rfl
  |true=>
   rw [h2] at h
   simp at h
   rw [h.2,h.1];rfl
theorem span_head(s:List UInt8):(s.take (spanF numB s)).head?≠some 45:=by
 cases s with
 |nil=>simp [spanF]
 |cons b s=>
  unfold spanF
  split
  ·rename_i h
   simp
   intro e;subst e
   revert h;decide
  ·simp
theorem s147(s:List UInt8)(hs:s.length<=1000)(H:LHeap):CallL cfg 147 [.str s] H (Ret (tokL (numTF s)) H):=by
 have hle:=spanF_le numB s
 refine e147t _ s H fun i1 H2 _ _ _=>⟨_,s228a s H2,Ret.use ⟨_,rfl⟩,fun n4 H5 ⟨e4,_⟩=> ?_⟩
 cases e4
 rw [sub_take]
 refine ⟨by omega,fun _=>⟨_,s230 _ (by rw [List.length_take];omega) (span_head s) H5,Ret.use (parseL_sh _),fun n8 b9 H10 ⟨e10,_⟩=>⟨fun h H11 _ hI=>⟨?_,hI.pres⟩,fun h H11 _ hI=>⟨?_,hI.pres⟩⟩⟩⟩
 ·have hb:b9=false:=by simpa using h
  unfold numTF
  rw [parse_inv e10,hb];rfl
 ·have hb:b9=true:=by simpa using h
  unfold numTF
  rw [parse_inv e10,hb];rfl
theorem spanF_cons(so:Int->Bool)(b:UInt8)(s:List UInt8):spanF so (b::s)=if so (b.toNat:Int) then spanF so s+1 else 0:=rfl
theorem loop76_0(s:List UInt8)(hs:s.length<=1000)(H0:LHeap)(i2:Nat):∀(C A:List UInt8) (d:Nat->LV) (H:LHeap),A++C=s->A.length+spanF numB C=spanF numB s->
  GoesT cfg 76 (Ret (tokL (numTF s)) H0) [] H0 [⟨i2,zeroT.cs,127⟩] (L76t_0 d (A.length:Int) s) (loopAt cfg 76 0) H:=by
 have fin:∀(n:Nat) (H:LHeap),n=spanF numB s->(((0:Int)<=0)/\((0:Int)<=(n:Int))/\(n:Int)<=((s.length:Nat):Int))/\CallL cfg 154 [.str (subStr s 0 (n:Int))] H (Ret (parseL (s.take (spanF numB s))) H):=by
  intro n H hn
  have hle:=spanF_le numB s
  refine ⟨by omega,?_⟩
  rw [sub_take,hn]
  exact s154 _ (by rw [List.length_take];omega) (span_head s) H
 intro C
 induction C with
 |nil=>
  intro A d H hA hr hin hI
  rw [List.append_nil] at hA
  subst hA
  obtain ⟨f1,f2⟩:=fin A.length H (by simpa [spanF] using hr)
  refine g76t_0 _ H0 d A.length A i2 zeroT H ⟨fun h=>(by simp at h),fun _=>⟨f1,fun _=>⟨_,f2,Ret.use (parseL_sh _),fun n8 b9 H10 ⟨e10,_⟩=>⟨fun h H11 _ hI=>⟨?_,hI.pres⟩,fun h H11 _ hI=>⟨?_,hI.pres⟩⟩⟩⟩⟩ hin hI
  ·have hb:b9=false:=by simpa using h
   unfold numTF
   rw [parse_inv e10,hb];rfl
  ·have hb:b9=true:=by simpa using h
   unfold numTF
   rw [parse_inv e10,hb,show spanF numB A=A.length by simpa [spanF] using hr.symm];rfl
 |cons b C ih=>
  intro A d H hA hr hin hI
  have hb:byteAt s (A.length:Int)=(b.toNat:Int):=by rw [<-hA];exact byteAt_app A b C
  have hl:A.length+(C.length+1)=s.length:=by rw [<-hA];simp
  have rg:(0:Int)<=(A.length:Int)/\(A.length:Int)<((s.length:Nat):Int):=by omega
  rw [spanF_cons] at hr
  have yes:numB (b.toNat:Int)=true->∀(d:Nat->LV) (H:LHeap),GoesT cfg 76 (Ret (tokL (numTF s)) H0) [] H0 [⟨i2,zeroT.cs,127⟩] (L76t_0 d (lwrap .i64 ((A.length:Int)+1)) s) (loopAt cfg 76 0) H:=by
   intro hw d H
   rw [hw,if_pos rfl] at hr
   rw [lwrap_small (by omega) (by omega),show (A.length:Int)+1=(((A++[b]).length:Nat):Int) by simp]
   refine ih (A++[b]) d H (by rw [<-hA];simp) (by simp;omega)
  have no:numB (b.toNat:Int)=false->A.length=spanF numB s:=by
   intro hw
   rw [hw,if_neg (by simp)] at hr
   simpa using hr
  have c153:CallL cfg 153 [.int .u8 (byteAt s (A.length:Int))] H (Ret (.bool (digF (b.toNat:Int))) H):=by rw [hb];exact x153 _ H
  refine g76t_0 _ H0 d A.length s i2 zeroT H ⟨fun _=>⟨rg,fun hI=>⟨_,c153,Ret.use ⟨_,rfl⟩,fun b4 H5 ⟨e4,_⟩=>⟨fun h4 d6=>yes ?_ d6 H5,fun h4=>⟨rg,fun h46 d6=>yes ?_ d6 H5,fun h46=> ?_⟩⟩⟩⟩,fun h=>(by simp at h;omega)⟩ hin hI
  ·cases e4;unfold numB;rw [h4];rfl
  ·rw [hb] at h46;unfold numB;rw [h46,Bool.or_true]
  ·cases e4
   rw [hb] at h46
   have hno:=no (by unfold numB;rw [h4,h46];rfl)
   obtain ⟨f1,f2⟩:=fin A.length H5 hno
   refine ⟨f1,fun _=>⟨_,f2,Ret.use (parseL_sh _),fun n8 b9 H10 ⟨e10,_⟩=>⟨fun h H11 _ hI=>⟨?_,hI.pres⟩,fun h H11 _ hI=>⟨?_,hI.pres⟩⟩⟩⟩
   ·have hb:b9=false:=by simpa using h
    unfold numTF
    rw [parse_inv e10,hb];rfl
   ·have hb:b9=true:=by simpa using h
    unfold numTF
    rw [parse_inv e10,hb,<-hno];rfl
def badT(n:Nat):TokC:=⟨6,(n:Int),[],[],[],0,0,false,false⟩
def NAMES:List (List UInt8):=[[35,68,73,86,47,48,33],[35,86,65,76,85,69,33],[35,82,69,70,33],[35,78,65,77,69,63],[35,78,85,77,33],[35,78,47,65],[35,67,89,67,76,69,33],[35,76,73,78,75,33]]
def fltF:List (List UInt8)->Nat->List UInt8->Option (TokC×Nat)
 |[],_,_=>none
 |x::l,n,s=>if s.take x.length==x then some (badT n,x.length) else fltF l (n+1) s
def faultF(s:List UInt8):Option (TokC×Nat):=fltF NAMES 1 s
def NAG:LV:=.agg [.str [],.str [35,68,73,86,47,48,33],.str [35,86,65,76,85,69,33],.str [35,82,69,70,33],.str [35,78,65,77,69,63],.str [35,78,85,77,33],.str [35,78,47,65],.str [35,67,89,67,76,69,33],.str [35,76,73,78,75,33]]
theorem nag_0:indexL cfg.P 214 NAG (.int .i64 ((0:Nat):Int))=some (.str []):=by kernel_rfl
theorem nag_1:indexL cfg.P 214 NAG (.int .i64 ((1:Nat):Int))=some (.str [35,68,73,86,47,48,33]):=by kernel_rfl
theorem nag_2:indexL cfg.P 214 NAG (.int .i64 ((2:Nat):Int))=some (.str [35,86,65,76,85,69,33]):=by kernel_rfl
theorem nag_3:indexL cfg.P 214 NAG (.int .i64 ((3:Nat):Int))=some (.str [35,82,69,70,33]):=by kernel_rfl
theorem nag_4:indexL cfg.P 214 NAG (.int .i64 ((4:Nat):Int))=some (.str [35,78,65,77,69,63]):=by kernel_rfl
theorem nag_5:indexL cfg.P 214 NAG (.int .i64 ((5:Nat):Int))=some (.str [35,78,85,77,33]):=by kernel_rfl
theorem nag_6:indexL cfg.P 214 NAG (.int .i64 ((6:Nat):Int))=some (.str [35,78,47,65]):=by kernel_rfl
theorem nag_7:indexL cfg.P 214 NAG (.int .i64 ((7:Nat):Int))=some (.str [35,67,89,67,76,69,33]):=by kernel_rfl
theorem nag_8:indexL cfg.P 214 NAG (.int .i64 ((8:Nat):Int))=some (.str [35,76,73,78,75,33]):=by kernel_rfl
theorem nag_at(k:Nat)(x:List UInt8)(h:([]::NAMES)[k]? =some x):indexL cfg.P 214 NAG (.int .i64 (k:Int))=some (.str x):=by
 have:k<9:=by
  have:=(List.getElem?_eq_some_iff.1 h).1
  simpa [NAMES] using this
 have hk:k=0\/k=1\/k=2\/k=3\/k=4\/k=5\/k=6\/k=7\/k=8:=by omega
 rcases hk with rfl |rfl |rfl |rfl |rfl |rfl |rfl |rfl |rfl
 ·rw [<-Option.some.inj h];exact nag_0
 ·rw [<-Option.some.inj h];exact nag_1
 ·rw [<-Option.some.inj h];exact nag_2
 ·rw [<-Option.some.inj h];exact nag_3
 ·rw [<-Option.some.inj h];exact nag_4
 ·rw [<-Option.some.inj h];exact nag_5
 ·rw [<-Option.some.inj h];exact nag_6
 ·rw [<-Option.some.inj h];exact nag_7
 ·rw [<-Option.some.inj h];exact nag_8
def ownW(v:ValC):LV:=
 if v.kind==0 then .iface 297 (.agg []) else if v.kind==1 then .iface 280 (.int .i64 v.n) else if v.kind==2 then .iface 281 (.str v.s) else if v.kind==3 then .iface 282 (.bool (v.n != 0)) else if v.kind==4 then .iface 283 (.int .i64 v.n) else .nilIface
theorem y260(v:ValC)(H:LHeap):CallL cfg 260 [v.lv] H (Ret (ownW v) H):=by
 refine e260t _ v H fun i1 H2 _ _=>⟨fun h0 hI=>⟨?_,hI.pres⟩,fun h0=>⟨fun h1 hI=>⟨?_,hI.pres⟩,fun h1=>⟨fun h2 hI=>⟨?_,hI.pres⟩,fun h2=>⟨fun h3 hI=>⟨?_,hI.pres⟩,fun h3=>⟨fun h4 hI=>⟨?_,hI.pres⟩,fun h4 hI=>⟨?_,hI.pres⟩⟩⟩⟩⟩⟩
 all_goals simp only [ownW, *,if_true,Bool.false_eq_true,if_false]
def badV(k:Nat):ValC:=⟨4,(k:Int),[]⟩
theorem s233(k:Nat)(hk:1<=k/\k<=8)(H:LHeap):CallL cfg 233 [.int .i64 (k:Int)] H (Ret (badV k).lv H):=
 e233t _ _ H fun i1 H2 _ _=>⟨fun h=>(by simp at h;omega),fun _=>⟨fun h=>(by simp at h;omega),fun _ H5 _ hI=>⟨rfl,hI.pres⟩⟩⟩
theorem s194b(k:Nat)(hk:1<=k/\k<=8)(x:List UInt8)(h:([]::NAMES)[k]? =some x)(H:LHeap):CallL cfg 194 [(badV k).lv] H (Ret (.str x) H):=by
 have c260:∀H,CallL cfg 260 [(badV k).lv] H (Ret (.iface 283 (.int .i64 (k:Int))) H):=fun H=>y260 (badV k) H
 refine e194t _ (badV k) H fun i1 H2 _ _ _=>⟨_,c260 H2,Ret.use ⟨_,rfl⟩,fun y4 H5 ⟨e,_⟩=> ?_⟩
 have:y4=(k:Int):=by cases e;rfl
 subst this
 refine ⟨fun _=>⟨fun _ _=>⟨Ret NAG H5,e261 _ H5 fun i0 H1 _ _ H2 _ hI=>⟨rfl,hI.pres⟩,Ret.use ⟨_,_,_,_,_,_,_,_,_,rfl⟩,fun s7 s8 s9 s10 s11 s12 s13 s14 s15 H16 ⟨e16,_⟩=>⟨x,?_,fun hI=>⟨rfl,hI.pres⟩⟩⟩,fun h=>(by simp at h;omega)⟩,fun h=>(by simp at h;omega)⟩
 rw [e16]
 exact nag_at k x h
theorem flt_cons{x:List UInt8}{l:List (List UInt8)}{n:Nat}{s:List UInt8}:fltF (x::l) n s=if s.take x.length==x then some (badT n,x.length) else fltF l (n+1) s:=rfl
theorem s149(s:List UInt8)(hs:s.length<=1000)(H:LHeap):CallL cfg 149 [.str s] H (Ret (tokL (faultF s)) H):=by
 have bad:∀{H':LHeap},faultF s=none->PresX [] H H'->Ret (tokL (faultF s)) H (.tuple [.agg [.int .i64 0,.int .i64 0,.str [],.str [],.str [],.int .i64 0,.int .i64 0,.bool false,.bool false],.int .i64 0]) H':=fun h p=>⟨by rw [h];rfl,p⟩
 have good:∀{H':LHeap} {t:TokC} {n:Nat},faultF s=some (t,n)->PresX [] H H'->Ret (tokL (faultF s)) H (.tuple [.agg t.cs,.int .i64 (n:Int)]) H':=fun h p=>⟨by rw [h];rfl,p⟩
 have F0:faultF s=fltF NAMES 1 s:=rfl
 unfold NAMES at F0
 refine e149t _ s H fun i1 H2 _ _ _=>⟨_,s233 1 (by omega) H2,Ret.use ⟨_,rfl⟩,fun x1 A1 ⟨e1,_⟩=> ?_⟩
 dsimp only;rw [e1]
 refine fun _=>⟨_,s194b 1 (by omega) [35,68,73,86,47,48,33] rfl A1,Ret.use ⟨_,rfl⟩,fun s1 B1 ⟨f1,_⟩=> ?_⟩
 cases f1
 refine fun _=>⟨_,s232 s [35,68,73,86,47,48,33] B1,Ret.use ⟨_,rfl⟩,fun b1 K1 ⟨g1,_⟩=>⟨fun h1 _ _ hI=>good (t:=badT 1) ?_ hI.pres,fun h1=> ?_⟩⟩
 ·have:=LV.bool.inj g1
  rw [F0,flt_cons,<-this,h1];rfl
 ·have G:=LV.bool.inj g1
  rw [flt_cons,<-G,h1,if_neg (by simp)] at F0
  refine fun _=>⟨_,s233 2 (by omega) K1,Ret.use ⟨_,rfl⟩,fun x2 A2 ⟨e2,_⟩=> ?_⟩
  dsimp only;rw [e2]
  refine fun _=>⟨_,s194b 2 (by omega) [35,86,65,76,85,69,33] rfl A2,Ret.use ⟨_,rfl⟩,fun s2 B2 ⟨f2,_⟩=> ?_⟩
  cases f2
  refine fun _=>⟨_,s232 s [35,86,65,76,85,69,33] B2,Ret.use ⟨_,rfl⟩,fun b2 K2 ⟨g2,_⟩=>⟨fun h2 _ _ hI=>good (t:=badT 2) ?_ hI.pres,fun h2=> ?_⟩⟩
  ·have:=LV.bool.inj g2
   rw [F0,flt_cons,<-this,h2];rfl
  ·have G:=LV.bool.inj g2
   rw [flt_cons,<-G,h2,if_neg (by simp)] at F0
   refine fun _=>⟨_,s233 3 (by omega) K2,Ret.use ⟨_,rfl⟩,fun x3 A3 ⟨e3,_⟩=> ?_⟩
   dsimp only;rw [e3]
   refine fun _=>⟨_,s194b 3 (by omega) [35,82,69,70,33] rfl A3,Ret.use ⟨_,rfl⟩,fun s3 B3 ⟨f3,_⟩=> ?_⟩
   cases f3
   refine fun _=>⟨_,s232 s [35,82,69,70,33] B3,Ret.use ⟨_,rfl⟩,fun b3 K3 ⟨g3,_⟩=>⟨fun h3 _ _ hI=>good (t:=badT 3) ?_ hI.pres,fun h3=> ?_⟩⟩
   ·have:=LV.bool.inj g3
    rw [F0,flt_cons,<-this,h3];rfl
   ·have G:=LV.bool.inj g3
    rw [flt_cons,<-G,h3,if_neg (by simp)] at F0
    refine fun _=>⟨_,s233 4 (by omega) K3,Ret.use ⟨_,rfl⟩,fun x4 A4 ⟨e4,_⟩=> ?_⟩
    dsimp only;rw [e4]
    refine fun _=>⟨_,s194b 4 (by omega) [35,78,65,77,69,63] rfl A4,Ret.use ⟨_,rfl⟩,fun s4 B4 ⟨f4,_⟩=> ?_⟩
    cases f4
    refine fun _=>⟨_,s232 s [35,78,65,77,69,63] B4,Ret.use ⟨_,rfl⟩,fun b4 K4 ⟨g4,_⟩=>⟨fun h4 _ _ hI=>good (t:=badT 4) ?_ hI.pres,fun h4=> ?_⟩⟩
    ·have:=LV.bool.inj g4
     rw [F0,flt_cons,<-this,h4];rfl
    ·have G:=LV.bool.inj g4
     rw [flt_cons,<-G,h4,if_neg (by simp)] at F0
     refine fun _=>⟨_,s233 5 (by omega) K4,Ret.use ⟨_,rfl⟩,fun x5 A5 ⟨e5,_⟩=> ?_⟩
     dsimp only;rw [e5]
     refine fun _=>⟨_,s194b 5 (by omega) [35,78,85,77,33] rfl A5,Ret.use ⟨_,rfl⟩,fun s5 B5 ⟨f5,_⟩=> ?_⟩
     cases f5
     refine fun _=>⟨_,s232 s [35,78,85,77,33] B5,Ret.use ⟨_,rfl⟩,fun b5 K5 ⟨g5,_⟩=>⟨fun h5 _ _ hI=>good (t:=badT 5) ?_ hI.pres,fun h5=> ?_⟩⟩
     ·have:=LV.bool.inj g5
      rw [F0,flt_cons,<-this,h5];rfl
     ·have G:=LV.bool.inj g5
      rw [flt_cons,<-G,h5,if_neg (by simp)] at F0
      refine fun _=>⟨_,s233 6 (by omega) K5,Ret.use ⟨_,rfl⟩,fun x6 A6 ⟨e6,_⟩=> ?_⟩
      dsimp only;rw [e6]
      refine fun _=>⟨_,s194b 6 (by omega) [35,78,47,65] rfl A6,Ret.use ⟨_,rfl⟩,fun s6 B6 ⟨f6,_⟩=> ?_⟩
      cases f6
      refine fun _=>⟨_,s232 s [35,78,47,65] B6,Ret.use ⟨_,rfl⟩,fun b6 K6 ⟨g6,_⟩=>⟨fun h6 _ _ hI=>good (t:=badT 6) ?_ hI.pres,fun h6=> ?_⟩⟩
      ·have:=LV.bool.inj g6
       rw [F0,flt_cons,<-this,h6];rfl
      ·have G:=LV.bool.inj g6
       rw [flt_cons,<-G,h6,if_neg (by simp)] at F0
       refine fun _=>⟨_,s233 7 (by omega) K6,Ret.use ⟨_,rfl⟩,fun x7 A7 ⟨e7,_⟩=> ?_⟩
       dsimp only;rw [e7]
       refine fun _=>⟨_,s194b 7 (by omega) [35,67,89,67,76,69,33] rfl A7,Ret.use ⟨_,rfl⟩,fun s7 B7 ⟨f7,_⟩=> ?_⟩
       cases f7
       refine fun _=>⟨_,s232 s [35,67,89,67,76,69,33] B7,Ret.use ⟨_,rfl⟩,fun b7 K7 ⟨g7,_⟩=>⟨fun h7 _ _ hI=>good (t:=badT 7) ?_ hI.pres,fun h7=> ?_⟩⟩
       ·have:=LV.bool.inj g7
        rw [F0,flt_cons,<-this,h7];rfl
       ·have G:=LV.bool.inj g7
        rw [flt_cons,<-G,h7,if_neg (by simp)] at F0
        refine fun _=>⟨_,s233 8 (by omega) K7,Ret.use ⟨_,rfl⟩,fun x8 A8 ⟨e8,_⟩=> ?_⟩
        dsimp only;rw [e8]
        refine fun _=>⟨_,s194b 8 (by omega) [35,76,73,78,75,33] rfl A8,Ret.use ⟨_,rfl⟩,fun s8 B8 ⟨f8,_⟩=> ?_⟩
        cases f8
        refine fun _=>⟨_,s232 s [35,76,73,78,75,33] B8,Ret.use ⟨_,rfl⟩,fun b8 K8 ⟨g8,_⟩=>⟨fun h8 _ _ hI=>good (t:=badT 8) ?_ hI.pres,fun h8=> ?_⟩⟩
        ·have:=LV.bool.inj g8
         rw [F0,flt_cons,<-this,h8];rfl
        ·have G:=LV.bool.inj g8
         rw [flt_cons,<-G,h8,if_neg (by simp)] at F0
         exact fun _ _ hI=>bad (by rw [F0];rfl) hI.pres
theorem loop76_1(s:List UInt8)(hs:s.length<=1000)(H0:LHeap)(i:Nat)(R0:Option (TokC×Nat)):∀(l:List (List UInt8)) (k:Nat) (d:Nat->LV) (H:LHeap),1<=k->([]::NAMES).drop k=l->R0=fltF l k s->
  GoesT cfg 76 (Ret (tokL R0) H0) [] H0 [⟨i,zeroT.cs,127⟩] (L76t_1 d (k:Int) s [] [35,68,73,86,47,48,33] [35,86,65,76,85,69,33] [35,82,69,70,33] [35,78,65,77,69,63] [35,78,85,77,33] [35,78,47,65] [35,67,89,67,76,69,33] [35,76,73,78,75,33]) (loopAt cfg 76 1) H
 |[],k,d,H,hk,hl,hr=>by
  intro hin hI
  have h9:9<=k:=by
   have:=congrArg List.length hl
   simp [NAMES] at this;omega
  exact g76t_1 _ H0 d k s [] [35,68,73,86,47,48,33] [35,86,65,76,85,69,33] [35,82,69,70,33] [35,78,65,77,69,63] [35,78,85,77,33] [35,78,47,65] [35,67,89,67,76,69,33] [35,76,73,78,75,33] i zeroT H ⟨fun h=>(by simp at h;omega),fun _ H20 _ hI=>⟨by rw [hr];rfl,hI.pres⟩⟩ hin hI
 |x::l,k,d,H,hk,hl,hr=>by
  intro hin hI
  have h9:k<9:=by
   have:=congrArg List.length hl
   simp [NAMES] at this;omega
  have hx:([]::NAMES)[k]? =some x:=by
   have:=congrArg (fun l=>l[0]?) hl
   simpa using this
  have hl':([]::NAMES).drop (k+1)=l:=by rw [<-List.drop_drop,hl];rfl
  rw [flt_cons] at hr
  have next:(s.take x.length==x)=false->∀d,GoesT cfg 76 (Ret (tokL R0) H0) [] H0 [⟨i,zeroT.cs,127⟩] (L76t_1 d (lwrap .i64 ((k:Int)+1)) s [] [35,68,73,86,47,48,33] [35,86,65,76,85,69,33] [35,82,69,70,33] [35,78,65,77,69,63] [35,78,85,77,33] [35,78,47,65] [35,67,89,67,76,69,33] [35,76,73,78,75,33]) (loopAt cfg 76 1) H:=by
   intro hn d
   rw [lwrap_small (by omega) (by omega)]
   exact loop76_1 s hs H0 i R0 l (k+1) d H (by omega) hl' (by rw [hr,hn,if_neg (by simp)])
  refine g76t_1 _ H0 d k s [] [35,68,73,86,47,48,33] [35,86,65,76,85,69,33] [35,82,69,70,33] [35,78,65,77,69,63] [35,78,85,77,33] [35,78,47,65] [35,67,89,67,76,69,33] [35,76,73,78,75,33] i zeroT H ⟨fun _=>⟨x,nag_at k x hx,fun _=>⟨fun hlen=>⟨by simp at hlen;omega,fun he H16 _ hI=>⟨?_,hI.pres⟩,fun he d17=>next ?_ d17⟩,fun hlen d18=>next ?_ d18⟩,fun h=>(by simp at h;omega)⟩,fun h=>(by simp at h;omega)⟩ hin hI
  ·rw [sub_take] at he
   rw [hr,he];rfl
  ·rw [sub_take] at he
   exact he
  ·rw [beq_eq_false_iff_ne]
   intro e
   have:=congrArg List.length e
   rw [List.length_take] at this
   simp at hlen;omega
abbrev qT9_1:List LV:=[.bool false,.bool false,.bool false,.bool false,.bool false,.bool false,.bool false,.bool false,.bool false,.bool true,.bool false,.bool false,.bool false,.bool false,.bool false,.bool false,.bool false,.bool false,.bool false,.bool false,.bool false,.bool false,.bool false,.bool false,.bool false,.bool false,.bool false,.bool false,.bool false,.bool false,.bool false,.bool false,.bool true,.bool false,.bool false,.bool false,.bool false,.bool false,.bool false,.bool false,.bool false,.bool false,.bool false,.bool false,.bool false,.bool false,.bool false,.bool false,.bool false,.bool false,.bool false,.bool false,.bool false,.bool false,.bool false,.bool false,.bool false,.bool false,.bool false,.bool false,.bool false,.bool false,.bool false,.bool false,.bool false,.bool false,.bool false,.bool false,.bool false,.bool false,.bool false,.bool false,.bool false,.bool false,.bool false,.bool false,.bool false,.bool false,.bool false,.bool false,.bool false,.bool false,.bool false,.bool false,.bool false,.bool false,.bool false,.bool false,.bool false,.bool false,.bool false,.bool false,.bool false,.bool false,.bool false,.bool false,.bool false,.bool false,.bool false,.bool false,.bool false,.bool false,.bool false,.bool false,.bool false,.bool false,.bool false,.bool false,.bool false,.bool false,.bool false,.bool false,.bool false,.bool false,.bool false,.bool false,.bool false,.bool false,.bool false,.bool false,.bool false,.bool false,.bool false,.bool false,.bool false,.bool false,.bool false,.bool false,.bool false,.bool false,.bool false,.bool false,.bool false,.bool false,.bool false,.bool false,.bool false,.bool false,.bool false,.bool false,.bool false,.bool false,.bool false,.bool false,.bool false,.bool false,.bool false,.bool false,.bool false,.bool false,.bool false,.bool false,.bool false,.bool false,.bool false,.bool false,.bool false,.bool false,.bool false,.bool false,.bool false,.bool false,.bool false,.bool false,.bool false,.bool false,.bool false,.bool false,.bool false,.bool false,.bool false,.bool false,.bool false,.bool false,.bool false,.bool false,.bool false,.bool false,.bool false,.bool false,.bool false,.bool false,.bool false,.bool false,.bool false,.bool false,.bool false,.bool false,.bool false,.bool false,.bool false,.bool false,.bool false,.bool false,.bool false,.bool false,.bool false,.bool false,.bool false,.bool false,.bool false,.bool false,.bool false,.bool false,.bool false,.bool false,.bool false,.bool false,.bool false,.bool false,.bool false,.bool false,.bool false,.bool false,.bool false,.bool false,.bool false,.bool false,.bool false,.bool false,.bool false,.bool false,.bool false,.bool false,.bool false,.bool false,.bool false,.bool false,.bool false,.bool false,.bool false,.bool false,.bool false,.bool false,.bool false,.bool false,.bool false,.bool false,.bool false,.bool false,.bool false,.bool false,.bool false,.bool false,.bool false,.bool false,.bool false,.bool false,.bool false,.bool false,.bool false,.bool false,.bool false,.bool false,.bool false,.bool false]
theorem e73t(R:RR)(s:(List UInt8))(H:LHeap)
 (h:Cd (s==[]) (R0 H [] H R (.str s)) (Inv [] H [] H->CL 143 [.str [32,9]] H (.cust Unit (fun (_:Unit)=>(.tuple [.agg ((List.replicate 9 (.bool false))++[.bool true]++List.replicate 22 (.bool false)++[.bool true]++List.replicate 223 (.bool false)),.bool true]:LV))) fun S0=>∀(y1:Unit) H2,S0 (.tuple [.agg (((((List.replicate 9 (.bool false))++[.bool true])++(List.replicate 22 (.bool false)))++[.bool true])++(List.replicate 223 (.bool false))),.bool true]) H2->NX H2 fun i3 H4=>PX [i3] H4 fun H5=>Inv [] H [Sk i3 qT9_1 207] H5->Kb 144 [.str s,.ptr (some (Lk i3 256 0))] H5 fun s7 H8=>R0 H [Sk i3 qT9_1 207] H8 R (.str s7))):
 CallL cfg 73 [.str s,.str [32,9]] H R:=call_wt0 (k:=(.go 10 (.cases 9 (.go 10 (.facts .ret)) (.go 24 (.facts (.call (.cust Unit (fun (_:Unit)=>(.tuple [.agg ((List.replicate 9 (.bool false))++[.bool true]++List.replicate 22 (.bool false)++[.bool true]++List.replicate 223 (.bool false)),.bool true]:LV))) (.go 3 (.boxP (.putP (.go 10 (.facts (.call .str (.go 2 (.facts .ret)))))))))))))) (by kernel_rfl) h
end Go.Proofs.YtjihhflffkoffaaGreatDoor.Z
