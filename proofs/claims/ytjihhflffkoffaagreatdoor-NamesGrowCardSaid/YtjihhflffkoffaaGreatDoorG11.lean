/- Contracts of functions of the program; no condition. -/
import Derived.Test.YtjihhflffkoffaaGreatDoorG1
import Derived.Test.YtjihhflffkoffaaGreatDoorG2
import Derived.Test.YtjihhflffkoffaaGreatDoorG10
import Derived.Test.YtjihhflffkoffaaGreatDoorG5
import Derived.Test.YtjihhflffkoffaaGreatDoorLe
set_option linter.unusedSimpArgs false
set_option linter.unusedVariables false
set_option linter.unusedSectionVars false
set_option linter.unnecessarySimpa false
namespace Go.Proofs.YtjihhflffkoffaaGreatDoor.Z
open Go Go.Lm
set_option maxRecDepth 1000000
set_option maxHeartbeats 0
def idO(a:Option LAddr):List Nat:=(a.map LAddr.id).toList
theorem mem_idO{a:Option LAddr}{i:Nat}(h:i∈idO a):∃ad,a=some ad/\ad.id=i:=by
 cases a with
 |none=>simp [idO] at h
 |some ad=>simp [idO] at h;exact ⟨ad,rfl,h.symm⟩
def insN(l:List NameC)(i:Nat)(x:NameC):List NameC:=l.take i++x::l.drop i
def InsG(a:Option LAddr)(n:Nat)(l:List NameC)(H:LHeap):LV->LHeap->Prop:=fun v H'=>PresX (idO a) H H'/\∃ad q B,v=.slice (some ad) n q/\WAt H' ad 33 [] (cellsN l) B/\QOK ad n 3 q/\(ad.id∈idO a\/H.next<=ad.id)
theorem slice_00(a:Option LAddr):sliceL cfg.P 36 (.slice a 0 (.exact 0)) (some (.int .i64 (0:Int))) none none=some (.slice a 0 (.exact 0)):=by
 unfold sliceL;simp only [u36,z33];rfl
theorem s86g(a:Option LAddr)(b:LAddr)(n i:Nat)(q:Cap)(nm:List NameC)(x:NameC)(H:LHeap)(hR:RowAt H 33 3 a n q (cellsN nm))(h0:n=0->q=.exact 0)(hf:0<n->q=.free 3)(hn:nm.length=n)(hsm:n<=1000)(hi:i<=n)
  (hb:loadN H b 3=some x.cs) (hbl:b.id<H.next) (hbne:∀ad,a=some ad->b.id≠ad.id) (hbo:∃cs e v m wh,H.get b.id=some (.cells cs e v m .none false wh)/\m<=b.ver):
  CallL cfg 86 [.slice a n q,.int .i64 i,.slice (some b) 1 (.exact 1)] H (InsG a (n+1) (insN nm i x) H):=by
 rcases Nat.eq_zero_or_pos n with hz |hp
 ·subst hz;obtain rfl:=h0 rfl;obtain rfl:i=0:=by omega
  have:nm=[]:=List.eq_nil_of_length_eq_zero hn;subst this;refine e86e _ (idO a) a 0 0 0 b H ⟨a,0,.exact 0,slice_00 a,fun _ hI=> ?_,fun h=>by simp at h⟩;obtain ⟨Y,a',q',H',h1,h2,h3,h4,h5,h6⟩:=hR.append2 rowT33 (x:=.slice (some b) 1 (.exact 1)) (m:=1) (new:=x.cs) rfl hb rfl rfl (by omega);obtain rfl:=h6 (by decide);obtain ⟨ad,rfl,ho,hv,hw⟩:=h3.wat;have hY:∀i∈Y,i∈idO a:=fun i hi=>by
   obtain ⟨ad',rfl,rfl⟩:=h4 i hi;simp [idO]
  refine ⟨Y,some ad,1,.free 3,H',⟨h1,h2,fun i hi=>⟨.inl (hY i hi),fun k s hs=>by simp [nth] at hs⟩⟩,fun hI2=>⟨hI2.pres,ad,.free 3,[],rfl,?_,.inr ⟨rfl,by rw [ho,hv];omega⟩,?_⟩⟩
  ·exact hw
  ·rcases h5 ad rfl with ⟨ad',rfl,e''⟩ |hge
   ·exact .inl (by simp [idO,e''])
   ·exact .inr hge
 ·obtain rfl:=hf hp;obtain ⟨ad,rfl,ho,hv,hW⟩:=hR.wat;obtain ⟨mv,hg,hm⟩:=hW.get;rw [List.nil_append,List.append_nil] at hg;refine CallL.learn 0 (a:=ad) (n:=n) (sz:=3) rfl hp (by decide) hg fun c hc1 hc2=> ?_;have hlen:(cellsN nm).length=n*3:=by rw [cellsN_len,hn]
  have hp2:PresX [ad.id] H (H.put ad.id (.cells (cellsN nm++List.replicate (ad.off+c*3-ad.ver) .junk) 33 (ad.off+c*3) mv .none false false)):=.put _ _ _;have hne:=hbne ad rfl;have hW2:WAt (H.put ad.id (.cells (cellsN nm++List.replicate (ad.off+c*3-ad.ver) .junk) 33 (ad.off+c*3) mv .none false false)) ⟨ad.id,ad.off+c*3,ad.off⟩ 33 [] (cellsN nm) (List.replicate (ad.off+c*3-ad.ver) .junk):=by
   refine ⟨⟨mv,by simp [LHeap.get_put],by simp only;omega⟩,by simp [ho],?_,by simpa using hW.lt,?_⟩
   ·simp only [List.nil_append,List.length_append,hlen,List.length_replicate];omega
   ·rw [List.nil_append];refine allCells_app (cellsN_all _) ?_;rw [allCells_iff];intro v hv;rw [List.eq_of_mem_replicate hv];rfl
  have hkb:=hp2.keep b.id hbl (by simpa using hne);obtain ⟨cs',e',v',m',wh',gb,gm⟩:=hbo;refine (s86x ⟨ad.id,ad.off+c*3,ad.off⟩ b n c i nm x _ _ hW2 (by rw [List.length_replicate];omega) hn hsm hc1 hi (hkb.loads b 3 _ rfl hb) (by simpa using hbl) hne ⟨cs',e',v',m',wh',by rw [hkb.get];exact gb,gm⟩).mono fun v H' ⟨g1,ad',q',B,g2,g3,g4,g5⟩=>⟨hp2.trans g1 fun i hi=>.inl hi,ad',q',B,g2,g3,g4,?_⟩;rcases g5 with g5 |g5
  ·exact .inl (by simp [idO,g5])
  ·exact .inr (by simpa using g5)
theorem s81nc(a:Option LAddr)(n:Nat)(qq:Cap)(nm:List NameC)(P:NameC->Bool)(p:LAddr)(H:LHeap)(hN:NmAt H a n qq nm)(hno:∀y∈nm,P y=false)
  (hcl:∀(y:NameC) (H':LHeap),PresX [] H H'->CallL cfg 87 [y.lv,.ptr (some p)] H' (Ret (.bool (P y)) H')):
  CallL cfg 81 [.slice a n qq,.func (.func 87) [] [.ptr (some p)]] H (Ret (.slice a n qq) H):=by
 refine e81c _ [] a n qq p H fun hI=>⟨_,s164c a n qq nm P p H hN hcl,Ret.use ⟨_,rfl⟩,fun i H2 ⟨e,p2⟩=> ?_⟩;cases e;rw [idxF_neg.2 hno];exact ⟨fun _ hI2=>.mk hI2.pres,fun h=>by simp at h⟩
theorem s81nd(a:Option LAddr)(n:Nat)(qq:Cap)(nm:List NameC)(P:NameC->Bool)(p:LAddr)(H:LHeap)(hN:NmAt H a n qq nm)(hno:∀y∈nm,P y=false)
  (hcl:∀(y:NameC) (H':LHeap),PresX [] H H'->CallL cfg 88 [y.lv,.ptr (some p)] H' (Ret (.bool (P y)) H')):
  CallL cfg 81 [.slice a n qq,.func (.func 88) [] [.ptr (some p)]] H (Ret (.slice a n qq) H):=by
 refine e81d _ [] a n qq p H fun hI=>⟨_,s164d a n qq nm P p H hN hcl,Ret.use ⟨_,rfl⟩,fun i H2 ⟨e,p2⟩=> ?_⟩;cases e;rw [idxF_neg.2 hno];exact ⟨fun _ hI2=>.mk hI2.pres,fun h=>by simp at h⟩
open Classical in
noncomputable def parseE(s:List UInt8):Int:=if h:∃e o,PO s o e then Classical.choose h else 0
theorem parseE_eq{s:List UInt8}{o:Option Nd}{e:Int}(h:PO s o e):parseE s=e:=by
 have hx:∃e o,PO s o e:=⟨e,o,h⟩;unfold parseE;rw [dif_pos hx];obtain ⟨o',h'⟩:=Classical.choose_spec hx;exact (h'.det h).2
noncomputable def mayF(x:NameC):Int:=
 if 255<x.text.length then 3 else if nameF x.name=false then 8 else if x.scope≠[]/\nameF x.scope=false then 8 else parseE x.text
theorem parse_use{s:List UInt8}{H:LHeap}:∀v H',ParseS s H v H'->PresX [] H H'/\hasSh (.tuple [.cust NdC NdC.lv,.int .i64]) v:=fun v H' ⟨p,o,e,hPO,h⟩=>by
 refine ⟨p,?_⟩;cases o with
 |none=>simp only at h;rw [h];exact ⟨_,_,rfl⟩
 |some n=>
  simp only at h;obtain ⟨nd,_,h,_⟩:=h;rw [h];exact ⟨_,_,rfl⟩
theorem parse_e{s:List UInt8}{H H':LHeap}{x:NdC}{n:Int}(h:ParseS s H (.tuple [x.lv,.int .i64 n]) H'):PresX [] H H'/\n=parseE s:=by
 obtain ⟨p,o,e,hPO,h⟩:=h;refine ⟨p,?_⟩;rw [parseE_eq hPO];cases o with
 |none=>
  simp only [LV.tuple.injEq,List.cons.injEq,LV.int.injEq,and_true,true_and] at h;exact h.2
 |some nd=>
  simp only at h;obtain ⟨nd',_,h,_⟩:=h;simp only [LV.tuple.injEq,List.cons.injEq,LV.int.injEq,and_true,true_and] at h;exact h.2
theorem s84(x:NameC)(H:LHeap):CallL cfg 84 [x.lv] H (Ret (.int .i64 (mayF x)) H):=by
 refine e84t _ x H fun i1 H2 g1 p1=>⟨fun h1 hI=> ?_,fun h1 hI=>⟨_,s90 x.name H2,Ret.use ⟨_,rfl⟩,fun b H5 ⟨e,p5⟩=> ?_⟩⟩
 ·have:mayF x=3:=by unfold mayF;rw [if_pos (by simp at h1;omega)]
  rw [this];exact .mk hI.pres
 cases e;have k1:¬255<x.text.length:=by simp at h1;omega
 refine ⟨fun h2 hI=> ?_,fun h2=>⟨fun h3 hI=>⟨_,s90 x.scope H5,Ret.use ⟨_,rfl⟩,fun b H8 ⟨e,p8⟩=> ?_⟩,fun h3 hI=>⟨_,s54 x.text H5,parse_use,fun x17 n18 H19 hS i20 H21 g20 p21 H22 p22 hI=> ?_⟩⟩⟩
 ·have:mayF x=8:=by unfold mayF;rw [if_neg k1,if_pos (by simpa using h2)]
  rw [this];exact .mk hI.pres
 ·cases e;have k2:nameF x.name=true:=by simpa using h2
  have k3:x.scope≠[]:=by simpa using h3
  refine ⟨fun h4 hI=> ?_,fun h4 hI=>⟨_,s54 x.text H8,parse_use,fun x10 n11 H12 hS i13 H14 g13 p14 H15 p15 hI=> ?_⟩⟩
  ·have:mayF x=8:=by unfold mayF;rw [if_neg k1,if_neg (by rw [k2];simp),if_pos ⟨k3,by simpa using h4⟩]
   rw [this];exact .mk hI.pres
  ·have:mayF x=parseE x.text:=by unfold mayF;rw [if_neg k1,if_neg (by rw [k2];simp),if_neg (by rintro ⟨_,h⟩;rw [h] at h4;simp at h4)]
   obtain ⟨_,rfl⟩:=parse_e hS;rw [this];exact .mk hI.pres
 ·have k2:nameF x.name=true:=by simpa using h2
  have:mayF x=parseE x.text:=by unfold mayF;rw [if_neg k1,if_neg (by rw [k2];simp),if_neg (by rintro ⟨h,_⟩;exact h (by simpa using h3))]
  obtain ⟨_,rfl⟩:=parse_e hS;rw [this];exact .mk hI.pres
theorem clone_use{n:Nat}{l:List NameC}{H:LHeap}:∀v H',CloneS n l H v H'->PresX [] H H'/\hasSh .slice v:=fun v H' ⟨p,a,q,e,_⟩=>⟨p,by rw [e];exact ⟨_,_,_,rfl⟩⟩
theorem wat_cells{H:LHeap}{ad:LAddr}{A C B:List LV}{l:List NameC}(h:WAt H ad 33 A (cellsN l++C) B)(q:Cap)(hs:l.length<=1000):NmAt H (some ad) l.length q l:=by
 refine ⟨rfl,hs,?_,fun x e=>by cases e;exact h.lt⟩;simp only [firstCellsL,Nat.ble_eq,Nat.le_refl,if_true];rw [show cellsN l++C=[]++(cellsN l++C) from rfl] at h;have:=h.loadAt;rw [cellsN_len] at this;simpa using this
theorem row_cells{H:LHeap}{a:Option LAddr}{n:Nat}{q:Cap}{l:List NameC}(h:RowAt H 33 3 a n q (cellsN l))(hs:n<=1000):NmAt H a n q l:=by
 have:=h.len;rw [cellsN_len] at this;exact ⟨by omega,hs,h.loadAll,fun ad e=>by subst e;exact h.id⟩
def RemS(sc n:List UInt8)(nm:List NameC)(H:LHeap):LV->LHeap->Prop:=fun v H'=>PresX [] H H'/\∃a k q,(idxF (isN sc n) nm 0= -1/\v=.tuple [.slice a k q,.int .i64 6])\/(v=.tuple [.slice a k q,.int .i64 0]/\NmAt H' a k q (keepN (isN sc n) nm))
theorem s27(a:Option LAddr)(l:Nat)(c:Cap)(nm:List NameC)(sc n:List UInt8)(H:LHeap)(hN:NmAt H a l c nm):CallL cfg 27 [.slice a l c,.str sc,.str n] H (RemS sc n nm H):=by
 refine e27t _ a l c sc n H fun i5 H6 g5 p6 i7 H8 g7 p8 hI=>⟨_,s80 a l c nm sc n H8 (hN.on0 hI.pres),Ret.use ⟨_,rfl⟩,fun n10 H11 ⟨e,p11⟩=> ?_⟩;cases e;by_cases h0:idxF (isN sc n) nm 0= -1
 ·rw [h0];exact ⟨fun _ hI=>⟨hI.pres,_,_,_,.inl ⟨h0,rfl⟩⟩,fun h=>by simp at h⟩
 ·obtain ⟨j,x,h1,h2,h3,h4⟩:=idxF_at h0;have hj:=(List.getElem?_eq_some_iff.1 h1).1;have hl:=hN.len;refine ⟨fun h=>by rw [h3] at h;simp at h;omega,fun _ hI11=>⟨_,s82 a l c nm H11 (hN.on0 hI11.pres),clone_use,fun a13 l14 c15 H16 hC hI16=> ?_⟩⟩;obtain ⟨p16,a',q',e,hrow,hid,hf,_⟩:=hC;cases e;obtain rfl:=hf (by omega);obtain ⟨ad,rfl,ho,hv,hW⟩:=hrow.wat;have hge:=hid ad rfl;have hi5:=(hI11.slot 0 _ rfl).1;have hi7:=(hI11.slot 1 _ rfl).1;simp only at hi5 hi7;refine ⟨_,[ad.id],s81b ad l (.free 3) nm (isN sc n) ⟨i5,1,0⟩ ⟨i7,1,0⟩ [] [] H16 hl hN.small (.inr ⟨rfl,by rw [ho,hv];omega⟩) hW (fun y H' p=> ?_),fun v H' ⟨g1,g2,_⟩=>⟨g1,by rw [g2];exact ⟨_,_,_,rfl⟩⟩,fun i hi=> ?_,fun a18 l19 c20 H21 hD hI21=> ?_⟩
  ·have hh5:=(hI16.slot 0 _ rfl).1;have hh7:=(hI16.slot 1 _ rfl).1;exact s83 y sc n ⟨i5,1,0⟩ ⟨i7,1,0⟩ H' (Nat.lt_of_lt_of_le hh5 p.next) (Nat.lt_of_lt_of_le hh7 p.next) (p.load (a:=⟨i5,1,0⟩) hh5 (by simp;omega) (boxed hI16 (k:=0) rfl rfl (by kernel_rfl))) (p.load (a:=⟨i7,1,0⟩) hh7 (by simp;omega) (boxed hI16 (k:=1) rfl rfl (by kernel_rfl)))
  ·rw [List.mem_singleton.1 hi];have:=hI11.pres.next;refine ⟨.inr (by omega),fun k s hs=> ?_⟩;rcases k with _ |_ |k
   ·cases hs;show i5≠ad.id;omega
   ·cases hs;show i7≠ad.id;omega
   ·simp [nth] at hs
  ·obtain ⟨g1,g2,C,g3⟩:=hD;cases g2;refine ⟨hI21.pres,_,_,_,.inr ⟨rfl,?_⟩⟩;exact wat_cells g3 _ (Nat.le_trans (List.length_filter_le _ _) (by rw [hl];exact hN.small))
theorem loop29b(a:Option LAddr)(l:Nat)(c:Cap)(nm:List NameC)(H0:LHeap)(hN:NmAt H0 a l c nm)(hS:Sorted nm):
  ∀(m i:Nat),i+m=l->∀(d:Nat->LV) (H:LHeap),GoesT cfg 29 (Ret (.int .i64 0) H0) [] H0 [] (L29t_1 d (i:Int) a l c (l:Int)) (loopAt cfg 29 1) H
 |0,i,hi,d,H=>by
  intro hin hI;refine g29t_1 _ H0 d i a l c l H ⟨fun h=> ?_,fun h hI=>.mk hI.pres⟩ hin hI;simp at h;omega
 |m+1,i,hi,d,H=>by
  intro hin hI;have hil:i<nm.length:=by rw [hN.len];omega
  have hsm:=hN.small;obtain ⟨hs,_,hld⟩:=(hN.on0 hI.pres).at (List.getElem?_eq_getElem hil);refine g29t_1 _ H0 d i a l c l H ⟨fun h=>⟨fun h0=> ?_,fun h0=> ?_⟩,fun h=> ?_⟩ hin hI
  ·have hi0:0<i:=by simp at h0;omega
   have w:lwrap .i64 ((i:Int)-1)=((i-1:Nat):Int):=by rw [lwrap_small (by omega) (by omega)];omega
   rw [w];have hil':i-1<nm.length:=by omega
   obtain ⟨_,_,hld'⟩:=(hN.on0 hI.pres).at (List.getElem?_eq_getElem hil');have hcmp:ncmp nm[i-1] nm[i]= -1:=List.pairwise_iff_getElem.1 hS (i-1) i hil' hil (by omega);refine ⟨⟨by omega,by omega,hs⟩,fun _=>⟨nm[i-1],by simpa using hld',⟨⟨by omega,by omega,hs⟩,fun _=>⟨nm[i],by simpa using hld,fun _=>⟨by simpa using hld,by simpa using hld',fun hI=>⟨_,s22 nm[i-1] nm[i] H,Ret.use ⟨_,rfl⟩,fun b H3 ⟨e,p3⟩ hI3=> ?_⟩⟩⟩⟩⟩⟩;cases e;rw [hcmp];refine ⟨fun h=>by simp at h,fun _ d16=> ?_⟩;rw [lwrap_small (by omega) (by omega)];exact loop29b a l c nm H0 hN hS m (i+1) (by omega) d16 H3
  ·intro _ _ d19;rw [lwrap_small (by omega) (by omega)];exact loop29b a l c nm H0 hN hS m (i+1) (by omega) d19 H
  ·simp at h;omega
theorem loop29a(a:Option LAddr)(l:Nat)(c:Cap)(nm:List NameC)(H0:LHeap)(hN:NmAt H0 a l c nm)(hS:Sorted nm)(hM:∀y∈nm,mayF y=0)(h32:l<=32):
  ∀(m i:Nat),i+m=l->∀(d:Nat->LV) (H:LHeap),GoesT cfg 29 (Ret (.int .i64 0) H0) [] H0 [] (L29t_0 d (i:Int) a l c a l c (l:Int)) (loopAt cfg 29 0) H
 |0,i,hi,d,H=>by
  intro hin hI;refine g29t_0 _ H0 d i a l c a l c l H ⟨fun h=> ?_,fun h=>⟨fun h2=> ?_,fun h2 d18=> ?_⟩⟩ hin hI
  ·simp at h;omega
  ·simp at h2;omega
  ·exact loop29b a l c nm H0 hN hS l 0 (by omega) d18 H
 |m+1,i,hi,d,H=>by
  intro hin hI;have hil:i<nm.length:=by rw [hN.len];omega
  have hsm:=hN.small;obtain ⟨hs,_,hld⟩:=(hN.on0 hI.pres).at (List.getElem?_eq_getElem hil);refine g29t_0 _ H0 d i a l c a l c l H ⟨fun h=>⟨⟨by omega,by omega,hs⟩,fun _=>⟨nm[i],by simpa using hld,fun k H1 gk p1 H2 p2 hI2=>⟨_,s84 nm[i] H2,Ret.use ⟨_,rfl⟩,fun b H3 ⟨e,p3⟩=> ?go⟩⟩⟩,fun h=> ?ge⟩ hin hI
  case ge=>simp at h;omega
  case go=>
   cases e;rw [hM _ (List.getElem_mem hil)];refine ⟨fun h=>by simp at h,fun _ d17=> ?_⟩;rw [lwrap_small (by omega) (by omega)];exact loop29a a l c nm H0 hN hS hM h32 m (i+1) (by omega) d17 H3
theorem s29(a:Option LAddr)(l:Nat)(c:Cap)(nm:List NameC)(H:LHeap)(hN:NmAt H a l c nm)(hS:Sorted nm)(hM:∀y∈nm,mayF y=0)(h32:l<=32):CallL cfg 29 [.slice a l c] H (Ret (.int .i64 0) H):=
 e29t _ a l c H fun d=>loop29a a l c nm H hN hS hM h32 l 0 (by omega) d H
theorem boxedN{X:List Nat}{H0 H:LHeap}{kn:List Slot}(h:Inv X H0 kn H){k i:Nat}{x:NameC}(hs:nth kn k=some ⟨i,x.cs,33⟩):loadT cfg.P H 33 ⟨i,3,0⟩=some x.lv:=by
 obtain ⟨_,h2,_⟩:=h.slot k _ hs;refine load_agg (n:=3) (by kernel_rfl) (by kernel_rfl) ?_;unfold loadN;rw [h2];rfl
def eqN(x:NameC):NameC->Bool:=fun y=>ncmp x y==0
def RestS(ad b:LAddr)(q:Cap)(i:Nat)(nm:List NameC)(x:NameC)(H:LHeap):LV->LHeap->Prop:=fun v H'=>
 PresX [ad.id] H H'/\∃k,v=.slice (some b) k q/\k=(keepN (eqN x) (nm.drop i)).length/\firstCellsL H' 3 k (.slice (some b) k q)=some (cellsN (keepN (eqN x) (nm.drop i)))/\loadN H' ad (i*3)=some (cellsN (nm.take i))
theorem rest_call(ad b:LAddr)(l i:Nat)(q:Cap)(nm:List NameC)(x:NameC)(B:List LV)(p:LAddr)(H:LHeap)(hW:WAt H ad 33 [] (cellsN (insN nm i x)) B)(hl:nm.length=l)(hi:i<=l)(hsm:l<=1000)
  (hb3:b.id=ad.id/\b.ver=ad.ver/\b.off<=ad.off+(i+1)*3) (hq:QOK b (l+1-(i+1)) 3 q) (hb:i+1<l+1->b=⟨ad.id,ad.ver,ad.off+(i+1)*3⟩) (hp:p.id<H.next) (hpne:p.id≠ad.id) (lp:loadT cfg.P H 33 p=some x.lv):
  CallL cfg 81 [.slice (some b) (l+1-(i+1)) q,.func (.func 87) [] [.ptr (some p)]] H (RestS ad b q i nm x H):=by
 have hm:l+1-(i+1)=l-i:=by omega
 rw [hm] at hq |-;have hrl:(nm.drop i).length=l-i:=by rw [List.length_drop,hl]
 have htl:(nm.take i).length=i:=by rw [List.length_take];omega
 have hPl:(cellsN (nm.take i)++x.cs).length=(i+1)*3:=by
  rw [List.length_append,cellsN_len,htl];simp only [NameC.cs,List.length_cons,List.length_nil];omega
 have hcells:cellsN (insN nm i x)=(cellsN (nm.take i)++x.cs)++(cellsN (nm.drop i)++[]):=by
  unfold insN;rw [ins_cells,List.append_nil,List.append_assoc]
 rw [hcells] at hW;have hpre:∀(H':LHeap) (Q:List LV),WAt H' ad 33 [] ((cellsN (nm.take i)++x.cs)++(Q++[])) B->loadN H' ad (i*3)=some (cellsN (nm.take i)):=fun H' Q h=>by
  rw [List.append_assoc,show ∀z:List LV,cellsN (nm.take i)++z=[]++(cellsN (nm.take i)++z) from fun _=>rfl] at h;have:=h.loadAt;rw [cellsN_len,htl] at this;simpa using this
 have hcl:∀(y:NameC) (H':LHeap),PresX [ad.id] H H'->CallL cfg 87 [y.lv,.ptr (some p)] H' (Ret (.bool (eqN x y)) H'):=fun y H' k=>
  s87 x y p H' (Nat.lt_of_lt_of_le hp k.next) (k.load hp (by simpa using hpne) lp)
 have hlen:=hW.len;simp only [List.nil_append,List.append_nil,List.length_append,hPl] at hlen;by_cases hno:∀y∈nm.drop i,eqN x y=false
 ·have hk:keepN (eqN x) (nm.drop i)=nm.drop i:=List.filter_eq_self.2 fun y hy=>by rw [hno y hy];rfl
  have hload:loadN H b ((l-i)*3)=some (cellsN (nm.drop i)):=by
   by_cases hz:i=l
   ·have he:nm.drop i=[]:=List.drop_of_length_le (by omega);obtain ⟨mv,hg,hmv⟩:=hW.get;rw [he,hz,Nat.sub_self,Nat.zero_mul];unfold loadN;rw [hb3.1,hg];have ho:=hW.off;simp only [List.length_nil] at ho;simp only;rw [if_pos (by simp only [Bool.and_eq_true,Nat.ble_eq];rw [hb3.2.1];have:=hb3.2.2;omega)];rfl
   ·have:=hW.loadAt;rw [hPl,cellsN_len,hrl] at this;rw [hb (by omega)];exact this
  have hN:NmAt H (some b) (l-i) q (nm.drop i):=⟨hrl,by omega,by simp only [firstCellsL,Nat.ble_eq,Nat.le_refl,if_true];exact hload,fun a e=>by cases e;rw [hb3.1];exact hW.lt⟩;refine (s81nc (some b) (l-i) q (nm.drop i) (eqN x) p H hN hno fun y H' k=>hcl y H' (k.mono (by simp))).mono fun v H' ⟨e,k⟩=>⟨k.mono (by simp),l-i,e,by rw [hk,hrl],?_,?_⟩
  ·rw [hk];exact (hN.on0 k).cells
  ·exact hpre H' _ (hW.on k (by simp))
 ·have hi':i<l:=by
   rcases Nat.lt_or_ge i l with h |h
   ·exact h
   ·rw [List.drop_of_length_le (by omega)] at hno;exact absurd (fun y hy=>by cases hy) hno
  have hbe:=hb (by omega);have hsub:=hW.sub;rw [hPl,<-hbe] at hsub;refine (s81c b (l-i) q (nm.drop i) (eqN x) p _ _ H hrl (by omega) hq hsub fun y H' k=>hcl y H' (by rwa [hb3.1] at k)).mono fun v H' ⟨k,e,C,hC⟩=>⟨by rwa [hb3.1] at k,_,e,rfl,?_,?_⟩
  ·exact (wat_cells hC q (Nat.le_trans (List.length_filter_le _ _) (by omega))).cells
  ·refine hpre H' (cellsN (keepN (eqN x) (nm.drop i))++C) (WAt.sup (a:=ad) (A:=[]) (P:=cellsN (nm.take i)++x.cs) (S:=[]) ?_ hW.off);rw [hPl,<-hbe];exact hC
def DefS(nm:List NameC)(x:NameC)(H:LHeap):LV->LHeap->Prop:=fun v H'=>PresX [] H H'/\∃a k q e,v=.tuple [.slice a k q,.int .i64 e]/\
 (e=0->mayF x=0/\(nm.length<32\/idxF (isN x.scope x.name) nm 0≠-1)/\NmAt H' a k q (putF nm x))
theorem s28(a:Option LAddr)(l:Nat)(c:Cap)(nm:List NameC)(x:NameC)(H:LHeap)(hN:NmAt H a l c nm)(h100:l<=100):CallL cfg 28 [.slice a l c,x.lv] H (DefS nm x H):=by
 have hl:=hN.len;refine e28t _ a l c x H fun i4 H5 g4 p5 hI5=>⟨_,s84 x H5,Ret.use ⟨_,rfl⟩,fun n7 H8 ⟨e7,p8⟩=>⟨fun h7 hI=> ?_,fun h7 hI8=>⟨_,s80 a l c nm x.scope x.name H8 (hN.on0 hI8.pres),Ret.use ⟨_,rfl⟩,fun n10 H11 ⟨e10,p11⟩=>⟨fun h10=>⟨fun h32 hI=> ?_,fun h32 hI11=> ?_⟩,fun h10 hI11=> ?_⟩⟩⟩⟩
 ·cases e7;exact ⟨hI.pres,_,_,_,_,rfl,fun h=>by rw [h] at h7;simp at h7⟩
 ·exact ⟨hI.pres,_,_,_,_,rfl,fun h=>by cases h⟩
 all_goals
  cases e7;cases e10;have hm0:mayF x=0:=by simpa using h7
  have hkey:nm.length<32\/idxF (isN x.scope x.name) nm 0≠-1:=by
   by_cases hx:idxF (isN x.scope x.name) nm 0= -1
   ·rw [hx] at h10
    first
    |(simp at h10;done)
    |(left;simp at h32;omega)
   ·exact .inr hx
  have hi4lt:=(hI11.slot 0 _ rfl).1;simp only at hi4lt;have hn11:=hI11.pres.next;obtain ⟨i,hi1,hi2,hi3,hi4⟩:=placeF_spec x nm 0;rw [Nat.zero_add] at hi1;refine ⟨_,s85 a l c nm x H11 (hN.on0 hI11.pres),Ret.use ⟨_,rfl⟩,fun n13 H14 ⟨e13,p14⟩ H15 e15=>⟨rfl,fun hI15=>⟨_,s82 a l c nm H15 (hN.on0 hI15.pres),clone_use,fun a18 l19 c20 H21 hC=>⟨rfl,fun hI21=> ?_⟩⟩⟩⟩;cases e13;rw [hi1];obtain ⟨p21,a',q',e,hrow,hid,hf,h0⟩:=hC;cases e;have hg15:H15.get H14.next=some (.cells x.cs 33 3 3 .none false true):=by rw [e15,LHeap.get_push,if_pos rfl]
  have hlt15:H14.next<H15.next:=by rw [e15];exact Nat.lt_succ_self _
  have hn14:=p14.next;have hld15:loadN H15 ⟨H14.next,3,0⟩ 3=some x.cs:=by
   unfold loadN;rw [hg15];rfl
  have hk21:=p21.keep H14.next hlt15 (by simp);have okx:∀(j:Nat),H15.next<=j->okId [] H [⟨i4,x.cs,33⟩] j:=fun j hj=>⟨.inr (by omega),fun k s hs=>by
   cases k with
   |zero=>cases hs;show i4≠j;omega
   |succ k=>simp [nth] at hs⟩
  have hge:∀j∈idO a18,H15.next<=j:=fun j hj=>by
   obtain ⟨ad,e,rfl⟩:=mem_idO hj;exact hid ad e
  refine ⟨_,idO a18,s86g a18 ⟨H14.next,3,0⟩ l i c20 nm x H21 hrow h0 hf hl hN.small (by omega) (hk21.loads ⟨H14.next,3,0⟩ 3 _ rfl hld15) (Nat.lt_of_lt_of_le hlt15 p21.next) (fun ad e=>by have:=hid ad e;simp only;omega) ⟨_,_,_,_,_,by rw [hk21.get];exact hg15,Nat.le_refl _⟩,
   fun v H' ⟨g1,ad,q,B,g2,_⟩=>⟨g1,by rw [g2];exact ⟨_,_,_,rfl⟩⟩,fun j hj=>okx j (hge j hj),fun a24 l25 c26 H27 hIns=> ?_⟩
  obtain ⟨g27,ad,qo,B,e,hW,hQ,hadid⟩:=hIns;cases e;have hadge:H15.next<=ad.id:=by
   rcases hadid with h |h
   ·exact hge _ h
   ·exact Nat.le_trans p21.next h
  obtain ⟨b30,q30,hs30,hbid,hq30,hb30⟩:=slice_lo (k:=.i64) u36 z33 (by decide) hQ (i:=i+1) (by omega);have w:lwrap .i64 ((i:Int)+1)=((i+1:Nat):Int):=by
   have:=hN.small;rw [lwrap_small (by omega) (by omega)];rfl
  rw [w];refine ⟨some b30,l+1-(i+1),q30,hs30,fun hI27=>⟨RestS ad b30 q30 i nm x H27,[ad.id],rest_call ad b30 l i q30 nm x B ⟨i4,3,0⟩ H27 hW hl (by omega) hN.small hbid hq30 hb30 (hI27.slot 0 _ rfl).1 (by simp only;omega) (boxedN hI27 (k:=0) rfl),
   fun v H' ⟨g1,k,g2,_⟩=>⟨g1,by rw [g2];exact ⟨_,_,_,rfl⟩⟩,fun j hj=>okx j (by rw [List.mem_singleton.1 hj];exact hadge),fun a34 l35 c36 H37 hR=> ?_⟩⟩
  obtain ⟨p37,k,e,hk,hcells,hpre⟩:=hR;cases e;have hadlt:ad.id<H37.next:=Nat.lt_of_lt_of_le hW.lt p37.next;refine ⟨some ad,i,c26,slice_hi u36 z33 (by decide) hQ (by omega),fun H42 e42=>⟨rfl,fun hI42=> ?_⟩⟩;have p42:PresX [] H37 H42:=by rw [e42];exact .push _ _ _
  have hg42:H42.get H37.next=some (.cells x.cs 33 3 3 .none false true):=by rw [e42,LHeap.get_push,if_pos rfl]
  have hlt42:H37.next<H42.next:=by rw [e42];exact Nat.lt_succ_self _
  have hNt:NmAt H42 (some ad) i c26 (nm.take i):=⟨by rw [List.length_take];omega,by have:=hN.small;omega,by
   simp only [firstCellsL,Nat.ble_eq,Nat.le_refl,if_true];exact (p42.keep ad.id hadlt (by simp)).loads ad _ _ rfl hpre,fun z e=>by cases e;exact Nat.lt_of_lt_of_le hadlt p42.next⟩
  refine ⟨_,s82 (some ad) i c26 (nm.take i) H42 hNt,clone_use,fun a45 l46 c47 H48 hC2=>⟨rfl,fun hI48=> ?_⟩⟩;obtain ⟨p48,a45',c47',e,hrow48,hid48,_,_⟩:=hC2;cases e;have hi1000:i<=1000:=by have:=hN.small;omega
  refine ⟨_,[],s81nd a45 i c47 (nm.take i) (eqN x) ⟨i4,3,0⟩ H48 (row_cells hrow48 hi1000) (fun y hy=> ?_) (fun y H' p=>s88 x y ⟨i4,3,0⟩ H' (Nat.lt_of_lt_of_le (hI48.slot 0 _ rfl).1 p.next) (p.load0 (hI48.slot 0 _ rfl).1 (boxedN hI48 (k:=0) rfl))),
   Ret.use ⟨_,_,_,rfl⟩,(fun j hj=>by cases hj),fun a51 l52 c53 H54 ⟨e54,p54⟩=>⟨rfl,fun hI54=> ?_⟩⟩
  ·have:=hi3 y hy;have h2:=ncmp_neg y x;unfold eqN;rw [h2,this];rfl
  cases e54;have p4254:PresX [] H42 H54:=p48.trans0 p54;have p3754:PresX [] H37 H54:=p42.trans0 p4254;have hk42:=p4254.keep H37.next hlt42 (by simp);have hrowx:RowAt H54 33 3 (some ⟨H37.next,3,0⟩) 1 (.exact 1) x.cs:=by
   refine .full _ 1 _ (Nat.lt_of_lt_of_le hlt42 p4254.next) ?_ rfl rfl;unfold loadN;rw [hk42.get,hg42];rfl
  have hrest54:firstCellsL H54 3 l35 (.slice (some b30) l35 q30)=some (cellsN (keepN (eqN x) (nm.drop i))):=by
   simp only [firstCellsL,Nat.ble_eq,Nat.le_refl,if_true] at hcells |-;exact (p3754.keep b30.id (by rw [hbid.1];exact hadlt) (by simp)).loads b30 _ _ rfl hcells
  have hkl:l35<=100:=by
   rw [hk];refine Nat.le_trans (List.length_filter_le _ _) ?_;rw [List.length_drop];have:=hN.small;omega
  obtain ⟨Y1,a56,q58,H59,h1,h2,h3,h4,h5,_⟩:=hrowx.append2 rowT33 (x:=.slice (some b30) l35 q30) (m:=l35) rfl hrest54 (by rw [cellsN_len,hk]) (cellsN_all _) (by omega);have hY1:∀j∈Y1,j=H37.next:=fun j hj=>by
   obtain ⟨ad',e',rfl⟩:=h4 j hj;cases e';rfl
  have h37:H15.next<=H37.next:=Nat.le_trans p21.next (Nat.le_trans g27.next p37.next);refine ⟨Y1,a56,1+l35,q58,H59,⟨h1,h2,fun j hj=>okx j (by rw [hY1 j hj];exact h37)⟩,fun hI59=> ?_⟩;have hrow54:RowAt H54 33 3 a45 i c47 (cellsN (nm.take i)):=hrow48.on p54.next (fun z e=>p54.keep z.id (by subst e;exact hrow48.id) (by simp)) (fun z e _=>(p54.keep z.id (by subst e;exact hrow48.id) (by simp)).get);have hk59:∀z,a45=some z->Keep H54 H59 z.id:=fun z e=>h2.keep z.id (by subst e;exact hrow54.id) fun hm=>by
   have:=hY1 _ hm;have:=hid48 z e;omega
  have hrow59:RowAt H59 33 3 a45 i c47 (cellsN (nm.take i)):=hrow54.on h2.next hk59 (fun z e _=>(hk59 z e).get);have hxl:(x.cs++cellsN (keepN (eqN x) (nm.drop i))).length=(1+l35)*3:=by
   rw [List.length_append,cellsN_len,<-hk];simp only [NameC.cs,List.length_cons,List.length_nil];omega
  obtain ⟨Y2,a61,q63,H64,m1,m2,m3,m4,m5,_⟩:=hrow59.append2 rowT33 (x:=.slice a56 (1+l35) q58) (m:=1+l35) rfl h3.loadAll hxl (allCells_app rfl (cellsN_all _)) (by omega);refine ⟨Y2,a61,i+(1+l35),q63,H64,⟨m1,m2,fun j hj=> ?_⟩,fun hI64=>⟨hI64.pres,a61,i+(1+l35),q63,0,rfl,fun _=>⟨hm0,hkey,?_⟩⟩⟩
  ·obtain ⟨ad',e',rfl⟩:=m4 j hj;have:=hid48 ad' e';exact okx _ (by omega)
  ·refine row_cells ?_ (by omega);have hput:putF nm x=nm.take i++x::keepN (eqN x) (nm.drop i):=by
    unfold putF;rw [hi1];rfl
   rw [hput,cellsN_app,<-List.singleton_append,cellsN_app,cellsN_one];exact m3
structure NmL (H:LHeap) (a:Option LAddr) (n:Nat) (l:List NameC):Prop where
 len:l.length=n
 some:∀i,i<n->a.isSome=true/\(adr a).id<H.next
 load:∀(i:Nat) (x:NameC),l[i]? =Option.some x->loadT cfg.P H 33 ⟨(adr a).id,(adr a).ver,(adr a).off+i*3⟩=Option.some x.lv
theorem opt_use{o:Option NameC}{H:LHeap}:∀v H',Ret (optN o) H v H'->PresX [] H H'/\hasSh (.tuple [.cust NameC NameC.lv,.bool]) v:=fun v H' ⟨e,p⟩=>⟨p,by
 rw [e];cases o with
 |none=>exact ⟨nilName,false,rfl⟩
 |some x=>exact ⟨x,true,rfl⟩⟩
theorem nlv_inj{x y:NameC}(h:x.lv=y.lv):x=y:=by
 obtain ⟨a,b,c⟩:=x;obtain ⟨d,e,f⟩:=y;simpa [NameC.lv,NameC.cs] using h
theorem opt_eq{o:Option NameC}{x:NameC}{b:Bool}(h:LV.tuple [x.lv,.bool b]=optN o):(o=none->b=false)/\∀y,o=some y->x=y/\b=true:=by
 cases o with
 |none=>simp [optN] at h;exact ⟨fun _=>h.2,fun y e=>by cases e⟩
 |some y=>simp [optN] at h;exact ⟨(fun e=>by cases e),fun z e=>by cases e;exact ⟨nlv_inj h.1,h.2⟩⟩
theorem keep_find(sc n:List UInt8)(nm:List NameC):findN sc n (keepN (isN sc n) nm)=none:=by
 rw [find_none,idxF_neg];intro y hy;have:=(List.mem_filter.1 hy).2;simpa using this
theorem put_found{nm:List NameC}(hS:Sorted nm)(x:NameC):findN x.scope x.name (putF nm x)=some x:=by
 obtain ⟨h1,h2⟩:=put_find hS x;cases h:findN x.scope x.name (putF nm x) with
 |none=>exact absurd (find_none.1 h) h1
 |some y=>
  have hm:=List.mem_of_find?_eq_some h;have hp:=List.find?_some h;rw [h2 y hm hp]
theorem loop6(a:Option LAddr)(l:Nat)(c:Cap)(la:List NameC)(H0:LHeap)(hL:NmL H0 a l la)(h100:l<=100):
  ∀(m i:Nat),i+m=l->∀(a1:Option LAddr) (l2:Nat) (c3:Cap) (nm:List NameC) (d:Nat->LV) (H:LHeap),NmAt H a1 l2 c3 nm->Sorted nm->(∀y∈nm,mayF y=0)->l2<=32->
   GoesT cfg 6 (Ret (.bool true) H0) [] H0 [] (L6t_0 d (i:Int) a1 l2 c3 a l c (l:Int)) (loopAt cfg 6 0) H
 |0,i,hi,a1,l2,c3,nm,d,H,hN,hS,hM,h32=>by
  intro hin hI;refine g6t_0 _ H0 d i a1 l2 c3 a l c l H ⟨fun h=> ?_,fun h hI=>⟨_,s29 a1 l2 c3 nm H hN hS hM h32,Ret.use ⟨_,rfl⟩,fun n H1 ⟨e,p⟩=> ?_⟩⟩ hin hI
  ·simp at h;omega
  ·cases e;exact ⟨fun _ hI=>.mk hI.pres,fun h=>by simp at h⟩
 |m+1,i,hi,a1,l2,c3,nm,d,H,hN,hS,hM,h32=>by
  intro hin hI;have hil:i<la.length:=by rw [hL.len];omega
  obtain ⟨hs,hidl⟩:=hL.some i (by omega);have hld:=hI.pres.load0 (a:=⟨(adr a).id,(adr a).ver,(adr a).off+i*3⟩) hidl (hL.load i _ (List.getElem?_eq_getElem hil));have hl:=hN.len;have next:∀(a1:Option LAddr) (l2:Nat) (c3:Cap) (nm:List NameC) (d:Nat->LV) (H:LHeap),NmAt H a1 l2 c3 nm->Sorted nm->(∀y∈nm,mayF y=0)->l2<=32->
    GoesT cfg 6 (Ret (.bool true) H0) [] H0 [] (L6t_0 d (lwrap .i64 ((i:Int)+1)) a1 l2 c3 a l c (l:Int)) (loopAt cfg 6 0) H:=fun a1 l2 c3 nm d H hN hS hM h32=>by
   rw [lwrap_small (by omega) (by omega)];exact loop6 a l c la H0 hL h100 m (i+1) (by omega) a1 l2 c3 nm d H hN hS hM h32
  refine g6t_0 _ H0 d i a1 l2 c3 a l c l H ⟨fun h=>⟨⟨by omega,by omega,hs⟩,fun _=>⟨la[i],by simpa using hld,fun k H1 gk p1 H2 p2=> ?go⟩⟩,fun h=> ?ge⟩ hin hI
  case ge=>simp at h;omega
  have hN2:NmAt H2 a1 l2 c3 nm:=(hN.on0 p1).on p2 fun ad e=>by
   have:=hN.id ad e;simp;omega
  refine ⟨fun _ hI2=>⟨_,s27 a1 l2 c3 nm _ _ H2 hN2,fun v H' ⟨p,a',k',q',h⟩=>⟨p,?_⟩,fun a15 l16 c17 n18 H19 hR=> ?_⟩,fun _ hI2=>⟨_,s28 a1 l2 c3 nm _ H2 hN2 (by omega),fun v H' ⟨p,a',k',q',e',h,_⟩=>⟨p,by rw [h];exact ⟨_,_,_,_,rfl⟩⟩,fun a37 l38 c39 n40 H41 hD=> ?_⟩⟩
  ·rcases h with ⟨_,h⟩ |⟨h,_⟩<;>rw [h]<;>exact ⟨_,_,_,_,rfl⟩
  ·obtain ⟨p19,a',k',q',hcase⟩:=hR;refine ⟨fun h0 hI19=> ?_,fun h0 hI19=> ?_⟩
   ·rcases hcase with ⟨_,e⟩ |⟨e,hN19⟩
    ·cases e;simp at h0
    ·cases e;refine ⟨_,s25 a15 l16 c17 _ _ _ H19 hN19,opt_use,fun x21 b22 H23 ⟨e,p23⟩ i24 H25 g24 p25 H26 p26=> ?_⟩;have hb:=(opt_eq e).1 (keep_find _ _ _);refine ⟨(fun h=>by rw [hb] at h;cases h),fun _ d27=>next a15 l16 c17 (keepN (isN la[i].scope la[i].name) nm) d27 H26 ?_ (List.Pairwise.sublist List.filter_sublist hS) (fun y hy=>hM y (List.mem_filter.1 hy).1) ?_⟩
     ·refine ((hN19.on0 p23).on0 p25).on p26 fun ad e=> ?_;have:=(hN19.on0 p23).id ad e;simp;omega
     ·rw [<-hN19.len];exact Nat.le_trans (List.length_filter_le _ _) (by omega)
   ·rcases hcase with ⟨hx,e⟩ |⟨e,_⟩
    ·cases e;have hN19:=hN2.on0 p19;refine ⟨_,s25 a1 l2 c3 nm _ _ H19 hN19,opt_use,fun x21 b22 H23 ⟨e,p23⟩ i24 H25 g24 p25 H26 p26=> ?_⟩;have hb:=(opt_eq e).1 (find_none.2 hx);refine ⟨(fun h=>by rw [hb] at h;cases h),fun _ d27=>next a1 l2 c3 nm d27 H26 ?_ hS hM h32⟩;refine ((hN19.on0 p23).on0 p25).on p26 fun ad e=> ?_;have:=(hN19.on0 p23).id ad e;simp;omega
    ·cases e;simp at h0
  ·obtain ⟨p41,a',k',q',e',hv,hok⟩:=hD;cases hv;refine ⟨fun h0 d42=>next a1 l2 c3 nm d42 H41 (hN2.on0 p41) hS hM h32,fun h0 hI41=> ?_⟩;obtain ⟨hm0,hkey,hN41⟩:=hok (by simpa using h0);obtain ⟨hS',_,_⟩:=put_sorted hS la[i];have hM':∀y∈putF nm la[i],mayF y=0:=fun y hy=>by
    rcases put_mem hy with rfl |h
    ·exact hm0
    ·exact hM y h
   have h32':l38<=32:=by
    rw [<-hN41.len];refine put_len la[i] (hkey.imp id fun hne=> ?_) (by omega);obtain ⟨j,y,h1,h2,_,_⟩:=idxF_at hne;refine ⟨y,List.mem_of_getElem? h1,?_⟩;simp only [isN,Bool.and_eq_true,beq_iff_eq] at h2;exact ncmp_zero.2 ⟨h2.1.symm,h2.2.symm⟩
   refine ⟨_,s25 a37 l38 c39 _ _ _ H41 hN41,opt_use,fun x44 b45 H46 ⟨e,p46⟩ i47 H48 g47 p48 H49 p49=> ?_⟩;obtain ⟨rfl,rfl⟩:=(opt_eq e).2 _ (put_found hS la[i]);have hN49:NmAt H49 a37 l38 c39 (putF nm la[i]):=by
    refine ((hN41.on0 p46).on0 p48).on p49 fun ad e=> ?_;have:=(hN41.on0 p46).id ad e;simp;omega
   refine ⟨fun h=>by simp at h,fun _=>⟨fun h=>by simp at h,fun _ hI49=>⟨_,s29 a37 l38 c39 _ H49 hN49 hS' hM' h32',Ret.use ⟨_,rfl⟩,fun n52 H53 ⟨e,p53⟩=> ?_⟩⟩⟩;cases e;exact ⟨fun h=>by simp at h,fun _ d54=>next a37 l38 c39 _ d54 H53 (hN49.on0 p53) hS' hM' h32'⟩
theorem s6(a:Option LAddr)(l:Nat)(c:Cap)(la:List NameC)(H:LHeap)(hL:NmL H a l la):CallL cfg 6 [.slice a l c] H (Ret (.bool true) H):=by
 refine e6t _ a l c H ⟨fun _ hI=>.mk hI.pres,fun h d=>loop6 a l c la H hL (by simp at h;omega) l 0 (by omega) none 0 (.exact 0) [] d H ⟨rfl,by decide,rfl,fun ad e=>by cases e⟩ List.Pairwise.nil (fun y hy=>by cases hy) (by decide)⟩
theorem names_atL{H:LHeap}{a:Option LAddr}{l:Nat}{q:Cap}{xs:Nat->List LV}{ds:List D}(h:SliceAt Tryz.prog H 33 a l q xs ds)(hid:∀i,i<l->(adr a).id<H.next):∃nm,NmL H a l nm:=by
 have c33:Tryz.prog.cellsOf 33=3:=by kernel_rfl
 have each:∀i,i<l->∃x:NameC,xs i=x.cs:=by
  intro i hi;have hl:i<ds.length:=by rw [h.len];exact hi
  have hr:=rep_leaves 10 33 [9,9,9] (xs i) _ (by kernel_rfl) (h.rep i _ (List.getElem?_eq_getElem hl));obtain ⟨c0,t0,g0,e0,z0,al⟩:=AllRep.head hr;obtain ⟨c1,t1,g1,rfl,z1,al⟩:=AllRep.head al;obtain ⟨c2,t2,g2,rfl,z2,al⟩:=AllRep.head al;obtain rfl:=AllRep.last al;obtain ⟨s0,rfl,_⟩:=Rep.str_inv (t:=9) (by kernel_rfl) z0;obtain ⟨s1,rfl,_⟩:=Rep.str_inv (t:=9) (by kernel_rfl) z1;obtain ⟨s2,rfl,_⟩:=Rep.str_inv (t:=9) (by kernel_rfl) z2;exact ⟨⟨s0,s1,s2⟩,e0⟩
 obtain ⟨nm,h1,h2⟩:=list_of l each;refine ⟨nm,h1,fun i hi=>⟨h.some i hi,hid i hi⟩,fun i x hx=> ?_⟩;have hi:i<l:=by rw [<-h1];exact (List.getElem?_eq_some_iff.1 hx).1
 have hld:=h.load i hi;rw [c33,h2 i x hx] at hld;exact load_agg (by kernel_rfl) (by kernel_rfl) hld
end Go.Proofs.YtjihhflffkoffaaGreatDoor.Z
