/- Contracts of functions of the program; no condition. -/
import Derived.Test.YtjihhflffkoffaaGreatDoorG0
import Derived.Test.YtjihhflffkoffaaGreatDoorG2
import Derived.Test.YtjihhflffkoffaaGreatDoorG10
import Derived.Test.YtjihhflffkoffaaGreatDoorG5
set_option linter.unusedSimpArgs false
set_option linter.unusedVariables false
set_option linter.unusedSectionVars false
set_option linter.unnecessarySimpa false
namespace Go.Proofs.YtjihhflffkoffaaGreatDoor.Z
open Go Go.Lm
set_option maxRecDepth 1000000
set_option maxHeartbeats 0
def idO(a:Option LAddr):List Nat:=(a.map LAddr.id).toList
theorem mem_idO{a:Option LAddr}{i:Nat}(h:i∈idO a):∃ad,a=some ad/\ad.id=i:=by
 cases a with
 |none=>simp [idO] at h
 |some ad=>simp [idO] at h;exact ⟨ad,rfl,h.symm⟩
open Classical in
noncomputable def parseE(s:List UInt8):Int:=if h:∃e o,PO s o e then Classical.choose h else 0
theorem parseE_eq{s:List UInt8}{o:Option Nd}{e:Int}(h:PO s o e):parseE s=e:=by
 have hx:∃e o,PO s o e:=⟨e,o,h⟩;unfold parseE;rw [dif_pos hx];obtain ⟨o',h'⟩:=Classical.choose_spec hx;exact (h'.det h).2
theorem parse_use{s:List UInt8}{H:LHeap}:∀v H',ParseS s H v H'->PresX [] H H'/\hasSh (.tuple [.cust NdC NdC.lv,.int .i64]) v:=fun v H' ⟨p,o,e,hPO,h⟩=>by
 refine ⟨p,?_⟩;cases o with
 |none=>simp only at h;rw [h];exact ⟨_,_,rfl⟩
 |some n=>
  simp only at h;obtain ⟨nd,_,h,_⟩:=h;rw [h];exact ⟨_,_,rfl⟩
theorem parse_e{s:List UInt8}{H H':LHeap}{x:NdC}{n:Int}(h:ParseS s H (.tuple [x.lv,.int .i64 n]) H'):PresX [] H H'/\n=parseE s:=by
 obtain ⟨p,o,e,hPO,h⟩:=h;refine ⟨p,?_⟩;rw [parseE_eq hPO];cases o with
 |none=>
  simp only [LV.tuple.injEq,List.cons.injEq,LV.int.injEq,and_true,true_and] at h;exact h.2
 |some nd=>
  simp only at h;obtain ⟨nd',_,h,_⟩:=h;simp only [LV.tuple.injEq,List.cons.injEq,LV.int.injEq,and_true,true_and] at h;exact h.2
theorem clone_use{n:Nat}{l:List NameC}{H:LHeap}:∀v H',CloneS n l H v H'->PresX [] H H'/\hasSh .slice v:=fun v H' ⟨p,a,q,e,_⟩=>⟨p,by rw [e];exact ⟨_,_,_,rfl⟩⟩
theorem wat_cells{H:LHeap}{ad:LAddr}{A C B:List LV}{l:List NameC}(h:WAt H ad 33 A (cellsN l++C) B)(q:Cap)(hs:l.length<=1000):NmAt H (some ad) l.length q l:=by
 refine ⟨rfl,hs,?_,fun x e=>by cases e;exact h.lt⟩;simp only [firstCellsL,Nat.ble_eq,Nat.le_refl,if_true];rw [show cellsN l++C=[]++(cellsN l++C) from rfl] at h;have:=h.loadAt;rw [cellsN_len] at this;simpa using this
theorem row_cells{H:LHeap}{a:Option LAddr}{n:Nat}{q:Cap}{l:List NameC}(h:RowAt H 33 3 a n q (cellsN l))(hs:n<=1000):NmAt H a n q l:=by
 have:=h.len;rw [cellsN_len] at this;exact ⟨by omega,hs,h.loadAll,fun ad e=>by subst e;exact h.id⟩
def RemS(sc n:List UInt8)(nm:List NameC)(H:LHeap):LV->LHeap->Prop:=fun v H'=>PresX [] H H'/\∃a k q,(idxF (isN sc n) nm 0= -1/\v=.tuple [.slice a k q,.int .i64 6])\/(v=.tuple [.slice a k q,.int .i64 0]/\NmAt H' a k q (keepN (isN sc n) nm))
theorem s27(a:Option LAddr)(l:Nat)(c:Cap)(nm:List NameC)(sc n:List UInt8)(H:LHeap)(hN:NmAt H a l c nm):CallL cfg 27 [.slice a l c,.str sc,.str n] H (RemS sc n nm H):=by
 refine e27t _ a l c sc n H fun i5 H6 g5 p6 i7 H8 g7 p8 hI=>⟨_,s80 a l c nm sc n H8 (hN.on0 hI.pres),Ret.use ⟨_,rfl⟩,fun n10 H11 ⟨e,p11⟩=> ?_⟩;cases e;by_cases h0:idxF (isN sc n) nm 0= -1
 ·rw [h0];exact ⟨fun _ hI=>⟨hI.pres,_,_,_,.inl ⟨h0,rfl⟩⟩,fun h=>by simp at h⟩
 ·obtain ⟨j,x,h1,h2,h3,h4⟩:=idxF_at h0;have hj:=(List.getElem?_eq_some_iff.1 h1).1;have hl:=hN.len;refine ⟨fun h=>by rw [h3] at h;simp at h;omega,fun _ hI11=>⟨_,s82 a l c nm H11 (hN.on0 hI11.pres),clone_use,fun a13 l14 c15 H16 hC hI16=> ?_⟩⟩;obtain ⟨p16,a',q',e,hrow,hid,hf,_⟩:=hC;cases e;obtain rfl:=hf (by omega);obtain ⟨ad,rfl,ho,hv,hW⟩:=hrow.wat;have hge:=hid ad rfl;have hi5:=(hI11.slot 0 _ rfl).1;have hi7:=(hI11.slot 1 _ rfl).1;simp only at hi5 hi7;refine ⟨_,[ad.id],s81b ad l (.free 3) nm (isN sc n) ⟨i5,1,0⟩ ⟨i7,1,0⟩ [] [] H16 hl hN.small (.inr ⟨rfl,by rw [ho,hv];omega⟩) hW (fun y H' p=> ?_),fun v H' ⟨g1,g2,_⟩=>⟨g1,by rw [g2];exact ⟨_,_,_,rfl⟩⟩,fun i hi=> ?_,fun a18 l19 c20 H21 hD hI21=> ?_⟩
  ·have hh5:=(hI16.slot 0 _ rfl).1;have hh7:=(hI16.slot 1 _ rfl).1;exact s83 y sc n ⟨i5,1,0⟩ ⟨i7,1,0⟩ H' (Nat.lt_of_lt_of_le hh5 p.next) (Nat.lt_of_lt_of_le hh7 p.next) (p.load (a:=⟨i5,1,0⟩) hh5 (by simp;omega) (boxed hI16 (k:=0) rfl rfl (by kernel_rfl))) (p.load (a:=⟨i7,1,0⟩) hh7 (by simp;omega) (boxed hI16 (k:=1) rfl rfl (by kernel_rfl)))
  ·rw [List.mem_singleton.1 hi];have:=hI11.pres.next;refine ⟨.inr (by omega),fun k s hs=> ?_⟩;rcases k with _ |_ |k
   ·cases hs;show i5≠ad.id;omega
   ·cases hs;show i7≠ad.id;omega
   ·simp [nth] at hs
  ·obtain ⟨g1,g2,C,g3⟩:=hD;cases g2;refine ⟨hI21.pres,_,_,_,.inr ⟨rfl,?_⟩⟩;exact wat_cells g3 _ (Nat.le_trans (List.length_filter_le _ _) (by rw [hl];exact hN.small))
abbrev ShL:=List (SheetC×List CellC)
def cellsS(ss:ShL):List LV:=ss.flatMap fun p=>p.1.cs
theorem cellsS_len:∀l:ShL,(cellsS l).length=l.length*2
 |[]=>rfl
 |x::l=>by
  have:=cellsS_len l;unfold cellsS at this |-;rw [List.flatMap_cons,List.length_append,this,List.length_cons,Nat.add_mul];simp only [SheetC.cs,List.length_cons,List.length_nil];omega
theorem cellsS_app(l m:ShL):cellsS (l++m)=cellsS l++cellsS m:=by unfold cellsS;exact List.flatMap_append
theorem cellsS_one(x:SheetC×List CellC):cellsS [x]=x.1.cs:=by simp [cellsS]
theorem cellsS_all:∀l:ShL,allCells (cellsS l)=true
 |[]=>rfl
 |x::l=>by
  have:=cellsS_all l;unfold cellsS at this |-;rw [List.flatMap_cons];exact allCells_app rfl this
theorem cellsS_split{l:ShL}{i:Nat}{x:SheetC×List CellC}(h:l[i]? =some x):cellsS l=cellsS (l.take i)++(x.1.cs++cellsS (l.drop (i+1)))/\(cellsS (l.take i)).length=i*2:=by
 obtain ⟨h1,h2⟩:=List.getElem?_eq_some_iff.1 h;refine ⟨?_,by rw [cellsS_len,List.length_take,Nat.min_eq_left (Nat.le_of_lt h1)]⟩;rw [<-cellsS_one,<-cellsS_app,<-cellsS_app,List.singleton_append,<-h2,<-List.drop_eq_getElem_cons h1,List.take_append_drop]
structure ShAt (H:LHeap) (a:Option LAddr) (n:Nat) (q:Cap) (ss:ShL):Prop where
 len:ss.length=n
 small:n<=1000
 cells:firstCellsL H 2 n (.slice a n q)=some (cellsS ss)
 id:∀ad,a=some ad->ad.id<H.next
 rows:∀p∈ss,KAt H p.1.cellsA p.1.cellsL p.1.cellsQ p.2
theorem ShAt.load{H:LHeap}{ad:LAddr}{n:Nat}{q:Cap}{l:ShL}(h:ShAt H (some ad) n q l):loadN H ad (n*2)=some (cellsS l):=by
 have:=h.cells;simp only [firstCellsL,Nat.ble_eq,Nat.le_refl,if_true] at this;exact this
theorem ShAt.on{H H':LHeap}{a:Option LAddr}{n:Nat}{q:Cap}{l:ShL}(h:ShAt H a n q l){X:List Nat}(p:PresX X H H')(hx:∀ad,a=some ad->ad.id∉X)(hr:∀s∈l,∀ad,s.1.cellsA=some ad->ad.id∉X):ShAt H' a n q l:=by
 refine ⟨h.len,h.small,?_,fun ad e=>Nat.lt_of_lt_of_le (h.id ad e) p.next,fun s hs=>(h.rows s hs).on p (hr s hs)⟩;cases a with
 |none=>exact h.cells
 |some ad=>
  simp only [firstCellsL,Nat.ble_eq,Nat.le_refl,if_true];exact (p.keep ad.id (h.id ad rfl) (hx ad rfl)).loads ad _ _ rfl h.load
theorem ShAt.on0{H H':LHeap}{a:Option LAddr}{n:Nat}{q:Cap}{l:ShL}(h:ShAt H a n q l)(p:PresX [] H H'):ShAt H' a n q l:=h.on p (fun _ _=>by simp) fun _ _ _ _=>by simp
theorem ShAt.new{H H1 H2:LHeap}{a:Option LAddr}{n:Nat}{q:Cap}{l:ShL}(h:ShAt H a n q l)(p1:PresX [] H H1){k:Nat}(hk:H.next<=k)(p2:PresX [k] H1 H2):ShAt H2 a n q l:=
 (h.on0 p1).on p2 (fun ad e=>by have:=h.id ad e;simp;omega) fun s hs ad e=>by have:=(h.rows s hs).id ad e;simp;omega
theorem KAt.new{H H1 H2:LHeap}{a:Option LAddr}{n:Nat}{q:Cap}{l:List CellC}(h:KAt H a n q l)(p1:PresX [] H H1){k:Nat}(hk:H.next<=k)(p2:PresX [k] H1 H2):KAt H2 a n q l:=
 (h.on0 p1).on p2 fun ad e=>by have:=h.id ad e;simp;omega
theorem ShAt.at{H:LHeap}{a:Option LAddr}{n:Nat}{q:Cap}{l:ShL}(h:ShAt H a n q l){i:Nat}{x:SheetC×List CellC}(hx:l[i]? =some x):
  a.isSome=true/\(adr a).id<H.next/\loadT cfg.P H 142 ⟨(adr a).id,(adr a).ver,(adr a).off+i*2⟩=some x.1.lv:=by
 have hi:=(List.getElem?_eq_some_iff.1 hx).1;cases a with
 |none=>
  have:=h.cells;simp only [firstCellsL] at this;split at this
  ·rename_i hn;have:=Nat.eq_of_beq_eq_true hn;have:=h.len;omega
  ·cases this
 |some ad=>
  refine ⟨rfl,h.id ad rfl,?_⟩;have hl:=h.load;obtain ⟨h1,h2⟩:=cellsS_split hx;rw [h1] at hl;have:=loadN_mid hl;rw [h2] at this;exact load_agg (by kernel_rfl) (by kernel_rfl) this
theorem ShAt.field{H:LHeap}{a:Option LAddr}{n:Nat}{q:Cap}{l:ShL}(h:ShAt H a n q l){i:Nat}{x:SheetC×List CellC}(hx:l[i]? =some x):
  loadT cfg.P H 49 ⟨(adr a).id,(adr a).ver,(adr a).off+i*2+1⟩=some (.slice x.1.cellsA x.1.cellsL x.1.cellsQ):=
 load_field (t:=142) (n:=2) (k:=1) (by kernel_rfl) (by kernel_rfl) (h.at hx).2.2 (by kernel_rfl) rfl
theorem s121(r c:Int)(H:LHeap):CallL cfg 121 [.int .i64 r,.int .i64 c] H (Ret (.bool (insideC r c)) H):=by
 refine e121t _ r c H ⟨fun h1=>⟨fun h2=>⟨fun h3 hI=> ?_,fun h3 hI=> ?_⟩,fun h2 hI=> ?_⟩,fun h1 hI=> ?_⟩
 all_goals
  refine Eq.subst (motive:=fun b=>Ret (.bool b) H _ _) ?_ (Ret.mk hI.pres);unfold insideC;simp only [decide_eq_true_eq,decide_eq_false_iff_not] at*
  first
  |(congr 1;exact propext (by constructor<;>intro h<;>omega))
  |(symm;exact decide_eq_false (by omega))
noncomputable def mayT(s:List UInt8):Int:=if 255<s.length then 3 else if s=[] then 0 else if byteAt s 0≠61 then 0 else parseE (subStr s 1 (s.length:Int))
theorem s122(s:List UInt8)(H:LHeap):CallL cfg 122 [.str s] H (Ret (.int .i64 (mayT s)) H):=by
 refine e122t _ s H ⟨fun h1 hI=> ?_,fun h1=>⟨fun h2 hI=> ?_,fun h2=>⟨⟨by omega,?_⟩,fun h3 hI=> ?_,fun h3=>⟨⟨by omega,?_,by omega⟩,fun hI=>⟨_,s54 _ H,parse_use,fun x4 n5 H6 hS i7 H8 g7 p8 H9 p9 hI9=> ?_⟩⟩⟩⟩⟩
 ·have:mayT s=3:=by unfold mayT;rw [if_pos (by simp at h1;omega)]
  rw [this];exact .mk hI.pres
 ·have:mayT s=0:=by unfold mayT;rw [if_neg (by simp at h1;omega),if_pos (by simpa using h2)]
  rw [this];exact .mk hI.pres
 ·have h2':s≠[]:=by simpa using h2
  have:=List.length_pos_iff.2 h2';omega
 ·have:mayT s=0:=by unfold mayT;rw [if_neg (by simp at h1;omega),if_neg (by simpa using h2),if_pos (by simpa using h3)]
  rw [this];exact .mk hI.pres
 ·have h2':s≠[]:=by simpa using h2
  have:=List.length_pos_iff.2 h2';omega
 ·have:mayT s=parseE (subStr s 1 (s.length:Int)):=by unfold mayT;rw [if_neg (by simp at h1;omega),if_neg (by simpa using h2),if_neg (by simpa using h3)]
  obtain ⟨_,rfl⟩:=parse_e hS;rw [this];exact .mk hI9.pres
theorem s117(b:Bool)(e:Int)(H:LHeap):CallL cfg 117 [.bool b,.int .i64 e] H (Ret (.int .i64 (if b then 0 else e)) H):=by
 refine e117t _ b e H ⟨fun h hI=> ?_,fun h hI=> ?_⟩
 ·rw [h];exact .mk hI.pres
 ·rw [h];exact .mk hI.pres
theorem s178(r c:Int)(h:insideC r c=true)(H:LHeap):CallL cfg 178 [.int .i64 r,.int .i64 c] H (Ret (.int .i64 (r*27+c)) H):=by
 have h1:1<=r/\r<=64/\1<=c/\c<=26:=by simpa [insideC] using h
 refine e178t _ r c H fun hI=> ?_;rw [lwrap_small (n:=r*27) (by omega) (by omega),lwrap_small (by omega) (by omega)];exact .mk hI.pres
def idxS(n:List UInt8):ShL->Nat->Int
 |[],_=> -1
 |x::l,i=>if x.1.name==n then i else idxS n l (i+1)
theorem idxS_neg{n:List UInt8}:∀{l:ShL} {i:Nat},idxS n l i= -1↔∀x∈l,(x.1.name==n)=false
 |[],i=>by simp [idxS]
 |x::l,i=>by
  unfold idxS;by_cases h:(x.1.name==n)=true
  ·rw [if_pos h];simp at h;simp [h]
  ·rw [if_neg h,idxS_neg];simp at h;simp [h]
theorem idxS_at{n:List UInt8}:∀{l:ShL} {i:Nat},idxS n l i≠-1->∃j x,l[j]? =some x/\x.1.name=n/\idxS n l i=((i+j:Nat):Int)/\∀y∈l.take j,y.1.name≠n
 |[],i,h=>absurd rfl h
 |x::l,i,h=>by
  unfold idxS at h |-;by_cases hp:(x.1.name==n)=true
  ·rw [if_pos hp] at h |-;exact ⟨0,x,rfl,by simpa using hp,rfl,fun y hy=>by simp at hy⟩
  ·rw [if_neg hp] at h |-;obtain ⟨j,y,h1,h2,h3,h4⟩:=idxS_at h;refine ⟨j+1,y,by simpa using h1,h2,by rw [h3];omega,fun z hz=> ?_⟩;rw [List.take_succ_cons] at hz;rcases List.mem_cons.1 hz with rfl |hz
   ·simpa using hp
   ·exact h4 z hz
theorem loop176(a:Option LAddr)(l:Nat)(c:Cap)(ss:ShL)(n:List UInt8)(p:LAddr)(H0:LHeap)(hN:ShAt H0 a l c ss)(hp:p.id<H0.next)(lp:loadT cfg.P H0 9 p=some (.str n)):
  ∀(m i:Nat),i+m=l->∀(d:Nat->LV) (H:LHeap),GoesT cfg 176 (Ret (.int .i64 (idxS n (ss.drop i) i)) H0) [] H0 [] (L176t_0 d (i:Int) p a l c (l:Int)) (loopAt cfg 176 0) H
 |0,i,hi,d,H=>by
  intro hin hI;refine g176t_0 _ H0 d i p a l c l H ⟨fun h=> ?_,fun h hI=> ?_⟩ hin hI
  ·simp at h;omega
  ·rw [List.drop_eq_nil_of_le (by rw [hN.len];omega)];exact .mk hI.pres
 |m+1,i,hi,d,H=>by
  intro hin hI;have hil:i<ss.length:=by rw [hN.len];omega
  obtain ⟨hs,_,hld⟩:=(hN.on0 hI.pres).at (List.getElem?_eq_getElem hil);have hdrop:ss.drop i=ss[i]::ss.drop (i+1):=List.drop_eq_getElem_cons hil;have hcl:CallL cfg 177 [ss[i].1.lv,.ptr (some p)] H (Ret (.bool (ss[i].1.name==n)) H):=by
   have lp':=hI.pres.load0 hp lp;exact e177t _ ss[i].1 p H fun k H1 _ k1 hI1=>⟨n,k1.load0 (Nat.lt_of_lt_of_le hp hI.pres.next) lp',fun hI2=>.mk hI2.pres⟩
  refine g176t_0 _ H0 d i p a l c l H ⟨fun h=>⟨⟨by omega,by omega,hs⟩,fun _=>⟨ss[i].1,by simpa using hld,fun hI=>⟨_,hcl,Ret.use ⟨_,rfl⟩,fun b H1 ⟨e,p1⟩=>⟨fun hb hI=> ?yes,fun hb d1=> ?no⟩⟩⟩⟩,fun h=> ?ge⟩ hin hI
  case ge=>simp at h;omega
  case yes=>
   cases e;rw [hdrop];unfold idxS;rw [if_pos hb];exact .mk hI.pres
  case no=>
   cases e;rw [hdrop];unfold idxS;rw [hb];have:=hN.small;rw [lwrap_small (by omega) (by omega)];exact loop176 a l c ss n p H0 hN hp lp m (i+1) (by omega) d1 H1
theorem s176(a:Option LAddr)(l:Nat)(c:Cap)(ss:ShL)(n:List UInt8)(p:LAddr)(H:LHeap)(hN:ShAt H a l c ss)(hp:p.id<H.next)(lp:loadT cfg.P H 9 p=some (.str n)):
  CallL cfg 176 [.slice a l c,.func (.func 177) [] [.ptr (some p)]] H (Ret (.int .i64 (idxS n ss 0)) H):=
 e176t _ a l c p H fun d=>loop176 a l c ss n p H hN hp lp l 0 (by omega) d H
structure BkAt (H:LHeap) (b:BookC) (ss:ShL) (nm:List NameC) (lk:List LV):Prop where
 sh:ShAt H b.sheetsA b.sheetsL b.sheetsQ ss
 nm:NmAt H b.namesA b.namesL b.namesQ nm
 lk:firstCellsL H 7 b.linksL (.slice b.linksA b.linksL b.linksQ)=some lk/\lk.length=b.linksL*7/\allCells lk=true/\b.linksL<=1000/\∀ad,b.linksA=some ad->ad.id<H.next
theorem rd_on{H H':LHeap}{size n:Nat}{a:Option LAddr}{q:Cap}{cs:List LV}(h:firstCellsL H size n (.slice a n q)=some cs)(hid:∀ad,a=some ad->ad.id<H.next){X:List Nat}(p:PresX X H H')(hx:∀ad,a=some ad->ad.id∉X):firstCellsL H' size n (.slice a n q)=some cs:=by
 cases a with
 |none=>exact h
 |some ad=>
  simp only [firstCellsL,Nat.ble_eq,Nat.le_refl,if_true] at h |-;exact (p.keep ad.id (hid ad rfl) (hx ad rfl)).loads ad _ _ rfl h
theorem BkAt.on{H H':LHeap}{b:BookC}{ss:ShL}{nm:List NameC}{lk:List LV}(h:BkAt H b ss nm lk){X:List Nat}(p:PresX X H H')(hX:∀i∈X,H.next<=i):BkAt H' b ss nm lk:=by
 have no:∀(i:Nat),i<H.next->i∉X:=fun i hi hm=>by have:=hX i hm;omega
 exact ⟨h.sh.on p (fun ad e=>no _ (h.sh.id ad e)) fun s hs ad e=>no _ ((h.sh.rows s hs).id ad e),h.nm.on p fun ad e=>no _ (h.nm.id ad e),
  rd_on h.lk.1 h.lk.2.2.2.2 p fun ad e=>no _ (h.lk.2.2.2.2 ad e),h.lk.2.1,h.lk.2.2.1,h.lk.2.2.2.1,fun ad e=>Nat.lt_of_lt_of_le (h.lk.2.2.2.2 ad e) p.next⟩
theorem BkAt.on0{H H':LHeap}{b:BookC}{ss:ShL}{nm:List NameC}{lk:List LV}(h:BkAt H b ss nm lk)(p:PresX [] H H'):BkAt H' b ss nm lk:=h.on p fun i hi=>by cases hi
theorem s91(b:BookC)(ss:ShL)(n:List UInt8)(H:LHeap)(hN:ShAt H b.sheetsA b.sheetsL b.sheetsQ ss):CallL cfg 91 [b.lv,.str n] H (Ret (.int .i64 (idxS n ss 0)) H):=by
 refine e91t _ b n H fun i H1 g1 p1 j H2 g2 p2 hI=>⟨_,s176 _ _ _ ss n ⟨j,1,0⟩ H2 (hN.on0 hI.pres) (hI.slot 1 _ rfl).1 (boxed hI (k:=1) rfl rfl (by kernel_rfl)),Ret.use ⟨_,rfl⟩,fun m H3 ⟨e,p⟩ hI=> ?_⟩;cases e;exact .mk hI.pres
def countS(ss:ShL):Nat:=(ss.map fun p=>p.2.length).sum
theorem count_le:∀(ss:ShL),(∀p∈ss,p.2.length<=1000)->countS ss<=ss.length*1000
 |[],_=>Nat.le_refl _
 |p::ss,h=>by
  have h1:=h p (by simp);have h2:=count_le ss fun q hq=>h q (by simp [hq]);simp only [countS,List.map_cons,List.sum_cons,List.length_cons] at h2 |-;omega
theorem count_take{ss:ShL}{i:Nat}(hi:i<ss.length):countS (ss.take (i+1))=countS (ss.take i)+ss[i].2.length:=by
 unfold countS;rw [List.take_succ_eq_append_getElem hi,List.map_append,List.sum_append];simp
theorem loop56(a:Option LAddr)(l:Nat)(c:Cap)(ss:ShL)(H0:LHeap)(hN:ShAt H0 a l c ss):
  ∀(m i:Nat),i+m=l->∀(d:Nat->LV) (H:LHeap),GoesT cfg 56 (Ret (.int .i64 (countS ss)) H0) [] H0 [] (L56t_0 d (i:Int) (countS (ss.take i):Nat) a l c (l:Int)) (loopAt cfg 56 0) H
 |0,i,hi,d,H=>by
  intro hin hI;refine g56t_0 _ H0 d i _ a l c l H ⟨fun h=> ?_,fun h hI=> ?_⟩ hin hI
  ·simp at h;omega
  ·rw [List.take_of_length_le (by rw [hN.len];omega)];exact .mk hI.pres
 |m+1,i,hi,d,H=>by
  intro hin hI;have hil:i<ss.length:=by rw [hN.len];omega
  obtain ⟨hs,_,hld⟩:=(hN.on0 hI.pres).at (List.getElem?_eq_getElem hil);refine g56t_0 _ H0 d i _ a l c l H ⟨fun h=>⟨⟨by omega,by omega,hs⟩,fun _=>⟨ss[i].1,by simpa using hld,fun k H1 gk p1 H2 p2 d12=> ?go⟩⟩,fun h=> ?ge⟩ hin hI
  case ge=>simp at h;omega
  case go=>
   have:=hN.small;have hr:=hN.rows _ (List.getElem_mem hil);have hb:=count_le (ss.take i) fun p hp=>by
    have:=hN.rows p (List.mem_of_mem_take hp);rw [this.len];exact this.small
   rw [List.length_take] at hb;have h1:=hr.small;have hct:=count_take hil;rw [hr.len] at hct;rw [lwrap_small (by omega) (by omega),lwrap_small (by omega) (by omega)];have e:((countS (ss.take i):Nat):Int)+((ss[i].1.cellsL:Nat):Int)=((countS (ss.take (i+1)):Nat):Int):=by omega
   rw [e];exact loop56 a l c ss H0 hN m (i+1) (by omega) d12 H2
theorem s56(b:BookC)(ss:ShL)(H:LHeap)(hN:ShAt H b.sheetsA b.sheetsL b.sheetsQ ss):CallL cfg 56 [b.lv] H (Ret (.int .i64 (countS ss)) H):=
 e56t _ b H fun i H1 g1 p1 d=>loop56 _ _ _ ss H hN b.sheetsL 0 (by omega) d H1
theorem loop57(a:Option LAddr)(l:Nat)(c:Cap)(ks:List CellC)(r k:Int)(H0 H1:LHeap)(hN:KAt H1 a l c ks)(h01:PresX [] H0 H1):
  ∀(m i:Nat),i+m=l->∀(d:Nat->LV) (H:LHeap),PresX [] H1 H->(∀y∈ks.take i,isC r k y=false)->GoesT cfg 57 (Ret (.str (getC r k ks)) H0) [] H0 [] (L57t_0 d (i:Int) r k a l c (l:Int)) (loopAt cfg 57 0) H
 |0,i,hi,d,H,h1H,hno=>by
  intro hin hI;refine g57t_0 _ H0 d i r k a l c l H ⟨fun h=> ?_,fun h hI=> ?_⟩ hin hI
  ·simp at h;omega
  ·rw [List.take_of_length_le (by rw [hN.len];omega)] at hno;rw [get_none hno];exact .mk hI.pres
 |m+1,i,hi,d,H,h1H,hno=>by
  intro hin hI;have hil:i<ks.length:=by rw [hN.len];omega
  have hsm:=hN.small;obtain ⟨hs,_,hld⟩:=(hN.on0 h1H).at (List.getElem?_eq_getElem hil);have hn1:=h1H.next;refine g57t_0 _ H0 d i r k a l c l H ⟨fun h=>⟨⟨by omega,by omega,hs⟩,fun _=>⟨ks[i],by simpa using hld,fun j H2 gj p2 H3 p3=> ?_⟩⟩,fun h=> ?_⟩ hin hI
  ·have p13:PresX [] H H3:=⟨Nat.le_trans p2.next p3.next,fun z hz _=>(p2.keep z hz (by simp)).trans (p3.keep z (Nat.lt_of_lt_of_le hz p2.next) (by simp;omega))⟩;have go:isC r k ks[i]=false->∀d13:Nat->LV,GoesT cfg 57 (Ret (.str (getC r k ks)) H0) [] H0 [] (L57t_0 d13 (lwrap .i64 ((i:Int)+1)) r k a l c (l:Int)) (loopAt cfg 57 0) H3:=fun hf d13=>by
    rw [lwrap_small (by omega) (by omega)];refine loop57 a l c ks r k H0 H1 hN h01 m (i+1) (by omega) d13 H3 (h1H.trans0 p13) fun y hy=> ?_;rw [List.take_succ_eq_append_getElem hil] at hy;rcases List.mem_append.1 hy with hy |hy
    ·exact hno y hy
    ·rw [List.mem_singleton.1 hy];exact hf
   refine ⟨fun hr=>⟨fun hc hI=> ?_,fun hc=>go (by unfold isC;rw [hr,hc];rfl)⟩,fun hr=>go (by unfold isC;rw [hr];rfl)⟩;have hsplit:ks=ks.take i++ks[i]::ks.drop (i+1):=by rw [<-List.drop_eq_getElem_cons hil,List.take_append_drop]
   have:getC r k ks=ks[i].text:=by
    conv=>lhs;rw [hsplit]
    exact get_mid (by unfold isC;rw [hr,hc];rfl) hno
   rw [this];exact .mk hI.pres
  ·simp at h;omega
def getS(ss:ShL)(n:List UInt8)(r k:Int):List UInt8:=match ss.find? (fun p=>p.1.name==n) with
 |some p=>getC r k p.2
 |none=>[]
theorem getS_none{ss:ShL}{n:List UInt8}{r k:Int}(h:idxS n ss 0= -1):getS ss n r k=[]:=by
 unfold getS;rw [List.find?_eq_none.2 fun x hx=>by rw [idxS_neg.1 h x hx];simp]
theorem getS_at:∀{ss:ShL} {n:List UInt8} {r k:Int} {j:Nat} {x:SheetC×List CellC},ss[j]? =some x->x.1.name=n->(∀y∈ss.take j,y.1.name≠n)->getS ss n r k=getC r k x.2
 |[],n,r,k,j,x,h,_,_=>by simp at h
 |y::ss,n,r,k,0,x,h,hp,_=>by
  simp at h;subst h;simp [getS,hp]
 |y::ss,n,r,k,j+1,x,h,hp,ht=>by
  have hy:=ht y (by simp);have:getS (y::ss) n r k=getS ss n r k:=by simp [getS,hy]
  rw [this];exact getS_at (by simpa using h) hp fun z hz=>ht z (by rw [List.take_succ_cons];exact List.mem_cons_of_mem _ hz)
theorem s57(b:BookC)(ss:ShL)(n:List UInt8)(r k:Int)(H:LHeap)(hN:ShAt H b.sheetsA b.sheetsL b.sheetsQ ss):CallL cfg 57 [b.lv,.str n,.int .i64 r,.int .i64 k] H (Ret (.str (getS ss n r k)) H):=by
 refine e57t _ b n r k H fun i H1 g1 p1 hI=>⟨_,s91 b ss n H1 (hN.on0 hI.pres),Ret.use ⟨_,rfl⟩,fun m H2 ⟨e,p⟩=> ?_⟩;cases e;by_cases h0:idxS n ss 0= -1
 ·rw [h0,getS_none h0];exact ⟨fun _ hI=>.mk hI.pres,fun h=>by simp at h⟩
 ·obtain ⟨j,x,h1,h2,h3,h4⟩:=idxS_at h0;rw [h3,Nat.zero_add,getS_at h1 h2 h4];have hN2:=(hN.on0 p1).on0 p;have hj:=(List.getElem?_eq_some_iff.1 h1).1;have hl:=hN.len;refine ⟨fun h=>by rw [decide_eq_true_eq] at h;omega,fun _=>⟨⟨by omega,by omega,(hN2.at h1).1⟩,fun hI2=>⟨_,_,_,by simpa using hN2.field h1,fun d=> ?_⟩⟩⟩;exact loop57 _ _ _ x.2 r k H H2 (hN2.rows x (List.mem_of_getElem? h1)) (p1.trans0 p) x.1.cellsL 0 (by omega) d H2 (.refl _ _) fun y hy=>by simp at hy
def plF:Int->List CellC->Bool
 |_,[]=>true
 |last,x::l=>insideC x.row x.col&&(!(x.text==[])&&(decide (last<keyC x)&&plF (keyC x) l))
theorem plF_iff:∀(l:List CellC) (last:Int),plF last l=true↔CellsOK l/\∀x∈l,last<keyC x
 |[],last=>by
  simp only [plF,true_iff];exact ⟨⟨(fun x h=>by cases h),List.Pairwise.nil⟩,fun x h=>by cases h⟩
 |x::l,last=>by
  unfold plF;simp only [Bool.and_eq_true,plF_iff l,Bool.not_eq_true',beq_eq_false_iff_ne,decide_eq_true_eq];constructor
  ·rintro ⟨h1,h2,h3,h4,h5⟩;refine ⟨⟨fun y hy=> ?_,List.pairwise_cons.2 ⟨h5,h4.srt⟩⟩,fun y hy=> ?_⟩
   ·rcases List.mem_cons.1 hy with rfl |hy
    ·exact ⟨h1,h2⟩
    ·exact h4.ins y hy
   ·rcases List.mem_cons.1 hy with rfl |hy
    ·exact h3
    ·have:=h5 y hy;omega
  ·rintro ⟨h,hl⟩;obtain ⟨h1,h2⟩:=h.ins x (by simp);obtain ⟨h3,h4⟩:=List.pairwise_cons.1 h.srt;exact ⟨h1,h2,hl x (by simp),⟨fun y hy=>h.ins y (by simp [hy]),h4⟩,h3⟩
theorem pl_ok(l:List CellC):plF 0 l=true↔CellsOK l:=by
 rw [plF_iff];refine ⟨fun h=>h.1,fun h=>⟨h,fun x hx=> ?_⟩⟩;have h1:1<=x.row/\x.row<=64/\1<=x.col/\x.col<=26:=by simpa [insideC] using (h.ins x hx).1
 unfold keyC;omega
theorem loop92(a:Option LAddr)(l:Nat)(c:Cap)(ks:List CellC)(H0:LHeap)(hN:KAt H0 a l c ks):
  ∀(m i:Nat),i+m=l->∀(last:Int) (d:Nat->LV) (H:LHeap),GoesT cfg 92 (Ret (.bool (plF last (ks.drop i))) H0) [] H0 [] (L92t_0 d (i:Int) last a l c (l:Int)) (loopAt cfg 92 0) H
 |0,i,hi,last,d,H=>by
  intro hin hI;refine g92t_0 _ H0 d i last a l c l H ⟨fun h=> ?_,fun h hI=> ?_⟩ hin hI
  ·simp at h;omega
  ·rw [List.drop_eq_nil_of_le (by rw [hN.len];omega)];exact .mk hI.pres
 |m+1,i,hi,last,d,H=>by
  intro hin hI;have hil:i<ks.length:=by rw [hN.len];omega
  have hsm:=hN.small;obtain ⟨hs,_,hld⟩:=(hN.on0 hI.pres).at (List.getElem?_eq_getElem hil);have hdrop:ks.drop i=ks[i]::ks.drop (i+1):=List.drop_eq_getElem_cons hil;rw [hdrop];refine g92t_0 _ H0 d i last a l c l H ⟨fun h=>⟨⟨by omega,by omega,hs⟩,fun _=>⟨ks[i],by simpa using hld,fun j H2 gj p2 H3 p3 hI3=>⟨_,s121 _ _ H3,Ret.use ⟨_,rfl⟩,fun b H4 ⟨e,p4⟩=> ?go⟩⟩⟩,fun h=> ?ge⟩ hin hI
  case ge=>simp at h;omega
  case go=>
   cases e;refine ⟨fun h1 hI=> ?_,fun h1=>⟨fun h2 hI=> ?_,fun h2 hI4=> ?_⟩⟩
   ·have:plF last (ks[i]::ks.drop (i+1))=false:=by
     unfold plF;rw [show insideC ks[i].row ks[i].col=false by simpa using h1];rfl
    rw [this];exact .mk hI.pres
   ·have:plF last (ks[i]::ks.drop (i+1))=false:=by
     unfold plF;rw [h2];simp
    rw [this];exact .mk hI.pres
   ·have hin':insideC ks[i].row ks[i].col=true:=by simpa using h1
    refine ⟨_,s178 _ _ hin' H4,Ret.use ⟨_,rfl⟩,fun n16 H17 ⟨e,p17⟩=> ?_⟩;cases e;refine ⟨fun h3 hI=> ?_,fun h3 hI17=>⟨_,s178 _ _ hin' H17,Ret.use ⟨_,rfl⟩,fun n19 H20 ⟨e,p20⟩ d21=> ?_⟩⟩
    ·have:plF last (ks[i]::ks.drop (i+1))=false:=by
      unfold plF;have:¬last<keyC ks[i]:=by unfold keyC;simp at h3;omega
      rw [decide_eq_false this];simp
     rw [this];exact .mk hI.pres
    ·cases e;have:plF last (ks[i]::ks.drop (i+1))=plF (keyC ks[i]) (ks.drop (i+1)):=by
      conv=>lhs;unfold plF
      have:last<keyC ks[i]:=by unfold keyC;simp at h3;omega
      rw [hin',h2,decide_eq_true this];simp
     rw [this,lwrap_small (by omega) (by omega)];exact loop92 a l c ks H0 hN m (i+1) (by omega) _ d21 H20
theorem s92(a:Option LAddr)(l:Nat)(c:Cap)(ks:List CellC)(H:LHeap)(hN:KAt H a l c ks):CallL cfg 92 [.slice a l c] H (Ret (.bool (plF 0 ks)) H):=
 e92t _ a l c H fun d=>loop92 a l c ks H hN l 0 (by omega) 0 d H
noncomputable def txF:List CellC->Int
 |[]=>0
 |x::l=>if mayT x.text≠0 then mayT x.text else txF l
theorem tx_ok:∀(l:List CellC),txF l=0↔∀x∈l,mayT x.text=0
 |[]=>by simp [txF]
 |x::l=>by
  unfold txF;by_cases h:mayT x.text=0
  ·rw [if_neg (by simpa using h),tx_ok l];simp [h]
  ·rw [if_pos h];simp [h]
theorem loop93(a:Option LAddr)(l:Nat)(c:Cap)(ks:List CellC)(H0:LHeap)(hN:KAt H0 a l c ks):
  ∀(m i:Nat),i+m=l->∀(d:Nat->LV) (H:LHeap),GoesT cfg 93 (Ret (.int .i64 (txF (ks.drop i))) H0) [] H0 [] (L93t_0 d (i:Int) a l c (l:Int)) (loopAt cfg 93 0) H
 |0,i,hi,d,H=>by
  intro hin hI;refine g93t_0 _ H0 d i a l c l H ⟨fun h=> ?_,fun h hI=> ?_⟩ hin hI
  ·simp at h;omega
  ·rw [List.drop_eq_nil_of_le (by rw [hN.len];omega)];exact .mk hI.pres
 |m+1,i,hi,d,H=>by
  intro hin hI;have hil:i<ks.length:=by rw [hN.len];omega
  have hsm:=hN.small;obtain ⟨hs,_,hld⟩:=(hN.on0 hI.pres).at (List.getElem?_eq_getElem hil);have hdrop:ks.drop i=ks[i]::ks.drop (i+1):=List.drop_eq_getElem_cons hil;rw [hdrop];refine g93t_0 _ H0 d i a l c l H ⟨fun h=>⟨⟨by omega,by omega,hs⟩,fun _=>⟨ks[i],by simpa using hld,fun j H2 gj p2 H3 p3 hI3=>⟨_,s122 _ H3,Ret.use ⟨_,rfl⟩,fun b H4 ⟨e,p4⟩=> ?go⟩⟩⟩,fun h=> ?ge⟩ hin hI
  case ge=>simp at h;omega
  case go=>
   cases e;refine ⟨fun h1 hI=> ?_,fun h1 d14=> ?_⟩
   ·unfold txF;rw [if_pos (by simpa using h1)];exact .mk hI.pres
   ·unfold txF;rw [if_neg (by simpa using h1),lwrap_small (by omega) (by omega)];exact loop93 a l c ks H0 hN m (i+1) (by omega) d14 H4
theorem s93(a:Option LAddr)(l:Nat)(c:Cap)(ks:List CellC)(H:LHeap)(hN:KAt H a l c ks):CallL cfg 93 [.slice a l c] H (Ret (.int .i64 (txF ks)) H):=
 e93t _ a l c H fun d=>loop93 a l c ks H hN l 0 (by omega) d H
noncomputable def chk(ss:ShL):Nat->Nat->(SheetC×List CellC)->Int
 |0,_,s=>if nameF s.1.name then 0 else 8
 |1,i,s=>if idxS s.1.name ss 0==(i:Int) then 0 else 7
 |2,_,s=>if plF 0 s.2 then 0 else 9
 |_,_,s=>txF s.2
theorem s116(i:Int)(s:SheetC×List CellC)(ss:ShL)(k:Nat)(H:LHeap):CallL cfg 116 [.int .i64 i,s.1.lv] H (Ret (.int .i64 (chk ss 0 k s)) H):=by
 refine e116t _ i s.1 H fun j H1 g1 p1 hI=>⟨_,s90 _ H1,Ret.use ⟨_,rfl⟩,fun b H2 ⟨e,p2⟩ hI2=> ?_⟩;cases e;refine ⟨_,s117 _ _ H2,Ret.use ⟨_,rfl⟩,fun n H3 ⟨e,p3⟩ hI3=> ?_⟩;cases e;exact .mk hI3.pres
theorem s118(i:Nat)(s:SheetC×List CellC)(b:BookC)(ss:ShL)(p:LAddr)(H:LHeap)(hN:ShAt H b.sheetsA b.sheetsL b.sheetsQ ss)(hp:p.id<H.next)(lp:loadT cfg.P H 48 p=some b.lv):CallL cfg 118 [.int .i64 (i:Int),s.1.lv,.ptr (some p)] H (Ret (.int .i64 (chk ss 1 i s)) H):=by
 refine e118t _ i s.1 p H fun j H1 g1 p1 hI=>⟨b,p1.load0 hp lp,fun hI1=>⟨_,s91 b ss _ H1 (hN.on0 p1),Ret.use ⟨_,rfl⟩,fun n H2 ⟨e,p2⟩ hI2=> ?_⟩⟩;cases e;refine ⟨_,s117 _ _ H2,Ret.use ⟨_,rfl⟩,fun n H3 ⟨e,p3⟩ hI3=> ?_⟩;cases e;exact .mk hI3.pres
theorem s119(i:Int)(s:SheetC×List CellC)(ss:ShL)(k:Nat)(H:LHeap)(hK:KAt H s.1.cellsA s.1.cellsL s.1.cellsQ s.2):CallL cfg 119 [.int .i64 i,s.1.lv] H (Ret (.int .i64 (chk ss 2 k s)) H):=by
 refine e119t _ i s.1 H fun j H1 g1 p1 hI=>⟨_,s92 _ _ _ s.2 H1 (hK.on0 p1),Ret.use ⟨_,rfl⟩,fun b H2 ⟨e,p2⟩ hI2=> ?_⟩;cases e;refine ⟨_,s117 _ _ H2,Ret.use ⟨_,rfl⟩,fun n H3 ⟨e,p3⟩ hI3=> ?_⟩;cases e;exact .mk hI3.pres
theorem s120(i:Int)(s:SheetC×List CellC)(ss:ShL)(k:Nat)(H:LHeap)(hK:KAt H s.1.cellsA s.1.cellsL s.1.cellsQ s.2):CallL cfg 120 [.int .i64 i,s.1.lv] H (Ret (.int .i64 (chk ss 3 k s)) H):=by
 refine e120t _ i s.1 H fun j H1 g1 p1 hI=>⟨_,s93 _ _ _ s.2 H1 (hK.on0 p1),Ret.use ⟨_,rfl⟩,fun b H2 ⟨e,p2⟩ hI2=> ?_⟩;cases e;exact .mk hI2.pres
def PassK(ss:ShL)(k:Nat):Prop:=∀(i:Nat) (s:SheetC×List CellC),ss[i]? =some s->chk ss k i s=0
structure BookOK (ss:ShL):Prop where
 some:1<=ss.length/\ss.length<=4
 pass:PassK ss 0/\PassK ss 1/\PassK ss 2/\PassK ss 3
 count:countS ss<=200
def ChkS(ss:ShL)(H:LHeap):LV->LHeap->Prop:=fun v H'=>PresX [] H H'/\∃e:Int,v=.int .i64 e/\(e=0↔BookOK ss)
theorem chk_no{ss:ShL}{k i:Nat}{s:SheetC×List CellC}{H H':LHeap}(hk:k<4)(hs:ss[i]? =some s)(h:chk ss k i s≠0)(p:PresX [] H H'):ChkS ss H (.int .i64 (chk ss k i s)) H':=by
 refine ⟨p,_,rfl,fun e=>absurd e h,fun hb=> ?_⟩;obtain ⟨h0,h1,h2,h3⟩:=hb.pass;rcases k with _ |_ |_ |_ |k
 ·exact h0 i s hs
 ·exact h1 i s hs
 ·exact h2 i s hs
 ·exact h3 i s hs
 ·omega
theorem boxedB{X:List Nat}{H0 H:LHeap}{kn:List Slot}(h:Inv X H0 kn H){k i:Nat}{x:BookC}(hs:nth kn k=some ⟨i,x.cs,48⟩):loadT cfg.P H 48 ⟨i,3,0⟩=some x.lv:=by
 obtain ⟨_,h2,_⟩:=h.slot k _ hs;refine load_agg (n:=3) (by kernel_rfl) (by kernel_rfl) ?_;unfold loadN;rw [h2];rfl
theorem loop55d(b:BookC)(ss:ShL)(H0:LHeap)(hN:ShAt H0 b.sheetsA b.sheetsL b.sheetsQ ss)(h14:1<=b.sheetsL/\b.sheetsL<=4)(j:Nat)(q0:PassK ss 0)(q1:PassK ss 1)(q2:PassK ss 2):
  ∀(m i:Nat),i+m=b.sheetsL->∀(d:Nat->LV) (H:LHeap),(∀(j:Nat) (s:SheetC×List CellC),ss[j]? =some s->j<i->chk ss 3 j s=0)->GoesT cfg 55 (ChkS ss H0) [] H0 [⟨j,b.cs,48⟩] (L55t_1v3 d (i:Int) b.sheetsA b.sheetsL b.sheetsQ j (b.sheetsL:Int)) (loopAt cfg 55 1) H
 |0,i,hi,d,H,hpass=>by
  intro hin hI;have hl:=hN.len;refine g55t_1v3 _ H0 d i b.sheetsA b.sheetsL b.sheetsQ j b.sheetsL j b H ⟨fun h=> ?_,fun h hI=>⟨_,s56 b ss H (hN.on0 hI.pres),Ret.use ⟨_,rfl⟩,fun n H2 ⟨e,p2⟩ hI2=> ?_⟩⟩ hin hI
  ·simp at h;omega
  ·cases e;refine ⟨_,s117 _ _ H2,Ret.use ⟨_,rfl⟩,fun n H3 ⟨e,p3⟩ hI3=> ?_⟩;cases e;refine ⟨hI3.pres,_,rfl,?_⟩;have q3:PassK ss 3:=fun j s hs=>hpass j s hs (by have:=(List.getElem?_eq_some_iff.1 hs).1;omega);by_cases hc:countS ss<=200
   ·have:((countS ss:Nat):Int)<=200:=by omega
    simp only [this,decide_true,if_true,true_iff];exact ⟨⟨by omega,by omega⟩,⟨q0,q1,q2,q3⟩,hc⟩
   ·have:¬((countS ss:Nat):Int)<=200:=by omega
    simp only [this,decide_false,Bool.false_eq_true,if_false];refine ⟨fun h=>by omega,fun h=>absurd h.count hc⟩
 |m+1,i,hi,d,H,hpass=>by
  intro hin hI;have hl:=hN.len;have hil:i<ss.length:=by omega
  obtain ⟨hs,_,hld⟩:=(hN.on0 hI.pres).at (List.getElem?_eq_getElem hil);refine g55t_1v3 _ H0 d i b.sheetsA b.sheetsL b.sheetsQ j b.sheetsL j b H ⟨fun h=>⟨⟨by omega,by omega,hs⟩,fun _=>⟨ss[i].1,by simpa using hld,fun k H1 gk p1 H3 p2 hI3=> ?go⟩⟩,fun h=> ?ge⟩ hin hI
  case ge=>simp at h;omega
  case go=>
   have hN3:ShAt H3 b.sheetsA b.sheetsL b.sheetsQ ss:=hN.on0 hI3.pres;refine ⟨_,s120 i ss[i] ss i H3 (hN3.rows _ (List.getElem_mem hil)),Ret.use ⟨_,rfl⟩,fun n H4 ⟨e,p4⟩=> ?_⟩;cases e;refine ⟨fun h1 hI=>chk_no (by decide) (List.getElem?_eq_getElem hil) (by simpa using h1) hI.pres,fun h1 d'=> ?_⟩;rw [lwrap_small (by omega) (by omega)];refine loop55d b ss H0 hN h14 j q0 q1 q2 m (i+1) (by omega) d' H4 fun j' s hs hlt=> ?_;by_cases hji:j'=i
   ·subst hji;rw [List.getElem?_eq_getElem hil] at hs;cases hs;simpa using h1
   ·exact hpass j' s hs (by omega)
theorem loop55c(b:BookC)(ss:ShL)(H0:LHeap)(hN:ShAt H0 b.sheetsA b.sheetsL b.sheetsQ ss)(h14:1<=b.sheetsL/\b.sheetsL<=4)(j:Nat)(q0:PassK ss 0)(q1:PassK ss 1):
  ∀(m i:Nat),i+m=b.sheetsL->∀(d:Nat->LV) (H:LHeap),(∀(j:Nat) (s:SheetC×List CellC),ss[j]? =some s->j<i->chk ss 2 j s=0)->GoesT cfg 55 (ChkS ss H0) [] H0 [⟨j,b.cs,48⟩] (L55t_1v2 d (i:Int) b.sheetsA b.sheetsL b.sheetsQ j (b.sheetsL:Int)) (loopAt cfg 55 1) H
 |0,i,hi,d,H,hpass=>by
  intro hin hI;have hl:=hN.len;refine g55t_1v2 _ H0 d i b.sheetsA b.sheetsL b.sheetsQ j b.sheetsL j b H ⟨fun h=> ?_,fun h d'=> ?_⟩ hin hI
  ·simp at h;omega
  ·have q2:PassK ss 2:=fun j s hs=>hpass j s hs (by have:=(List.getElem?_eq_some_iff.1 hs).1;omega);exact loop55d b ss H0 hN h14 j q0 q1 q2 b.sheetsL 0 (by omega) d' H (fun j s _ h=>by omega)
 |m+1,i,hi,d,H,hpass=>by
  intro hin hI;have hl:=hN.len;have hil:i<ss.length:=by omega
  obtain ⟨hs,_,hld⟩:=(hN.on0 hI.pres).at (List.getElem?_eq_getElem hil);refine g55t_1v2 _ H0 d i b.sheetsA b.sheetsL b.sheetsQ j b.sheetsL j b H ⟨fun h=>⟨⟨by omega,by omega,hs⟩,fun _=>⟨ss[i].1,by simpa using hld,fun k H1 gk p1 H3 p2 hI3=> ?go⟩⟩,fun h=> ?ge⟩ hin hI
  case ge=>simp at h;omega
  case go=>
   have hN3:ShAt H3 b.sheetsA b.sheetsL b.sheetsQ ss:=hN.on0 hI3.pres;refine ⟨_,s119 i ss[i] ss i H3 (hN3.rows _ (List.getElem_mem hil)),Ret.use ⟨_,rfl⟩,fun n H4 ⟨e,p4⟩=> ?_⟩;cases e;refine ⟨fun h1 hI=>chk_no (by decide) (List.getElem?_eq_getElem hil) (by simpa using h1) hI.pres,fun h1 d'=> ?_⟩;rw [lwrap_small (by omega) (by omega)];refine loop55c b ss H0 hN h14 j q0 q1 m (i+1) (by omega) d' H4 fun j' s hs hlt=> ?_;by_cases hji:j'=i
   ·subst hji;rw [List.getElem?_eq_getElem hil] at hs;cases hs;simpa using h1
   ·exact hpass j' s hs (by omega)
theorem loop55b(b:BookC)(ss:ShL)(H0:LHeap)(hN:ShAt H0 b.sheetsA b.sheetsL b.sheetsQ ss)(h14:1<=b.sheetsL/\b.sheetsL<=4)(j:Nat)(q0:PassK ss 0):
  ∀(m i:Nat),i+m=b.sheetsL->∀(d:Nat->LV) (H:LHeap),(∀(j:Nat) (s:SheetC×List CellC),ss[j]? =some s->j<i->chk ss 1 j s=0)->GoesT cfg 55 (ChkS ss H0) [] H0 [⟨j,b.cs,48⟩] (L55t_1v1 d (i:Int) j b.sheetsA b.sheetsL b.sheetsQ j (b.sheetsL:Int)) (loopAt cfg 55 1) H
 |0,i,hi,d,H,hpass=>by
  intro hin hI;have hl:=hN.len;refine g55t_1v1 _ H0 d i j b.sheetsA b.sheetsL b.sheetsQ j b.sheetsL j b H ⟨fun h=> ?_,fun h d'=> ?_⟩ hin hI
  ·simp at h;omega
  ·have q1:PassK ss 1:=fun j s hs=>hpass j s hs (by have:=(List.getElem?_eq_some_iff.1 hs).1;omega);exact loop55c b ss H0 hN h14 j q0 q1 b.sheetsL 0 (by omega) d' H (fun j s _ h=>by omega)
 |m+1,i,hi,d,H,hpass=>by
  intro hin hI;have hl:=hN.len;have hil:i<ss.length:=by omega
  obtain ⟨hs,_,hld⟩:=(hN.on0 hI.pres).at (List.getElem?_eq_getElem hil);refine g55t_1v1 _ H0 d i j b.sheetsA b.sheetsL b.sheetsQ j b.sheetsL j b H ⟨fun h=>⟨⟨by omega,by omega,hs⟩,fun _=>⟨ss[i].1,by simpa using hld,fun k H1 gk p1 H3 p2 hI3=> ?go⟩⟩,fun h=> ?ge⟩ hin hI
  case ge=>simp at h;omega
  case go=>
   have hN3:ShAt H3 b.sheetsA b.sheetsL b.sheetsQ ss:=hN.on0 hI3.pres;refine ⟨_,s118 i ss[i] b ss ⟨j,3,0⟩ H3 hN3 (hI3.slot 0 _ rfl).1 (boxedB hI3 (k:=0) rfl),Ret.use ⟨_,rfl⟩,fun n H4 ⟨e,p4⟩=> ?_⟩;cases e;refine ⟨fun h1 hI=>chk_no (by decide) (List.getElem?_eq_getElem hil) (by simpa using h1) hI.pres,fun h1 d'=> ?_⟩;rw [lwrap_small (by omega) (by omega)];refine loop55b b ss H0 hN h14 j q0 m (i+1) (by omega) d' H4 fun j' s hs hlt=> ?_;by_cases hji:j'=i
   ·subst hji;rw [List.getElem?_eq_getElem hil] at hs;cases hs;simpa using h1
   ·exact hpass j' s hs (by omega)
theorem loop55a(b:BookC)(ss:ShL)(H0:LHeap)(hN:ShAt H0 b.sheetsA b.sheetsL b.sheetsQ ss)(h14:1<=b.sheetsL/\b.sheetsL<=4)(j:Nat):
  ∀(m i:Nat),i+m=b.sheetsL->∀(d:Nat->LV) (H:LHeap),(∀(j:Nat) (s:SheetC×List CellC),ss[j]? =some s->j<i->chk ss 0 j s=0)->GoesT cfg 55 (ChkS ss H0) [] H0 [⟨j,b.cs,48⟩] (L55t_1 d (i:Int) b.sheetsA b.sheetsL b.sheetsQ j (b.sheetsL:Int)) (loopAt cfg 55 1) H
 |0,i,hi,d,H,hpass=>by
  intro hin hI;have hl:=hN.len;refine g55t_1 _ H0 d i b.sheetsA b.sheetsL b.sheetsQ j b.sheetsL j b H ⟨fun h=> ?_,fun h d'=> ?_⟩ hin hI
  ·simp at h;omega
  ·have q0:PassK ss 0:=fun j s hs=>hpass j s hs (by have:=(List.getElem?_eq_some_iff.1 hs).1;omega);exact loop55b b ss H0 hN h14 j q0 b.sheetsL 0 (by omega) d' H (fun j s _ h=>by omega)
 |m+1,i,hi,d,H,hpass=>by
  intro hin hI;have hl:=hN.len;have hil:i<ss.length:=by omega
  obtain ⟨hs,_,hld⟩:=(hN.on0 hI.pres).at (List.getElem?_eq_getElem hil);refine g55t_1 _ H0 d i b.sheetsA b.sheetsL b.sheetsQ j b.sheetsL j b H ⟨fun h=>⟨⟨by omega,by omega,hs⟩,fun _=>⟨ss[i].1,by simpa using hld,fun k H1 gk p1 H3 p2 hI3=> ?go⟩⟩,fun h=> ?ge⟩ hin hI
  case ge=>simp at h;omega
  case go=>
   have hN3:ShAt H3 b.sheetsA b.sheetsL b.sheetsQ ss:=hN.on0 hI3.pres;refine ⟨_,s116 i ss[i] ss i H3,Ret.use ⟨_,rfl⟩,fun n H4 ⟨e,p4⟩=> ?_⟩;cases e;refine ⟨fun h1 hI=>chk_no (by decide) (List.getElem?_eq_getElem hil) (by simpa using h1) hI.pres,fun h1 d'=> ?_⟩;rw [lwrap_small (by omega) (by omega)];refine loop55a b ss H0 hN h14 j m (i+1) (by omega) d' H4 fun j' s hs hlt=> ?_;by_cases hji:j'=i
   ·subst hji;rw [List.getElem?_eq_getElem hil] at hs;cases hs;simpa using h1
   ·exact hpass j' s hs (by omega)
theorem s55(b:BookC)(ss:ShL)(H:LHeap)(hN:ShAt H b.sheetsA b.sheetsL b.sheetsQ ss):CallL cfg 55 [b.lv] H (ChkS ss H):=by
 have hl:=hN.len;refine e55t _ b H fun i H1 g1 p1=>⟨fun h hI=> ?_,fun h=>⟨fun h2 hI=> ?_,fun h2 d=> ?_⟩⟩
 ·refine ⟨hI.pres,15,rfl,(fun e=>by cases e),fun hb=> ?_⟩;have:=hb.some.1;simp at h;omega
 ·refine ⟨hI.pres,15,rfl,(fun e=>by cases e),fun hb=> ?_⟩;have:=hb.some.2;simp at h2;omega
 ·simp at h h2;exact loop55a b ss H hN (by omega) i b.sheetsL 0 (by omega) d H1 fun j s _ h=>by omega
end Go.Proofs.YtjihhflffkoffaaGreatDoor.Z
