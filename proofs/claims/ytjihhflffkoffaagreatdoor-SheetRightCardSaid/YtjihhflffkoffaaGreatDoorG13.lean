/- Contracts of functions of the program; no condition. -/
import Derived.Test.YtjihhflffkoffaaGreatDoorG11
import Derived.Test.YtjihhflffkoffaaGreatDoorG12
set_option linter.unusedSimpArgs false
set_option linter.unusedVariables false
set_option linter.unusedSectionVars false
set_option linter.unnecessarySimpa false
namespace Go.Proofs.YtjihhflffkoffaaGreatDoor.Z
open Go Go.Lm
set_option maxRecDepth 1000000
set_option maxHeartbeats 0
def RowW(H:LHeap)(a:Option LAddr)(n:Nat)(q:Cap)(ks:List CellC):Prop:=
 (n=0/\ks=[]/\q=.exact 0/\RowAt H 149 3 a 0 (.exact 0) [])\/∃ad C,a=some ad/\q=.free 3/\ad.off=0/\ks.length=n/\WAt H ad 149 [] (cellsK ks) C
theorem RowW.k{H:LHeap}{a:Option LAddr}{n:Nat}{q:Cap}{ks:List CellC}(h:RowW H a n q ks)(hs:n<=1000):KAt H a n q ks:=by
 rcases h with ⟨rfl,rfl,rfl,hr⟩ |⟨ad,C,rfl,rfl,ho,hl,hW⟩
 ·exact row_cellsK hr (by decide)
 ·refine ⟨hl,hs,?_,fun z e=>by cases e;exact hW.lt⟩;simp only [firstCellsL,Nat.ble_eq,Nat.le_refl,if_true];have:=hW.load
  rwa [cellsK_len,hl] at this
theorem RowW.len{H:LHeap}{a:Option LAddr}{n:Nat}{q:Cap}{ks:List CellC}(h:RowW H a n q ks):ks.length=n:=by
 rcases h with ⟨rfl,rfl,_⟩ |⟨_,_,_,_,_,hl,_⟩
 ·rfl
 ·exact hl
theorem RowW.id{H:LHeap}{a:Option LAddr}{n:Nat}{q:Cap}{ks:List CellC}(h:RowW H a n q ks):∀ad,a=some ad->ad.id<H.next:=by
 rcases h with ⟨_,_,_,hr⟩ |⟨ad,C,rfl,_,_,_,hW⟩
 ·intro ad e;subst e;exact hr.id
 ·intro z e;cases e;exact hW.lt
theorem RowW.on{H H':LHeap}{a:Option LAddr}{n:Nat}{q:Cap}{ks:List CellC}(h:RowW H a n q ks){X:List Nat}(p:PresX X H H')(hx:∀ad,a=some ad->ad.id∉X):RowW H' a n q ks:=by
 rcases h with ⟨h1,h2,h3,hr⟩ |⟨ad,C,rfl,h1,h2,h3,hW⟩
 ·exact .inl ⟨h1,h2,h3,hr.on p.next (fun ad e=>p.keep _ (by subst e;exact hr.id) (hx ad e)) fun ad e h=>by cases h⟩
 ·exact .inr ⟨ad,C,rfl,h1,h2,h3,hW.on p (hx ad rfl)⟩
theorem row_w{H:LHeap}{a:Option LAddr}{n:Nat}{q:Cap}{ks:List CellC}(h:RowAt H 149 3 a n q (cellsK ks))(h0:n=0->q=.exact 0)(hf:0<n->q=.free 3):RowW H a n q ks:=by
 have hl:=h.len;rw [cellsK_len] at hl;rcases Nat.eq_zero_or_pos n with hz |hp
 ·obtain rfl:=h0 hz;subst hz;have:ks=[]:=List.eq_nil_of_length_eq_zero (by omega);subst this;exact .inl ⟨rfl,rfl,rfl,h⟩
 ·obtain rfl:=hf hp;obtain ⟨ad,rfl,ho,hv,hW⟩:=h.wat;exact .inr ⟨ad,[],rfl,rfl,ho,by omega,hW⟩
theorem s124(x:CellC)(r c:Int)(p q:LAddr)(H:LHeap)(lp:∀H1,PresX [] H H1->loadT cfg.P H1 3 p=some (.int .i64 r))(lq:∀H1,PresX [] H H1->loadT cfg.P H1 3 q=some (.int .i64 c)):
  CallL cfg 124 [x.lv,.ptr (some p),.ptr (some q)] H (Ret (.bool (isC r c x)) H):=by
 refine e124t _ x p q H fun i H1 _ k1 hI=>⟨r,lp H1 k1,fun h hI=>⟨c,lq H1 k1,fun hI=> ?_⟩,fun h hI=> ?_⟩
 ·have:isC r c x=(x.col==c):=by unfold isC;rw [h,Bool.true_and]
  rw [this];exact .mk hI.pres
 ·have:isC r c x=false:=by unfold isC;rw [h,Bool.false_and]
  rw [this];exact .mk hI.pres
theorem s126(x:CellC)(r c:Int)(p q:LAddr)(H:LHeap)(lp:∀H1,PresX [] H H1->loadT cfg.P H1 3 p=some (.int .i64 r))(lq:∀H1,PresX [] H H1->loadT cfg.P H1 3 q=some (.int .i64 c)):
  CallL cfg 126 [x.lv,.ptr (some p),.ptr (some q)] H (Ret (.bool (aftC r c x)) H):=by
 refine e126t _ x p q H fun i H1 _ k1 hI=>⟨r,lp H1 k1,fun h hI=> ?_,fun h hI=>⟨r,lp H1 k1,fun h2 hI=>⟨c,lq H1 k1,fun hI=> ?_⟩,fun h2 hI=> ?_⟩⟩
 ·have:aftC r c x=true:=by unfold aftC;rw [h,Bool.true_or]
  rw [this];exact .mk hI.pres
 ·have:aftC r c x=decide (x.col>c):=by unfold aftC;rw [h,h2,Bool.true_and,Bool.false_or]
  rw [this];exact .mk hI.pres
 ·have:aftC r c x=false:=by unfold aftC;rw [h,h2];rfl
  rw [this];exact .mk hI.pres
theorem s123n(a:Option LAddr)(n:Nat)(qq:Cap)(nm:List CellC)(P:CellC->Bool)(p q:LAddr)(H:LHeap)(hN:KAt H a n qq nm)(hno:∀y∈nm,P y=false)
  (hcl:∀(y:CellC) (H':LHeap),PresX [] H H'->CallL cfg 124 [y.lv,.ptr (some p),.ptr (some q)] H' (Ret (.bool (P y)) H')):
  CallL cfg 123 [.slice a n qq,.func (.func 124) [] [.ptr (some p),.ptr (some q)]] H (Ret (.slice a n qq) H):=by
 refine e123b _ [] a n qq p q H fun hI=>⟨_,s125b a n qq nm P p q H hN hcl,Ret.use ⟨_,rfl⟩,fun i H2 ⟨e,p2⟩=> ?_⟩;cases e;rw [idxK_neg.2 hno];exact ⟨fun _ hI2=>.mk hI2.pres,fun h=>by simp at h⟩
def DelG(a:Option LAddr)(q:Cap)(ks:List CellC)(r c:Int)(H:LHeap):LV->LHeap->Prop:=fun v H'=>
 PresX (idO a) H H'/\v=.slice a (keepK (isC r c) ks).length q/\RowW H' a (keepK (isC r c) ks).length q (keepK (isC r c) ks)
theorem s123g(a:Option LAddr)(n:Nat)(qq:Cap)(ks:List CellC)(r c:Int)(p q:LAddr)(H:LHeap)(hR:RowW H a n qq ks)(hs:n<=1000)(lp:∀H1,PresX (idO a) H H1->loadT cfg.P H1 3 p=some (.int .i64 r))(lq:∀H1,PresX (idO a) H H1->loadT cfg.P H1 3 q=some (.int .i64 c)):
  CallL cfg 123 [.slice a n qq,.func (.func 124) [] [.ptr (some p),.ptr (some q)]] H (DelG a qq ks r c H):=by
 have hl:=hR.len;rcases hR with ⟨rfl,rfl,rfl,hr⟩ |⟨ad,C,rfl,rfl,ho,_,hW⟩
 ·refine (s123n a 0 (.exact 0) [] (isC r c) p q H (RowW.k (.inl ⟨rfl,rfl,rfl,hr⟩) hs) (fun y h=>by cases h) fun y H' k=>s124 y r c p q H' (fun H1 k1=>lp H1 ((k.trans0 k1).mono (by simp))) fun H1 k1=>lq H1 ((k.trans0 k1).mono (by simp))).mono fun v H' ⟨e,k⟩=>⟨k.mono (by simp),e,?_⟩;exact .inl ⟨rfl,rfl,rfl,hr.on k.next (fun ad e=>k.keep _ (by subst e;exact hr.id) (by simp)) fun ad e h=>by cases h⟩
 ·have hid:idO (some ad)=[ad.id]:=rfl;rw [hid] at lp lq;have hlen:=hW.len;simp only [List.nil_append,List.length_append,cellsK_len,hl] at hlen;refine (s123b ad n (.free 3) ks (isC r c) p q [] C H hl hs (.inr ⟨rfl,by omega⟩) hW fun y H' k=>s124 y r c p q H' (fun H1 k1=>lp H1 (k.trans0 k1)) fun H1 k1=>lq H1 (k.trans0 k1)).mono fun v H' ⟨k,e,C',hC⟩=>⟨k,e,.inr ⟨ad,C'++C,rfl,rfl,ho,rfl,?_⟩⟩;have he:∀z:List LV,[]++(cellsK (keepK (isC r c) ks)++C'++z)=[]++(cellsK (keepK (isC r c) ks)++(C'++z)):=fun z=>by simp only [List.append_assoc]
  obtain ⟨m,h1,h2⟩:=hC.get;exact ⟨⟨m,by rw [<-he];exact h1,h2⟩,hC.off,by rw [<-he];exact hC.len,hC.lt,by rw [<-he];exact hC.all⟩
def InsGK(a:Option LAddr)(n:Nat)(l:List CellC)(H:LHeap):LV->LHeap->Prop:=fun v H'=>PresX (idO a) H H'/\∃ad q,v=.slice (some ad) n q/\KAt H' (some ad) n q l/\(ad.id∈idO a\/H.next<=ad.id)
theorem slice_00K(a:Option LAddr):sliceL cfg.P 49 (.slice a 0 (.exact 0)) (some (.int .i64 (0:Int))) none none=some (.slice a 0 (.exact 0)):=by
 unfold sliceL;simp only [u49,z149];rfl
theorem s127g(a:Option LAddr)(b:LAddr)(n i:Nat)(q:Cap)(ks:List CellC)(x:CellC)(H:LHeap)(hR:RowW H a n q ks)(hsm:n<1000)(hi:i<=n)
  (hb:loadN H b 3=some x.cs) (hbl:b.id<H.next) (hbne:∀ad,a=some ad->b.id≠ad.id) (hbo:∃cs e v m wh,H.get b.id=some (.cells cs e v m .none false wh)/\m<=b.ver):
  CallL cfg 127 [.slice a n q,.int .i64 i,.slice (some b) 1 (.exact 1)] H (InsGK a (n+1) (insC ks i x) H):=by
 have hn:=hR.len;rcases hR with ⟨rfl,rfl,rfl,hR⟩ |⟨ad,C,rfl,rfl,ho,_,hW⟩
 ·obtain rfl:i=0:=by omega
  refine e127e _ (idO a) a 0 0 0 b H ⟨a,0,.exact 0,slice_00K a,fun _ hI=> ?_,fun h=>by simp at h⟩;obtain ⟨Y,a',q',H',h1,h2,h3,h4,h5,h6⟩:=hR.append2 rowT149 (x:=.slice (some b) 1 (.exact 1)) (m:=1) (new:=x.cs) rfl hb rfl rfl (by omega);obtain rfl:=h6 (by decide);obtain ⟨ad,rfl,ho,hv,hw⟩:=h3.wat;have hY:∀i∈Y,i∈idO a:=fun i hi=>by
   obtain ⟨ad',rfl,rfl⟩:=h4 i hi;simp [idO]
  refine ⟨Y,some ad,1,.free 3,H',⟨h1,h2,fun i hi=>⟨.inl (hY i hi),fun k s hs=>by simp [nth] at hs⟩⟩,fun hI2=>⟨hI2.pres,ad,.free 3,rfl,row_cellsK (l:=[x]) (by rw [cellsK_one];exact h3) (by decide),?_⟩⟩;rcases h5 ad rfl with ⟨ad',rfl,e''⟩ |hge
  ·exact .inl (by simp [idO,e''])
  ·exact .inr hge
 ·obtain ⟨mv,hg,hm⟩:=hW.get;rw [List.nil_append] at hg;have hlen:(cellsK ks).length=n*3:=by rw [cellsK_len,hn]
  have hver:=hW.len;rw [List.nil_append,List.length_append,hlen] at hver;have hall:=hW.all;rw [List.nil_append] at hall;refine CallL.learn 0 (a:=ad) (n:=n) (sz:=3) rfl (by decide) hg fun c hc1 hc2=> ?_;have hp2:PresX [ad.id] H (H.put ad.id (.cells (cellsK ks++C++List.replicate (ad.off+c*3-ad.ver) .junk) 149 (ad.off+c*3) mv .none false false)):=.put _ _ _;have hne:=hbne ad rfl;have hW2:WAt (H.put ad.id (.cells (cellsK ks++C++List.replicate (ad.off+c*3-ad.ver) .junk) 149 (ad.off+c*3) mv .none false false)) ⟨ad.id,ad.off+c*3,ad.off⟩ 149 [] (cellsK ks) (C++List.replicate (ad.off+c*3-ad.ver) .junk):=by
   refine ⟨⟨mv,by simp [LHeap.get_put,List.append_assoc],by simp only;omega⟩,by simp [ho],?_,by simpa using hW.lt,?_⟩
   ·simp only [List.nil_append,List.length_append,hlen,List.length_replicate];omega
   ·rw [List.nil_append,<-List.append_assoc];refine allCells_app hall ?_;rw [allCells_iff];intro v hv;rw [List.eq_of_mem_replicate hv];rfl
  have hkb:=hp2.keep b.id hbl (by simpa using hne);obtain ⟨cs',e',v',m',wh',gb,gm⟩:=hbo;refine (s127x ⟨ad.id,ad.off+c*3,ad.off⟩ b n c i ks x _ _ hW2 (by rw [List.length_append,List.length_replicate];omega) hn (by omega) hc1 hi (hkb.loads b 3 _ rfl hb) (by simpa using hbl) hne ⟨cs',e',v',m',wh',by rw [hkb.get];exact gb,gm⟩).mono fun v H' ⟨g1,ad',q',B,g2,g3,g4,g5⟩=>⟨hp2.trans g1 fun i hi=>.inl hi,ad',q',g2,?_,?_⟩
  ·have hil:(insC ks i x).length=n+1:=by unfold insC;rw [List.length_append,List.length_cons,List.length_take,List.length_drop];omega
   refine ⟨hil,by omega,?_,fun z e=>by cases e;exact g3.lt⟩;simp only [firstCellsL,Nat.ble_eq,Nat.le_refl,if_true];have:=g3.load;rw [cellsK_len] at this;unfold insC at hil |-
   rwa [hil] at this
  ·rcases g5 with g5 |g5
   ·exact .inl (by simp [idO,g5])
   ·exact .inr (by simpa using g5)
theorem rowT152:RowT cfg.P 46 152 7 80:=⟨by kernel_rfl,by kernel_rfl,by decide,by kernel_rfl,by kernel_rfl,by kernel_rfl,⟨(⟨[],[],0,0,0,0,[]⟩:LinkC).lv,by kernel_rfl,rfl⟩⟩
theorem s179(a:Option LAddr)(l:Nat)(c:Cap)(lk:List LV)(H:LHeap)(h:firstCellsL H 7 l (.slice a l c)=some lk)(hll:lk.length=l*7)(hall:allCells lk=true)(hs:l<=1000)(hid:∀ad,a=some ad->ad.id<H.next):
  CallL cfg 179 [.slice a l c] H (fun v H'=>PresX [] H H'/\∃a' q',v=.slice a' l q'/\firstCellsL H' 7 l (.slice a' l q')=some lk/\(∀ad,a'=some ad->H.next<=ad.id/\ad.id<H'.next)):=by
 refine e179t _ a l c H ⟨fun h0 hI=> ?_,fun h0 H4 e4 hI=> ?_⟩
 ·cases a with
  |some a=>cases h0
  |none=>
   have h':=h;simp only [firstCellsL] at h';split at h'
   ·rename_i hn;have hz:=Nat.eq_of_beq_eq_true hn;subst hz;exact ⟨hI.pres,none,.exact 0,rfl,h,fun ad e=>by cases e⟩
   ·cases h'
 ·have hp4:PresX [] H H4:=hI.pres;have hrow0:RowAt H4 152 7 (some ⟨H.next,0,0⟩) 0 (.exact 0) []:=by
   refine .full _ 0 [] (by rw [e4];exact Nat.lt_succ_self _) ?_ rfl rfl;unfold loadN;rw [e4,LHeap.get_push,if_pos rfl];rfl
  have hc:=rd_on h hid hp4 fun _ _=>by simp
  by_cases hl0:l=0
  ·subst hl0;have:lk=[]:=List.eq_nil_of_length_eq_zero (by omega);subst this;refine ⟨[],_,0,_,H4,⟨app_nilN rowT152 rfl hc,.refl _ _,fun i hi=>by cases hi⟩,fun hI2=>⟨hI2.pres,_,_,rfl,hrow0.loadAll,fun ad e=> ?_⟩⟩;cases e;exact ⟨Nat.le_refl _,hrow0.id⟩
  obtain ⟨Y,a',q',H',h1,h2,h3,h4,h5,h6⟩:=hrow0.append2 rowT152 (x:=.slice a l c) (m:=l) (new:=lk) rfl hc hll hall (by omega);rw [Nat.zero_add] at h1 h3;rw [List.nil_append] at h3;refine ⟨Y,a',l,q',H',⟨h1,h2,fun i hi=> ?_⟩,fun hI2=>⟨hI2.pres,a',q',rfl,h3.loadAll,fun ad e=> ?_⟩⟩
  ·obtain ⟨ad,e,rfl⟩:=h4 i hi;cases e;exact ⟨.inr (Nat.le_refl _),fun k s hs=>by simp [nth] at hs⟩
  ·subst e;refine ⟨?_,h3.id⟩;rcases h5 ad rfl with ⟨ad',e',e''⟩ |hge
   ·cases e';rw [<-e''];exact Nat.le_refl _
   ·exact Nat.le_trans hp4.next hge
theorem u45:cfg.P.underlying 45=some (.slice 142):=by kernel_rfl
theorem z142:sizeOfT cfg.P 142=some 2:=by kernel_rfl
theorem e45:elemOfSlice cfg.P 45=some 142:=by kernel_rfl
def nilSheet:SheetC:=⟨[],none,0,.exact 0⟩
theorem zero142:zeroOf cfg.P 142=some nilSheet.lv:=by kernel_rfl
def zerosS(k:Nat):List LV:=repl k nilSheet.lv.cells []
theorem zerosS_eq(k:Nat):zerosS k=cellsS (List.replicate k (nilSheet,[])):=by
 unfold zerosS;rw [repl_eq,List.append_nil];unfold cellsS;rw [List.flatMap_replicate];rfl
theorem makeSlice_op{C:Cfg}{ρ:Operand->LV}{H H':LHeap}{t e:TypeId}{l c:Operand}{n m k by_:Nat}{z:LV}{a:LAddr}{k1 k2:IntKind}{dst:Option Tmp}{ty:TypeId}{pos:String}{af:Array Edge}{gd:Option (Nat×Bool)}
  (he:elemOfSlice C.P t=some e) (hs:sizeOfT C.P e=some (k+1)) (hb:bytesOfT C.P e=some by_) (hz:zeroOf C.P e=some z) (hl:ρ l=.int k1 (n:Nat)) (hc:ρ c=.int k2 (m:Nat)) (h1:n<=m) (h2:m*(by_+1)<=140737488355328)
  (hr:Go.Lm.newRow H e (repl m z.cells []) true=some (a,H')) (hzl:z.cells.length=k+1):
  opL C ρ H ⟨dst,.makeSlice t l c,ty,pos,af,gd⟩=some [(.value (.slice (some a) n (.exact m)),H')]:=by
 unfold opL;simp only [he,hl,hc,hs,hb,hz];rw [if_pos (by simp only [Bool.and_eq_true,Nat.ble_eq];exact ⟨h1,h2⟩)];simp only [hr];rw [if_pos (by rw [hzl];exact Nat.beq_refl _)]
theorem watS_elem{wh:Bool}{H:LHeap}{ad:LAddr}{A B:List LV}{cur:ShL}(h:WAtW wh H ad 142 A (cellsS cur) B){j:Nat}{x:SheetC×List CellC}(hx:cur[j]? =some x):loadT cfg.P H 142 ⟨ad.id,ad.ver,ad.off+j*2⟩=some x.1.lv:=by
 obtain ⟨h1,h2⟩:=cellsS_split hx;rw [h1] at h;have:=h.loadAt;rw [h2] at this;exact load_agg (by kernel_rfl) (by kernel_rfl) this
theorem watS_field{wh:Bool}{H:LHeap}{ad:LAddr}{A B:List LV}{cur:ShL}(h:WAtW wh H ad 142 A (cellsS cur) B){j:Nat}{x:SheetC×List CellC}(hx:cur[j]? =some x):loadT cfg.P H 49 ⟨ad.id,ad.ver,ad.off+j*2+1⟩=some (.slice x.1.cellsA x.1.cellsL x.1.cellsQ):=
 load_field (t:=142) (n:=2) (k:=1) (by kernel_rfl) (by kernel_rfl) (watS_elem h hx) (by kernel_rfl) rfl
theorem setS_cells{cur:ShL}{i:Nat}(hi:i<cur.length)(x:SheetC×List CellC):cellsS (cur.set i x)=cellsS (cur.take i)++(x.1.cs++cellsS (cur.drop (i+1))):=by
 rw [List.set_eq_take_append_cons_drop,if_pos hi,cellsS_app,<-List.singleton_append,cellsS_app,cellsS_one]
theorem storeS{wh:Bool}{H:LHeap}{ad:LAddr}{A B:List LV}{cur:ShL}(h:WAtW wh H ad 142 A (cellsS cur) B){j:Nat}{x:SheetC×List CellC}(hx:cur[j]? =some x)(a:Option LAddr)(l:Nat)(q:Cap)(ks:List CellC):
  ∃H',storeT cfg.P H 49 ⟨ad.id,ad.ver,ad.off+j*2+1⟩ (.slice a l q)=some H'/\WAtW wh H' ad 142 A (cellsS (cur.set j (⟨x.1.name,a,l,q⟩,ks))) B/\PresX [ad.id] H H':=by
 have hj:=(List.getElem?_eq_some_iff.1 hx).1;obtain ⟨h1,h2⟩:=cellsS_split hx;have hc:cellsS cur=(cellsS (cur.take j)++[.str x.1.name])++([.slice x.1.cellsA x.1.cellsL x.1.cellsQ]++cellsS (cur.drop (j+1))):=by
  rw [h1];simp [SheetC.cs]
 rw [hc] at h;obtain ⟨H',g1,g2,g3⟩:=h.putAt (V:=[.slice a l q]) rfl rfl;refine ⟨H',?_,?_,g3⟩
 ·unfold storeT;rw [show sizeOfT cfg.P 49=some 1 by kernel_rfl];rw [List.length_append,h2] at g1;exact g1
 ·rw [setS_cells hj];have:(cellsS (cur.take j)++[LV.str x.1.name])++([LV.slice a l q]++cellsS (cur.drop (j+1)))=cellsS (cur.take j)++((⟨x.1.name,a,l,q⟩:SheetC).cs++cellsS (cur.drop (j+1))):=by simp [SheetC.cs]
  rw [<-this];exact g2
structure NewSh (N sid:Nat) (H:LHeap) (cur ss:ShL) (i:Nat):Prop where
 len:cur.length=ss.length
 same:∀(j:Nat) (s t:SheetC×List CellC),cur[j]? =some s->ss[j]? =some t->s.1.name=t.1.name/\s.2=t.2
 old:∀j,i<=j->cur[j]? =ss[j]?
 row:∀(j:Nat) (s:SheetC×List CellC),cur[j]? =some s->j<i->RowW H s.1.cellsA s.1.cellsL s.1.cellsQ s.2/\∀ad,s.1.cellsA=some ad->N<=ad.id/\ad.id≠sid
 apart:∀(j k:Nat) (s t:SheetC×List CellC),cur[j]? =some s->cur[k]? =some t->j<k->k<i->∀x y,s.1.cellsA=some x->t.1.cellsA=some y->x.id≠y.id
theorem NewSh.on{N sid:Nat}{H H':LHeap}{cur ss:ShL}{i:Nat}(h:NewSh N sid H cur ss i){X:List Nat}(p:PresX X H H')(hX:∀(j:Nat) (s:SheetC×List CellC),cur[j]? =some s->j<i->∀ad,s.1.cellsA=some ad->ad.id∉X):NewSh N sid H' cur ss i:=
 ⟨h.len,h.same,h.old,fun j s hs hj=>⟨(h.row j s hs hj).1.on p (hX j s hs hj),(h.row j s hs hj).2⟩,h.apart⟩
def FarS(N sid:Nat)(cur:ShL)(a:Option LAddr):Prop:=∀ad,a=some ad->N<=ad.id/\ad.id≠sid/\∀(j:Nat) (s:SheetC×List CellC) (x:LAddr),cur[j]? =some s->s.1.cellsA=some x->x.id≠ad.id
def CopyS(b:BookC)(ss:ShL)(nm:List NameC)(lk:List LV)(H:LHeap):LV->LHeap->Prop:=fun v H'=>PresX [] H H'/\∃(b':BookC) (cur:ShL) (sad:LAddr),v=b'.lv/\b'.sheetsL=b.sheetsL/\b'.sheetsA=some sad/\b'.sheetsQ=.exact b.sheetsL/\H.next<=sad.id/\WAtW true H' sad 142 [] (cellsS cur) []/\
 NewSh H.next sad.id H' cur ss ss.length/\(NmAt H' b'.namesA b'.namesL b'.namesQ nm/\FarS H.next sad.id cur b'.namesA)/\(b'.linksL=b.linksL/\firstCellsL H' 7 b'.linksL (.slice b'.linksA b'.linksL b'.linksQ)=some lk/\(∀ad,b'.linksA=some ad->ad.id<H'.next)/\FarS H.next sad.id cur b'.linksA)
theorem NewSh.mono{N M sid:Nat}{H:LHeap}{cur ss:ShL}{i:Nat}(h:NewSh N sid H cur ss i)(hM:M<=N):NewSh M sid H cur ss i:=
 ⟨h.len,h.same,h.old,fun j s hs hj=>⟨(h.row j s hs hj).1,fun ad e=>⟨Nat.le_trans hM ((h.row j s hs hj).2 ad e).1,((h.row j s hs hj).2 ad e).2⟩⟩,h.apart⟩
theorem loop94(b:BookC)(ss:ShL)(nm:List NameC)(lk:List LV)(H0:LHeap)(hN:BkAt H0 b ss nm lk)(sad:LAddr)(N:Nat)(h0:H0.next<=N)(hsN:N<=sad.id)(i5 i7:Nat)(x8:BookC)(h5:i5<N)(h7:i7<N):
  ∀(m i:Nat),i+m=b.sheetsL->∀(d:Nat->LV) (H:LHeap) (cur:ShL),WAtW true H sad 142 [] (cellsS cur) []->NewSh N sad.id H cur ss i->
   GoesT cfg 94 (CopyS b ss nm lk H0) [] H0 [⟨i5,b.cs,48⟩,⟨i7,x8.cs,48⟩] (L94t_0 d (i:Int) (some sad) b.sheetsL (.exact b.sheetsL) (b.sheetsL:Int)) (loopAt cfg 94 0) H
 |0,i,hi,d,H,cur,hW,hS=>by
  intro hin hI;have hl:=hN.sh.len;have hBH:=hN.on0 hI.pres;refine g94t_0 _ H0 d i (some sad) _ _ _ i5 b i7 x8 H ⟨fun h=> ?_,fun h=>⟨rfl,fun hI1=>⟨_,s82 _ _ _ nm H hBH.nm,clone_use,fun a24 l25 c26 H27 hC=>⟨rfl,fun hI27=>⟨_,s179 _ _ _ lk H27 (hN.on0 hI27.pres).lk.1 hN.lk.2.1 hN.lk.2.2.1 hN.lk.2.2.2.1 (hN.on0 hI27.pres).lk.2.2.2.2,fun v H' ⟨p,a',q',e,_⟩=>⟨p,by rw [e];exact ⟨_,_,_,rfl⟩⟩,fun a30 l31 c32 H33 hL H35 p35 hI35=> ?_⟩⟩⟩⟩⟩ hin hI
  ·simp at h;omega
  ·obtain ⟨p27,a',q',e,hrow,hid,_,_⟩:=hC;cases e;obtain ⟨p33,a'',q'',e,hlk,hlid⟩:=hL;cases e;have p2733:PresX [] H H33:=p27.trans0 p33;have p35':PresX [i7] H H35:=⟨Nat.le_trans p2733.next p35.next,fun z hz hx=>(p2733.keep z hz (by simp)).trans (p35.keep z (Nat.lt_of_lt_of_le hz p2733.next) hx)⟩;have hrows:∀(j:Nat) (s:SheetC×List CellC),cur[j]? =some s->∀x,s.1.cellsA=some x->x.id<H.next/\N<=x.id:=fun j s hs x hx=>by
    have hjl:=(List.getElem?_eq_some_iff.1 hs).1;rw [hS.len] at hjl;have hr:=hS.row j s hs (by omega);exact ⟨hr.1.id x hx,(hr.2 x hx).1⟩
   have hsl:=hW.lt;have hn27:=p27.next;have hnm:NmAt H35 a24 b.namesL c26 nm:=((row_cells hrow hN.nm.small).on0 p33).on p35 fun ad e=>by have:=hid ad e;have:=hW.lt;simp;omega
   have hi:i=ss.length:=by omega
   refine ⟨hI35.pres,⟨some sad,b.sheetsL,.exact b.sheetsL,a24,b.namesL,c26,a30,b.linksL,c32⟩,cur,sad,rfl,rfl,rfl,rfl,by omega,hW.on p35' (by simp;omega),?_,⟨hnm,fun ad e=>⟨by have:=hid ad e;have:=hI.pres.next;omega,?_,fun j s x hs hx=> ?_⟩⟩,rfl,?_,fun ad e=> ?_,fun ad e=>⟨by have:=(hlid ad e).1;have:=hI.pres.next;omega,?_,fun j s x hs hx=> ?_⟩⟩
   ·subst hi;exact (hS.on p35' fun j s hs hj ad e=>by have:=hrows j s hs ad e;simp;omega).mono h0
   ·have:=hid ad e;omega
   ·have:=hid ad e;have:=hrows j s hs x hx;omega
   ·exact rd_on hlk (fun ad e=>(hlid ad e).2) p35 fun ad e=>by have:=(hlid ad e).1;simp;omega
   ·exact Nat.lt_of_lt_of_le (hlid ad e).2 p35.next
   ·have:=(hlid ad e).1;omega
   ·have:=(hlid ad e).1;have:=hrows j s hs x hx;omega
 |m+1,i,hi,d,H,cur,hW,hS=>by
  intro hin hI;have hl:=hN.sh.len;have hil:i<cur.length:=by rw [hS.len];omega
  have hils:i<ss.length:=by omega
  have hci:cur[i]? =some ss[i]:=by rw [hS.old i (Nat.le_refl _),List.getElem?_eq_getElem hils]
  have hK:KAt H ss[i].1.cellsA ss[i].1.cellsL ss[i].1.cellsQ ss[i].2:=(hN.sh.rows _ (List.getElem_mem hils)).on0 hI.pres;have hsm:=hN.sh.small;have hf:=watS_field hW hci;refine g94t_0 _ H0 d i (some sad) _ _ _ i5 b i7 x8 H ⟨fun h=>⟨⟨by omega,by omega,rfl⟩,fun _=>⟨_,_,_,by simpa [adr] using hf,fun hI1=>⟨_,s96 _ _ _ ss[i].2 H hK,clone_useK,fun a15 l16 c17 H18 hC=>⟨⟨by omega,by omega,rfl⟩,fun hI18=> ?go⟩⟩⟩⟩,fun h=> ?ge⟩ hin hI
  case ge=>simp at h;omega
  case go=>
   obtain ⟨p18,a',q',e,hrow,hid,hf',h0'⟩:=hC;cases e;obtain ⟨H20,g1,g2,g3⟩:=storeS (hW.on p18 (by simp)) hci a15 ss[i].1.cellsL c17 ss[i].2;have hsl:=hW.lt;have hn0:=hI.pres.next;refine ⟨H20,⟨by simpa [adr] using g1,.inr (by simp only [adr];omega),fun k s hs=> ?_⟩,fun d21=> ?_⟩
   ·rcases k with _ |_ |k
    ·cases hs;show i5≠sad.id;omega
    ·cases hs;show i7≠sad.id;omega
    ·simp [nth] at hs
   ·rw [lwrap_small (by omega) (by omega)];refine loop94 b ss nm lk H0 hN sad N h0 hsN i5 i7 x8 h5 h7 m (i+1) (by omega) d21 H20 _ g2 ?_;have hget:∀(j:Nat) (s:SheetC×List CellC),(cur.set i (⟨ss[i].1.name,a15,ss[i].1.cellsL,c17⟩,ss[i].2))[j]? =some s->(j=i/\s=(⟨ss[i].1.name,a15,ss[i].1.cellsL,c17⟩,ss[i].2))\/(j≠i/\cur[j]? =some s):=fun j s hs=>by
     rw [List.getElem?_set] at hs;by_cases e:i=j
     ·rw [if_pos e,if_pos (by omega)] at hs;exact .inl ⟨e.symm,(Option.some.inj hs).symm⟩
     ·rw [if_neg e] at hs;exact .inr ⟨fun h=>e h.symm,hs⟩
    have hp:PresX [sad.id] H H20:=⟨Nat.le_trans p18.next g3.next,fun z hz hx=>(p18.keep z hz (by simp)).trans (g3.keep z (Nat.lt_of_lt_of_le hz p18.next) hx)⟩;have hnew:RowW H20 a15 ss[i].1.cellsL c17 ss[i].2:=(row_w hrow h0' hf').on g3 fun ad e=>by have:=hid ad e;simp;omega
    refine ⟨by rw [List.length_set];exact hS.len,fun j s t hs ht=> ?_,fun j hj=> ?_,fun j s hs hj=> ?_,fun j k s t hs ht hjk hk x y hx hy=> ?_⟩
    ·rcases hget j s hs with ⟨rfl,rfl⟩ |⟨_,hs'⟩
     ·rw [List.getElem?_eq_getElem hils] at ht;cases ht;exact ⟨rfl,rfl⟩
     ·exact hS.same j s t hs' ht
    ·rw [List.getElem?_set,if_neg (by omega)];exact hS.old j (by omega)
    ·rcases hget j s hs with ⟨rfl,rfl⟩ |⟨hne,hs'⟩
     ·exact ⟨hnew,fun ad e=>by have:=hid ad e;omega⟩
     ·have hr:=hS.row j s hs' (by omega);exact ⟨hr.1.on hp fun ad e=>by have:=(hr.2 ad e).2;simpa using this,hr.2⟩
    ·rcases hget k t ht with ⟨rfl,rfl⟩ |⟨hne,ht'⟩
     ·rcases hget j s hs with ⟨rfl,rfl⟩ |⟨_,hs'⟩
      ·omega
      ·have h1:=(hS.row j s hs' hjk).1.id x hx;have h2:=hid y hy;omega
     ·rcases hget j s hs with ⟨rfl,rfl⟩ |⟨_,hs'⟩
      ·omega
      ·exact hS.apart j k s t hs' ht' hjk (by omega) x y hx hy
theorem copy_use{b:BookC}{ss:ShL}{nm:List NameC}{lk:List LV}{H:LHeap}:∀v H',CopyS b ss nm lk H v H'->PresX [] H H'/\hasSh (.cust BookC BookC.lv) v:=fun v H' ⟨p,b',_,_,e,_⟩=>⟨p,by rw [e];exact ⟨_,rfl⟩⟩
theorem s94(b:BookC)(ss:ShL)(nm:List NameC)(lk:List LV)(H:LHeap)(hN:BkAt H b ss nm lk):CallL cfg 94 [b.lv] H (CopyS b ss nm lk H):=by
 have hl:=hN.sh.len;have hsm:=hN.sh.small;refine e94t _ b H fun i1 H2 g2 p2 i3 H4 g4 p4 hI4=> ?_;have hz:zerosS b.sheetsL=cellsS (List.replicate b.sheetsL (nilSheet,[])):=zerosS_eq _;have hzl:(zerosS b.sheetsL).length=b.sheetsL*2:=by rw [hz,cellsS_len,List.length_replicate]
 have hza:allCells (zerosS b.sheetsL)=true:=by rw [hz];exact cellsS_all _
 have h1:=(hI4.slot 0 _ rfl).1;have h3:=(hI4.slot 1 _ rfl).1;simp only at h1 h3;have hW8:WAtW true (H4.push (.cells (zerosS b.sheetsL) 142 (zerosS b.sheetsL).length (zerosS b.sheetsL).length .none false true)) ⟨H4.next,b.sheetsL*2,0⟩ 142 [] (zerosS b.sheetsL) []:=by
  refine ⟨⟨b.sheetsL*2,?_,Nat.le_refl _⟩,rfl,by simp [hzl],Nat.lt_succ_self _,by simpa using hza⟩;rw [LHeap.get_push,if_pos rfl,List.nil_append,List.append_nil,hzl]
 have hP8:PresX [] H4 (H4.push (.cells (zerosS b.sheetsL) 142 (zerosS b.sheetsL).length (zerosS b.sheetsL).length .none false true)):=.push _ _ _;have hr8:Go.Lm.newRow H4 142 (repl b.sheetsL nilSheet.lv.cells []) true=some (⟨H4.next,b.sheetsL*2,0⟩,H4.push (.cells (zerosS b.sheetsL) 142 (zerosS b.sheetsL).length (zerosS b.sheetsL).length .none false true)):=by
  show Go.Lm.newRow H4 142 (zerosS b.sheetsL) true=_;unfold Go.Lm.newRow;rw [if_pos hza,hzl]
 generalize H4.push (.cells (zerosS b.sheetsL) 142 (zerosS b.sheetsL).length (zerosS b.sheetsL).length .none false true)=H8 at hW8 hP8 hr8;refine ⟨some ⟨H4.next,b.sheetsL*2,0⟩,b.sheetsL,.exact b.sheetsL,[],H8,⟨makeSlice_op (e:=142) (k:=1) (by_:=40) (z:=nilSheet.lv) (k1:=.i64) (k2:=.i64) e45 z142 (by kernel_rfl) zero142 rfl rfl (Nat.le_refl _) (by omega) hr8 rfl,hP8,fun i hi=>by cases hi⟩,fun hI8=> ?_⟩;have hc8:=(hN.on0 hI8.pres).sh.cells;obtain ⟨H10,k1,k2,k3⟩:=hW8.put (V:=cellsS ss) (by rw [cellsS_len,hl,hzl]) (cellsS_all _);have hn4:=hI4.pres.next;refine ⟨(b.sheetsL:Nat),[H4.next],H10,⟨opB_copy (copyL_of e45 z142 rfl (Nat.min_self _) hc8 k1),k3,fun i hi=>⟨.inr (by rw [List.mem_singleton.1 hi];exact hn4),fun k s hs=> ?_⟩⟩,fun d11=> ?_⟩
 ·rw [List.mem_singleton.1 hi];rcases k with _ |_ |k
  ·cases hs;show i1≠H4.next;omega
  ·cases hs;show i3≠H4.next;omega
  ·simp [nth] at hs
 ·exact loop94 b ss nm lk H hN ⟨H4.next,b.sheetsL*2,0⟩ H4.next hn4 (Nat.le_refl _) i1 i3 ⟨none,0,.exact 0,none,0,.exact 0,none,0,.exact 0⟩ h1 h3 b.sheetsL 0 (by omega) d11 H10 ss k2
   ⟨rfl,fun j s t hs ht=>by rw [hs] at ht;cases ht;exact ⟨rfl,rfl⟩,fun _ _=>rfl,fun j s _ h=>by omega,fun j k s t _ _ _ h=>by omega⟩
abbrev AB:=List (List UInt8×List CellC)
def absS(ss:ShL):AB:=ss.map fun p=>(p.1.name,p.2)
def getA(m:AB)(n:List UInt8)(r k:Int):List UInt8:=match m.find? (fun p=>p.1==n) with
 |some p=>getC r k p.2
 |none=>[]
def countA(m:AB):Nat:=(m.map fun p=>p.2.length).sum
theorem get_abs(ss:ShL)(n:List UInt8)(r k:Int):getS ss n r k=getA (absS ss) n r k:=by
 unfold getS getA absS;rw [List.find?_map];cases h:ss.find? (fun p=>p.1.name==n) with
 |none=>
  have:(ss.find? ((fun p:List UInt8×List CellC=>p.1==n)∘fun p:SheetC×List CellC=>(p.1.name,p.2)))=none:=h;rw [this];rfl
 |some x=>
  have:(ss.find? ((fun p:List UInt8×List CellC=>p.1==n)∘fun p:SheetC×List CellC=>(p.1.name,p.2)))=some x:=h;rw [this];rfl
theorem count_abs(ss:ShL):countS ss=countA (absS ss):=by
 unfold countS countA absS;rw [List.map_map];rfl
theorem countA_app(A B:AB):countA (A++B)=countA A+countA B:=by
 unfold countA;rw [List.map_append,List.sum_append]
theorem countA_cons(p:List UInt8×List CellC)(B:AB):countA (p::B)=p.2.length+countA B:=by
 unfold countA;rw [List.map_cons,List.sum_cons]
structure Nice (m:AB):Prop where
 len:1<=m.length/\m.length<=4
 each:∀p∈m,nameF p.1=true/\CellsOK p.2/\∀x∈p.2,mayT x.text=0
 nod:m.Pairwise fun p q=>p.1≠q.1
 cnt:countA m<=200
theorem pass_mem{ss:ShL}{k:Nat}{P:SheetC×List CellC->Prop}(h:∀i s,chk ss k i s=0↔P s):PassK ss k↔∀s∈ss,P s:=by
 constructor
 ·intro hp s hs;obtain ⟨i,hi⟩:=List.getElem?_of_mem hs;exact (h i s).1 (hp i s hi)
 ·intro hp i s hs;exact (h i s).2 (hp s (List.mem_of_getElem? hs))
theorem ok_iff(ss:ShL):BookOK ss↔Nice (absS ss):=by
 have h0:PassK ss 0↔∀s∈ss,nameF s.1.name=true:=pass_mem fun i s=>by
  unfold chk;cases h:nameF s.1.name<;>simp [h]
 have h2:PassK ss 2↔∀s∈ss,CellsOK s.2:=pass_mem fun i s=>by
  rw [<-pl_ok];unfold chk;cases h:plF 0 s.2<;>simp [h]
 have h3:PassK ss 3↔∀s∈ss,∀x∈s.2,mayT x.text=0:=pass_mem fun i s=>by
  rw [<-tx_ok];unfold chk;rfl
 have h1:PassK ss 1↔ss.Pairwise fun p q=>p.1.name≠q.1.name:=by
  have hc:∀i s,chk ss 1 i s=0↔idxS s.1.name ss 0=(i:Int):=fun i s=>by
   unfold chk;by_cases e:idxS s.1.name ss 0=(i:Int)
   ·simp [e]
   ·simp [e]
  rw [List.pairwise_iff_getElem];constructor
  ·intro hp i j hi hj hij e;have a:=(hc i _).1 (hp i _ (List.getElem?_eq_getElem hi));have b:=(hc j _).1 (hp j _ (List.getElem?_eq_getElem hj));rw [e] at a;omega
  ·intro hp i s hs;rw [hc];have hn:idxS s.1.name ss 0≠-1:=fun e=>by have:=idxS_neg.1 e s (List.mem_of_getElem? hs);simp at this
   obtain ⟨j,x,g1,g2,g3,g4⟩:=idxS_at hn;obtain ⟨hi,ei⟩:=List.getElem?_eq_some_iff.1 hs;obtain ⟨hj,ej⟩:=List.getElem?_eq_some_iff.1 g1;rw [g3,Nat.zero_add];rcases Nat.lt_trichotomy i j with h |h |h
   ·exact absurd (by rw [ei,ej,g2]) (hp i j hi hj h)
   ·rw [h]
   ·exact absurd (by rw [ei,ej,g2]) (hp j i hj hi h)
 constructor
 ·rintro ⟨a,⟨p0,p1,p2,p3⟩,c⟩;refine ⟨by unfold absS;rw [List.length_map];exact a,fun p hp=> ?_,?_,by rw [<-count_abs];exact c⟩
  ·obtain ⟨s,hs,rfl⟩:=List.mem_map.1 hp;exact ⟨h0.1 p0 s hs,h2.1 p2 s hs,h3.1 p3 s hs⟩
  ·exact List.pairwise_map.2 (h1.1 p1)
 ·rintro ⟨a,e,n,c⟩;unfold absS at a;rw [List.length_map] at a;refine ⟨a,⟨h0.2 fun s hs=>(e _ (List.mem_map_of_mem hs)).1,h1.2 (by have:=List.pairwise_map.1 n;exact this),h2.2 fun s hs=>(e _ (List.mem_map_of_mem hs)).2.1,h3.2 fun s hs=>(e _ (List.mem_map_of_mem hs)).2.2⟩,by rw [count_abs];exact c⟩
theorem nice_put{A B:AB}{p p':List UInt8×List CellC}(h:Nice (A++p::B))(hn:p'.1=p.1)(hc:CellsOK p'.2)(hm:∀x∈p'.2,mayT x.text=0)(hl:countA (A++p'::B)<=200):Nice (A++p'::B):=by
 refine ⟨by simpa using h.len,fun q hq=> ?_,?_,hl⟩
 ·rcases List.mem_append.1 hq with hq |hq
  ·exact h.each q (by simp [hq])
  ·rcases List.mem_cons.1 hq with rfl |hq
   ·exact ⟨by rw [hn];exact (h.each p (by simp)).1,hc,hm⟩
   ·exact h.each q (by simp [hq])
 ·have:=h.nod;rw [List.pairwise_append,List.pairwise_cons] at this |-;obtain ⟨a,⟨b,c⟩,d⟩:=this;refine ⟨a,⟨fun q hq=>by rw [hn];exact b q hq,c⟩,fun x hx y hy=> ?_⟩;rcases List.mem_cons.1 hy with rfl |hy
  ·rw [hn];exact d x hx p (by simp)
  ·exact d x hx y (by simp [hy])
theorem nice_drop{A B:AB}{p:List UInt8×List CellC}(h:Nice (A++p::B))(h1:(A++p::B).length≠1):Nice (A++B):=by
 have hl:=h.len;have hc:=h.cnt;rw [countA_app,countA_cons] at hc;simp only [List.length_append,List.length_cons] at hl h1;refine ⟨by rw [List.length_append];omega,fun q hq=>h.each q ?_,?_,by rw [countA_app];omega⟩
 ·rcases List.mem_append.1 hq with hq |hq<;>simp [hq]
 ·exact List.Pairwise.sublist (List.Sublist.append_left (List.sublist_cons_self p B) A) h.nod
theorem nice_add{A B:AB}{n:List UInt8}(h:Nice (A++B))(h4:(A++B).length<4)(hn:nameF n=true)(hno:∀q∈A++B,q.1≠n):Nice (A++(n,[])::B):=by
 have hl:=h.len;have hc:=h.cnt;rw [countA_app] at hc;simp only [List.length_append] at hl h4;refine ⟨by simp only [List.length_append,List.length_cons];omega,fun q hq=> ?_,?_,by rw [countA_app,countA_cons];simpa using hc⟩
 ·rcases List.mem_append.1 hq with hq |hq
  ·exact h.each q (by simp [hq])
  ·rcases List.mem_cons.1 hq with rfl |hq
   ·exact ⟨hn,⟨(fun x hx=>by cases hx),List.Pairwise.nil⟩,fun x hx=>by cases hx⟩
   ·exact h.each q (by simp [hq])
 ·have:=h.nod;rw [List.pairwise_append] at this;obtain ⟨a,b,c⟩:=this;rw [List.pairwise_append,List.pairwise_cons];refine ⟨a,⟨fun q hq=>fun e=>hno q (by simp [hq]) e.symm,b⟩,fun x hx y hy=> ?_⟩;rcases List.mem_cons.1 hy with rfl |hy
  ·exact hno x (by simp [hx])
  ·exact c x hx y hy
theorem put_law{A B:AB}{n t:List UInt8}{r k:Int}{ks:List CellC}(h:Nice (A++(n,ks)::B))(hi:insideC r k=true)(ht:mayT t=0)(hg:t≠[]->getC r k ks=[]->countA (A++(n,ks)::B)<200):
  Nice (A++(n,putC ks ⟨r,k,t⟩)::B)/\getC r k (putC ks ⟨r,k,t⟩)=t/\
   countA (A++(n,putC ks ⟨r,k,t⟩)::B)+(if getC r k ks=[] then 0 else 1)=countA (A++(n,ks)::B)+(if t=[] then 0 else 1):=by
 have he:=h.each (n,ks) (by simp);obtain ⟨a,b,c,d⟩:=put_ok he.2.1 (x:=⟨r,k,t⟩) hi;simp only at a b c d;have hcnt:countA (A++(n,putC ks ⟨r,k,t⟩)::B)+(if getC r k ks=[] then 0 else 1)=countA (A++(n,ks)::B)+(if t=[] then 0 else 1):=by
  rw [countA_app,countA_app,countA_cons,countA_cons];simp only;omega
 refine ⟨nice_put h rfl a (fun x hx=> ?_) ?_,b,hcnt⟩
 ·rcases c x hx with rfl |hx
  ·exact ht
  ·exact he.2.2 x hx
 ·have h2:=h.cnt;by_cases h0:t=[]
  ·rw [if_pos h0] at hcnt;omega
  ·rw [if_neg h0] at hcnt;by_cases h5:getC r k ks=[]
   ·have:=hg h0 h5;rw [if_pos h5] at hcnt;omega
   ·rw [if_neg h5] at hcnt;omega
theorem bookC_inj{x y:BookC}(h:x.lv=y.lv):x=y:=by
 cases x;cases y;simp only [BookC.lv,LV.agg.injEq,List.cons.injEq,LV.slice.injEq,and_true] at h;obtain ⟨⟨rfl,rfl,rfl⟩,⟨rfl,rfl,rfl⟩,rfl,rfl,rfl⟩:=h;rfl
structure Hand (N:Nat) (H:LHeap) (b:BookC) (cur:ShL) (sad:LAddr) (nm:List NameC) (lk:List LV) (j:Nat):Prop where
 A:b.sheetsA=some sad
 L:b.sheetsL=cur.length
 small:cur.length<=1000
 w:WAtW true H sad 142 [] (cellsS cur) []
 sN:N<=sad.id
 rows:∀(k:Nat) (s:SheetC×List CellC),cur[k]? =some s->k≠j->KAt H s.1.cellsA s.1.cellsL s.1.cellsQ s.2/\∀ad,s.1.cellsA=some ad->N<=ad.id/\ad.id≠sad.id
 nm:NmAt H b.namesA b.namesL b.namesQ nm/\∀ad,b.namesA=some ad->N<=ad.id/\ad.id≠sad.id
 lk:firstCellsL H 7 b.linksL (.slice b.linksA b.linksL b.linksQ)=some lk/\lk.length=b.linksL*7/\allCells lk=true/\b.linksL<=1000/\∀ad,b.linksA=some ad->ad.id<H.next
 lf:∀ad,b.linksA=some ad->N<=ad.id/\ad.id≠sad.id
structure Away (b:BookC) (cur:ShL) (sid j x:Nat):Prop where
 s:x≠sid
 r:∀(k:Nat) (s:SheetC×List CellC),cur[k]? =some s->k≠j->∀ad,s.1.cellsA=some ad->ad.id≠x
 n:∀ad,b.namesA=some ad->ad.id≠x
 l:∀ad,b.linksA=some ad->ad.id≠x
theorem Hand.low{N:Nat}{H:LHeap}{b:BookC}{cur:ShL}{sad:LAddr}{nm:List NameC}{lk:List LV}{j:Nat}(h:Hand N H b cur sad nm lk j){x:Nat}(hx:x<N):Away b cur sad.id j x:=
 ⟨by have:=h.sN;omega,fun k s hs hk ad e=>by have:=((h.rows k s hs hk).2 ad e).1;omega,fun ad e=>by have:=(h.nm.2 ad e).1;omega,fun ad e=>by have:=(h.lf ad e).1;omega⟩
theorem Hand.high{N:Nat}{H:LHeap}{b:BookC}{cur:ShL}{sad:LAddr}{nm:List NameC}{lk:List LV}{j:Nat}(h:Hand N H b cur sad nm lk j){x:Nat}(hx:H.next<=x):Away b cur sad.id j x:=
 ⟨by have:=h.w.lt;omega,fun k s hs hk ad e=>by have:=(h.rows k s hs hk).1.id ad e;omega,fun ad e=>by have:=h.nm.1.id ad e;omega,fun ad e=>by have:=h.lk.2.2.2.2 ad e;omega⟩
theorem Hand.on{N:Nat}{H H':LHeap}{b:BookC}{cur:ShL}{sad:LAddr}{nm:List NameC}{lk:List LV}{j:Nat}(h:Hand N H b cur sad nm lk j){X:List Nat}(p:PresX X H H')(hX:∀x∈X,Away b cur sad.id j x):Hand N H' b cur sad nm lk j:=by
 refine ⟨h.A,h.L,h.small,h.w.on p fun hm=>(hX _ hm).s rfl,h.sN,fun k s hs hk=>⟨(h.rows k s hs hk).1.on p fun ad e hm=>(hX _ hm).r k s hs hk ad e rfl,(h.rows k s hs hk).2⟩,⟨h.nm.1.on p fun ad e hm=>(hX _ hm).n ad e rfl,h.nm.2⟩,⟨rd_on h.lk.1 h.lk.2.2.2.2 p fun ad e hm=>(hX _ hm).l ad e rfl,h.lk.2.1,h.lk.2.2.1,h.lk.2.2.2.1,fun ad e=>Nat.lt_of_lt_of_le (h.lk.2.2.2.2 ad e) p.next⟩,h.lf⟩
theorem Hand.on0{N:Nat}{H H':LHeap}{b:BookC}{cur:ShL}{sad:LAddr}{nm:List NameC}{lk:List LV}{j:Nat}(h:Hand N H b cur sad nm lk j)(p:PresX [] H H'):Hand N H' b cur sad nm lk j:=h.on p fun x hx=>by cases hx
theorem set_at{cur:ShL}{j k:Nat}{p s:SheetC×List CellC}(h:(cur.set j p)[k]? =some s):(k=j/\s=p)\/(k≠j/\cur[k]? =some s):=by
 rw [List.getElem?_set] at h;by_cases e:j=k
 ·rw [if_pos e] at h;split at h
  ·exact .inl ⟨e.symm,(Option.some.inj h).symm⟩
  ·cases h
 ·rw [if_neg e] at h;exact .inr ⟨fun h=>e h.symm,h⟩
structure BkFar (N:Nat) (b:BookC) (ss:ShL):Prop where
 s:∀ad,b.sheetsA=some ad->N<=ad.id
 r:∀s∈ss,∀ad,s.1.cellsA=some ad->N<=ad.id
 n:∀ad,b.namesA=some ad->N<=ad.id
 l:∀ad,b.linksA=some ad->N<=ad.id
theorem BkFar.mono{N M:Nat}{b:BookC}{ss:ShL}(h:BkFar N b ss)(hM:M<=N):BkFar M b ss:=
 ⟨fun ad e=>Nat.le_trans hM (h.s ad e),fun s hs ad e=>Nat.le_trans hM (h.r s hs ad e),fun ad e=>Nat.le_trans hM (h.n ad e),fun ad e=>Nat.le_trans hM (h.l ad e)⟩
theorem BkFar.on{N:Nat}{H H':LHeap}{b:BookC}{ss:ShL}{nm:List NameC}{lk:List LV}(f:BkFar N b ss)(h:BkAt H b ss nm lk){i:Nat}(p:PresX [i] H H')(hi:i<N):BkAt H' b ss nm lk:=by
 have no:∀(ad:LAddr),N<=ad.id->ad.id∉[i]:=fun ad h=>by simp;omega
 exact ⟨h.sh.on p (fun ad e=>no ad (f.s ad e)) fun s hs ad e=>no ad (f.r s hs ad e),h.nm.on p fun ad e=>no ad (f.n ad e),
  rd_on h.lk.1 h.lk.2.2.2.2 p fun ad e=>no ad (f.l ad e),h.lk.2.1,h.lk.2.2.1,h.lk.2.2.2.1,fun ad e=>Nat.lt_of_lt_of_le (h.lk.2.2.2.2 ad e) p.next⟩
theorem Hand.close{N:Nat}{H:LHeap}{b:BookC}{cur:ShL}{sad:LAddr}{nm:List NameC}{lk:List LV}{j:Nat}(h:Hand N H b cur sad nm lk j){x:SheetC×List CellC}(hx:cur[j]? =some x){a:Option LAddr}{l:Nat}{q:Cap}{ks:List CellC}(hk:KAt H a l q ks)(ha:∀ad,a=some ad->N<=ad.id/\ad.id≠sad.id):
  ∃H',storeT cfg.P H 49 ⟨sad.id,sad.ver,sad.off+j*2+1⟩ (.slice a l q)=some H'/\PresX [sad.id] H H'/\∀(i:Nat) (H'':LHeap),PresX [i] H' H''->i<N->BkAt H'' b (cur.set j (⟨x.1.name,a,l,q⟩,ks)) nm lk/\BkFar N b (cur.set j (⟨x.1.name,a,l,q⟩,ks)):=by
 obtain ⟨H',g1,g2,g3⟩:=storeS h.w hx a l q ks;refine ⟨H',g1,g3,fun i H'' p hi=> ?_⟩;have no:∀(ad:LAddr),N<=ad.id->ad.id∉[i]:=fun ad h=>by simp;omega
 have ns:∀(ad:LAddr),ad.id≠sad.id->ad.id∉[sad.id]:=fun ad h=>by simpa using h
 have g2':=g2.on p (no sad h.sN);refine ⟨⟨⟨by rw [List.length_set];exact h.L.symm,by rw [h.L];exact h.small,?_,fun ad e=> ?_,fun s hs=> ?_⟩,?_,?_,h.lk.2.1,h.lk.2.2.1,h.lk.2.2.2.1,fun ad e=> ?_⟩,fun ad e=> ?_,fun s hs=> ?_,fun ad e=>(h.nm.2 ad e).1,fun ad e=>(h.lf ad e).1⟩
 ·rw [h.A];simp only [firstCellsL,Nat.ble_eq,Nat.le_refl,if_true];have:=g2'.load
  rwa [cellsS_len,List.length_set,<-h.L] at this
 ·rw [h.A] at e;cases e;exact g2'.lt
 ·obtain ⟨k,hs⟩:=List.getElem?_of_mem hs;rcases set_at hs with ⟨rfl,rfl⟩ |⟨hne,hs⟩
  ·exact (hk.on g3 fun ad e=>ns ad (ha ad e).2).on p fun ad e=>no ad (ha ad e).1
  ·have hr:=h.rows k s hs hne;exact (hr.1.on g3 fun ad e=>ns ad (hr.2 ad e).2).on p fun ad e=>no ad (hr.2 ad e).1
 ·exact (h.nm.1.on g3 fun ad e=>ns ad (h.nm.2 ad e).2).on p fun ad e=>no ad (h.nm.2 ad e).1
 ·exact rd_on (rd_on h.lk.1 h.lk.2.2.2.2 g3 fun ad e=>ns ad (h.lf ad e).2) (fun ad e=>Nat.lt_of_lt_of_le (h.lk.2.2.2.2 ad e) g3.next) p fun ad e=>no ad (h.lf ad e).1
 ·exact Nat.lt_of_lt_of_le (h.lk.2.2.2.2 ad e) (Nat.le_trans g3.next p.next)
 ·rw [h.A] at e;cases e;exact h.sN
 ·obtain ⟨k,hs⟩:=List.getElem?_of_mem hs;rcases set_at hs with ⟨rfl,rfl⟩ |⟨hne,hs⟩
  ·exact fun ad e=>(ha ad e).1
  ·exact fun ad e=>((h.rows k s hs hne).2 ad e).1
theorem NewSh.abs{N sid:Nat}{H:LHeap}{cur ss:ShL}{i:Nat}(h:NewSh N sid H cur ss i):absS cur=absS ss:=by
 unfold absS;refine List.ext_getElem? fun j=> ?_;rw [List.getElem?_map,List.getElem?_map];by_cases hj:j<cur.length
 ·have hj':j<ss.length:=by rw [<-h.len];exact hj
  obtain ⟨a,b⟩:=h.same j _ _ (List.getElem?_eq_getElem hj) (List.getElem?_eq_getElem hj');rw [List.getElem?_eq_getElem hj,List.getElem?_eq_getElem hj'];simp only [Option.map_some,a,b]
 ·rw [List.getElem?_eq_none (by omega),List.getElem?_eq_none (by have:=h.len;omega)]
theorem copy_hand{b:BookC}{ss:ShL}{nm:List NameC}{lk:List LV}{H H':LHeap}{v:LV}(h:CopyS b ss nm lk H v H')(hB:BkAt H b ss nm lk){j:Nat}{x:SheetC×List CellC}(hx:ss[j]? =some x):
  PresX [] H H'/\∃(b':BookC) (cur:ShL) (sad:LAddr) (y:SheetC×List CellC),v=b'.lv/\Hand H.next H' b' cur sad nm lk j/\cur[j]? =some y/\y.1.name=x.1.name/\y.2=x.2/\RowW H' y.1.cellsA y.1.cellsL y.1.cellsQ y.2/\(∀ad,y.1.cellsA=some ad->H.next<=ad.id/\Away b' cur sad.id j ad.id)/\absS cur=absS ss/\b'.sheetsQ=.exact b'.sheetsL:=by
 obtain ⟨p,b',cur,sad,e,e1,e2,e3,e4,hW,hS,⟨hn,hnf⟩,e5,hl,hli,hlf⟩:=h;have hlen:=hB.sh.len;have hj:j<cur.length:=by rw [hS.len];exact (List.getElem?_eq_some_iff.1 hx).1
 have hy:cur[j]? =some cur[j]:=List.getElem?_eq_getElem hj;have hR:=hS.row j _ hy (by rw [<-hS.len];exact hj);obtain ⟨s1,s2⟩:=hS.same j _ _ hy hx;have hlt:∀k,k<cur.length->k<ss.length:=fun k h=>by rw [<-hS.len];exact h
 refine ⟨p,b',cur,sad,cur[j],e,⟨e2,by rw [e1,hS.len,hlen],by have:=hB.sh.small;rw [hS.len,hlen];exact this,hW,e4,fun k s hs hk=> ?_,⟨hn,fun ad e=>⟨(hnf ad e).1,(hnf ad e).2.1⟩⟩,⟨hl,by rw [e5];exact hB.lk.2.1,hB.lk.2.2.1,by rw [e5];exact hB.lk.2.2.2.1,hli⟩,fun ad e=>⟨(hlf ad e).1,(hlf ad e).2.1⟩⟩,hy,s1,s2,hR.1,fun ad e=>⟨(hR.2 ad e).1,(hR.2 ad e).2,fun k s hs hk ad' e'=> ?_,fun ad' e'=>fun he=>(hnf ad' e').2.2 j _ ad hy e he.symm,fun ad' e'=>fun he=>(hlf ad' e').2.2 j _ ad hy e he.symm⟩,hS.abs,by rw [e3,e1]⟩
 ·have hkl:=(List.getElem?_eq_some_iff.1 hs).1;have hr:=hS.row k s hs (hlt k hkl);obtain ⟨_,t2⟩:=hS.same k s _ hs (List.getElem?_eq_getElem (hlt k hkl));have hsm:s.1.cellsL<=1000:=by
   have h1:=hr.1.len;have h2:=hB.sh.rows _ (List.getElem_mem (hlt k hkl));have h3:=h2.len;have h4:=h2.small;rw [<-t2] at h3;omega
  exact ⟨hr.1.k hsm,hr.2⟩
 ·have hkl:=(List.getElem?_eq_some_iff.1 hs).1;rcases Nat.lt_or_ge k j with h |h
  ·exact hS.apart k j s _ hs hy h (hlt j hj) ad' ad e' e
  ·exact fun he=>hS.apart j k _ s hy hs (by omega) (hlt k hkl) ad ad' e e' he.symm
theorem abs_set{cur:ShL}{j:Nat}(p:SheetC×List CellC)(hj:j<cur.length):absS (cur.set j p)=(absS cur).take j++(p.1.name,p.2)::(absS cur).drop (j+1):=by
 unfold absS;rw [List.map_set,List.set_eq_take_append_cons_drop,if_pos (by simpa using hj)]
theorem abs_at{ss:ShL}{j:Nat}{x:SheetC×List CellC}(h:ss[j]? =some x):absS ss=(absS ss).take j++(x.1.name,x.2)::(absS ss).drop (j+1):=by
 obtain ⟨h1,h2⟩:=List.getElem?_eq_some_iff.1 h;have hl:j<(absS ss).length:=by unfold absS;simpa using h1
 have he:(absS ss)[j]=(x.1.name,x.2):=by simp [absS,h2]
 rw [<-he,<-List.drop_eq_getElem_cons hl,List.take_append_drop]
def PutS(ss:ShL)(nm:List NameC)(lk:List LV)(n:List UInt8)(r c:Int)(t:List UInt8)(H:LHeap):LV->LHeap->Prop:=fun v H'=>PresX [] H H'/\∃(b':BookC) (e:Int),v=.tuple [b'.lv,.int .i64 e]/\
 (e=0->insideC r c=true/\mayT t=0/\∃A ks B,absS ss=A++(n,ks)::B/\getS ss n r c=getC r c ks/\(∀p∈A,p.1≠n)/\(t≠[]->getC r c ks=[]->countS ss<200)/\∃ss',BkAt H' b' ss' nm lk/\BkFar H.next b' ss'/\absS ss'=A++(n,putC ks ⟨r,c,t⟩)::B)
theorem put_use{ss:ShL}{nm:List NameC}{lk:List LV}{n:List UInt8}{r c:Int}{t:List UInt8}{H:LHeap}:∀v H',PutS ss nm lk n r c t H v H'->PresX [] H H'/\hasSh (.tuple [.cust BookC BookC.lv,.int .i64]) v:=fun v H' ⟨p,b',e,h,_⟩=>⟨p,by rw [h];exact ⟨_,_,rfl⟩⟩
def nilBook:BookC:=⟨none,0,.exact 0,none,0,.exact 0,none,0,.exact 0⟩
theorem put_no{ss:ShL}{nm:List NameC}{lk:List LV}{n:List UInt8}{r c:Int}{t:List UInt8}{H H':LHeap}{e:Int}(he:e≠0)(p:PresX [] H H'):PutS ss nm lk n r c t H (.tuple [nilBook.lv,.int .i64 e]) H':=⟨p,nilBook,e,rfl,fun h=>absurd h he⟩
theorem count_one{ss:ShL}{x:SheetC×List CellC}(h:x∈ss):x.2.length<=countS ss:=by
 obtain ⟨i,hi⟩:=List.getElem?_of_mem h;obtain ⟨h1,h2⟩:=List.getElem?_eq_some_iff.1 hi;have:=List.take_append_drop i ss;rw [List.drop_eq_getElem_cons h1,h2] at this;rw [<-this];unfold countS;rw [List.map_append,List.sum_append,List.map_cons,List.sum_cons];omega
theorem s58(b:BookC)(ss:ShL)(nm:List NameC)(lk:List LV)(n:List UInt8)(r c:Int)(t:List UInt8)(H:LHeap)(hB:BkAt H b ss nm lk)(hcnt:countS ss<=200):CallL cfg 58 [b.lv,.str n,.int .i64 r,.int .i64 c,.str t] H (PutS ss nm lk n r c t H):=by
 have ht:∀{A B:LHeap} {i:Nat},PresX [] H A->H.next<=i->PresX [i] A B->PresX [] H B:=fun pa hi pb=>pa.trans pb fun z hz=>.inr (by rw [List.mem_singleton.1 hz];exact hi);refine e58t _ b n r c t H fun i5 H6 g5 p5 i7 H8 g7 p7 i9 H10 g9 p9 i11 H12 g11 p11 hI12=> ?_;have q12:PresX [] H H12:=hI12.pres;have b11:H.next<=i11:=Nat.le_trans (((p5.trans0 p7).trans0 p9).next) g11;refine ⟨_,s91 b ss n H12 (hB.on0 q12).sh,Ret.use ⟨_,rfl⟩,fun n14 H15 ⟨e,p15⟩=>⟨fun h1 H16 p16 hI=>put_no (by decide) hI.pres,fun h1=>⟨fun h2 H17 p17 hI=>put_no (by decide) hI.pres,fun h2 hI15=>⟨_,s121 r c H15,Ret.use ⟨_,rfl⟩,fun b19 H20 ⟨e',p20⟩=>⟨fun h3 H21 p21 hI=>put_no (by decide) hI.pres,fun h3 hI20=>⟨_,s122 t H20,Ret.use ⟨_,rfl⟩,fun n23 H24 ⟨e'',p24⟩=>⟨fun h4 H25 p25 hI=>put_no (by simpa using h4) hI.pres,fun h4=> ?_⟩⟩⟩⟩⟩⟩⟩;cases e;cases e';cases e'';have hin:insideC r c=true:=by simpa using h3
 have hmt:mayT t=0:=by simpa using h4
 have hne:idxS n ss 0≠-1:=by simp at h2;omega
 obtain ⟨j,x,h5,h6,h7,h8⟩:=idxS_at hne;rw [h7,Nat.zero_add];have hget:=getS_at (r:=r) (k:=c) h5 h6 h8;have hjl:=(List.getElem?_eq_some_iff.1 h5).1;have hA:=abs_at h5;have hx1:=count_one (List.mem_of_getElem? h5);have hbefore:∀p∈(absS ss).take j,p.1≠n:=fun p hp=>by
  unfold absS at hp;rw [<-List.map_take] at hp;obtain ⟨y,hy,rfl⟩:=List.mem_map.1 hp;exact h8 y hy
 rw [h6] at hA;refine ⟨fun ht0 hI24=>⟨_,s57 b ss n r c H24 (hB.on0 hI24.pres).sh,Ret.use ⟨_,rfl⟩,fun s27 H28 ⟨e,p28⟩=>⟨fun h9 hI28=>⟨_,s56 b ss H28 (hB.on0 hI28.pres).sh,Ret.use ⟨_,rfl⟩,fun n30 H31 ⟨e',p31⟩=>⟨fun h10 H32 p32 hI=>put_no (by decide) hI.pres,fun h10=> ?t1⟩⟩,fun h9=> ?t2⟩⟩,fun ht0=> ?t3⟩
 case' t1=>
  cases e';cases e;have hcond:t≠[]->getC r c x.2=[]->countS ss<200:=fun _ _=>by simp at h10;omega
 case' t2=>
  cases e;have hcond:t≠[]->getC r c x.2=[]->countS ss<200:=fun _ h=>by rw [hget,h] at h9;simp at h9
 case' t3=>have hcond:t≠[]->getC r c x.2=[]->countS ss<200:=fun h _=>by simp at ht0;exact absurd ht0 h
 case t1 |t2 |t3=>
  intro hI31;have hB31:=hB.on0 hI31.pres;have hn31:=hI31.pres.next;have f5:=(hI31.slot 0 _ rfl).1;have f7:=(hI31.slot 1 _ rfl).1;have f9:=(hI31.slot 2 _ rfl).1;have f11:=(hI31.slot 3 _ rfl).1;simp only at f5 f7 f9 f11;refine ⟨_,s94 b ss nm lk _ hB31,copy_use,fun x34 H35 hC i36 H37 g37 p37 H38 p38=> ?_⟩;obtain ⟨pC,b',cur,sad,y,e,hH,hy,hyn,hyk,hR,hfar,habs,_⟩:=copy_hand hC hB31 h5;obtain rfl:=bookC_inj e;have p3538:PresX [] H35 H38:=p37.trans p38 fun z hz=>.inr (by rw [List.mem_singleton.1 hz];exact g37);have hjc:=(List.getElem?_eq_some_iff.1 hy).1;have hH38:=hH.on0 p3538;have hR38:=hR.on p3538 fun _ _=>by simp
  have hyl:y.1.cellsL<=200:=by have:=hR.len;rw [hyk] at this;omega
  have hlt35:∀ad,y.1.cellsA=some ad->ad.id<H35.next:=hR.id;have hid:∀z∈idO y.1.cellsA,Away x34 cur sad.id j z/\H.next<=z/\z≠i5/\z≠i7/\z≠i9/\z≠i11/\z≠i36:=fun z hz=>by
   obtain ⟨ad,e,rfl⟩:=mem_idO hz;obtain ⟨h1,h2⟩:=hfar ad e;have:=hlt35 ad e;exact ⟨h2,by omega,by omega,by omega,by omega,by omega,by omega⟩
  have hok:∀z∈idO y.1.cellsA,okId [] H [⟨i5,b.cs,48⟩,⟨i7,[.int .i64 r],3⟩,⟨i9,[.int .i64 c],3⟩,⟨i11,[.slice none 0 (.exact 0),.slice none 0 (.exact 0),.slice none 0 (.exact 0)],48⟩,⟨i36,x34.cs,48⟩] z:=fun z hz=>by
   obtain ⟨_,h1,h2,h3,h4,h5,h6⟩:=hid z hz;refine ⟨.inr h1,fun k s hs=> ?_⟩;rcases k with _ |_ |_ |_ |_ |k
   ·cases hs;exact h2.symm
   ·cases hs;exact h3.symm
   ·cases hs;exact h4.symm
   ·cases hs;exact h5.symm
   ·cases hs;exact h6.symm
   ·simp [nth] at hs
  have hsad:okId [] H [⟨i5,b.cs,48⟩,⟨i7,[.int .i64 r],3⟩,⟨i9,[.int .i64 c],3⟩,⟨i11,[.slice none 0 (.exact 0),.slice none 0 (.exact 0),.slice none 0 (.exact 0)],48⟩,⟨i36,x34.cs,48⟩] sad.id:=by
   have h1:=hH.sN;have h2:=hH.w.lt;refine ⟨.inr (by omega),fun k s hs=> ?_⟩;rcases k with _ |_ |_ |_ |_ |k
   ·cases hs;show i5≠sad.id;omega
   ·cases hs;show i7≠sad.id;omega
   ·cases hs;show i9≠sad.id;omega
   ·cases hs;show i11≠sad.id;omega
   ·cases hs;show i36≠sad.id;omega
   ·simp [nth] at hs
  have hL:=hH.L;have idx:(0:Int)<=((j:Nat):Int)/\((j:Nat):Int)<((x34.sheetsL:Nat):Int)/\x34.sheetsA.isSome=true:=⟨by omega,by omega,by rw [hH.A];rfl⟩;have fin:∀(Hq:LHeap) (a:Option LAddr) (l:Nat) (q:Cap) (ks:List CellC),PresX [] H Hq->Hand _ Hq x34 cur sad nm lk j->KAt Hq a l q ks->(∀ad,a=some ad->_<=ad.id/\ad.id≠sad.id)->ks=putC x.2 ⟨r,c,t⟩->∃H',storeT cfg.P Hq 49 ⟨(adr x34.sheetsA).id,(adr x34.sheetsA).ver,(adr x34.sheetsA).off+(Int.toNat ((j:Nat):Int))*2+1⟩ (.slice a l q)=some H'/\∀H'',PresX [i11] H' H''->PresX [] H H''->PutS ss nm lk n r c t H (.tuple [x34.lv,.int .i64 0]) H'':=fun Hq a l q ks pq hh hk ha hks=>by
   obtain ⟨H',g1,g2,g3⟩:=hh.close hy hk ha;rw [hh.A,Int.toNat_natCast];refine ⟨H',g1,fun H'' p pp=>⟨pp,x34,0,rfl,fun _=>⟨hin,hmt,_,_,_,hA,hget,hbefore,hcond,_,(g3 i11 H'' p f11).1,(g3 i11 H'' p f11).2.mono hn31,?_⟩⟩⟩;rw [abs_set _ hjc,habs,hks];simp only [hyn,h6]
  refine ⟨idx,fun hI38=>⟨y.1.cellsA,y.1.cellsL,y.1.cellsQ,?_,fun _=>⟨_,idO y.1.cellsA,s123g y.1.cellsA y.1.cellsL y.1.cellsQ y.2 r c ⟨i7,1,0⟩ ⟨i9,1,0⟩ H38 hR38 (by omega) (fun H1 k1=> ?_) (fun H1 k1=> ?_),fun v H' ⟨p,e,_⟩=>⟨p,by rw [e];exact ⟨_,_,_,rfl⟩⟩,hok,fun a45 l46 c47 H48 hD=> ?_⟩⟩⟩
  ·rw [hH.A,Int.toNat_natCast];exact watS_field hH38.w hy
  ·exact k1.load (hI38.slot 1 _ rfl).1 (fun hm=>(hid _ hm).2.2.2.1 rfl) (boxed hI38 (k:=1) rfl rfl (by kernel_rfl))
  ·exact k1.load (hI38.slot 2 _ rfl).1 (fun hm=>(hid _ hm).2.2.2.2.1 rfl) (boxed hI38 (k:=2) rfl rfl (by kernel_rfl))
  obtain ⟨pD,e,hRD⟩:=hD;cases e;have hH48:=hH38.on pD fun z hz=>(hid z hz).1;have hkl:(keepK (isC r c) y.2).length<=200:=Nat.le_trans (List.length_filter_le _ _) (by rw [hyk];omega);have hK48:=hRD.k (by omega);have hfar':∀ad,y.1.cellsA=some ad->_<=ad.id/\ad.id≠sad.id:=fun ad e=>⟨(hfar ad e).1,(hfar ad e).2.s⟩;refine ⟨fun h11 hI48=>⟨_,s125c _ _ _ _ (aftC r c) ⟨i7,1,0⟩ ⟨i9,1,0⟩ H48 hK48 (fun z Hz kz=>s126 z r c _ _ Hz (fun H1 k1=> ?_) fun H1 k1=> ?_),Ret.use ⟨_,rfl⟩,fun n50 H51 ⟨e,p51⟩=> ?_⟩,fun h11=>⟨idx,fun hI48=> ?_⟩⟩
  ·exact (kz.trans0 k1).load0 (hI48.slot 1 _ rfl).1 (boxed hI48 (k:=1) rfl rfl (by kernel_rfl))
  ·exact (kz.trans0 k1).load0 (hI48.slot 2 _ rfl).1 (boxed hI48 (k:=2) rfl rfl (by kernel_rfl))
  rotate_left
  ·obtain ⟨H',g1,g3⟩:=fin H48 _ _ _ _ hI48.pres hH48 hK48 hfar' (by unfold putC;rw [if_pos (by simpa using h11),hyk]);exact ⟨H',⟨g1,by rw [hH.A];exact hsad⟩,fun H72 p72 hI=>g3 H72 p72 hI.pres⟩
  ·cases e;have hne:t≠[]:=by simpa using h11
   have ins:∀(H52:LHeap) (i:Nat),H52=H51.push (.cells [.int .i64 r,.int .i64 c,.str t] 149 3 3 .none false true)->PresX [] H H52->i=atC r c (keepK (isC r c) y.2)->CallL cfg 127 [.slice y.1.cellsA (keepK (isC r c) y.2).length y.1.cellsQ,.int .i64 i,.slice (some ⟨H51.next,3,0⟩) 1 (.exact 1)] H52 (InsGK y.1.cellsA ((keepK (isC r c) y.2).length+1) (putC x.2 ⟨r,c,t⟩) H52)/\Hand _ H52 x34 cur sad nm lk j:=fun H52 i e52 p52 hi=>by
    have p52':PresX [] H51 H52:=by rw [e52];exact .push _ _ _
    have hR52:=(hRD.on p51 fun _ _=>by simp).on p52' fun _ _=>by simp
    have hg:H52.get H51.next=some (.cells [.int .i64 r,.int .i64 c,.str t] 149 3 3 .none false true):=by rw [e52,LHeap.get_push,if_pos rfl]
    have hput:putC x.2 ⟨r,c,t⟩=insC (keepK (isC r c) y.2) i ⟨r,c,t⟩:=by unfold putC;rw [if_neg hne,hi,hyk]
    rw [hput];refine ⟨s127g y.1.cellsA ⟨H51.next,3,0⟩ _ i _ _ ⟨r,c,t⟩ H52 hR52 (by omega) (by rw [hi];exact (at_spec r c _).1) ?_ (by rw [e52];exact Nat.lt_succ_self _) (fun ad e=> ?_) ⟨_,_,_,_,_,hg,Nat.le_refl _⟩,(hH48.on0 p51).on0 p52'⟩
    ·unfold loadN;rw [hg];rfl
    ·have h1:=hRD.id ad e;have h2:=p51.next;simp only;omega
   refine ⟨fun h12 H52 e52 hI52=> ?i1,fun h12 H52 e52 hI52=> ?i2⟩
   case' i1=>
    obtain ⟨hC,hH52⟩:=ins H52 (keepK (isC r c) y.2).length e52 hI52.pres (by unfold atC;rw [if_pos (by simpa using h12)])
   case' i2=>
    have hge:¬idxK (aftC r c) (keepK (isC r c) y.2) 0<0:=by simpa using h12
    obtain ⟨hC,hH52⟩:=ins H52 (idxK (aftC r c) (keepK (isC r c) y.2) 0).toNat e52 hI52.pres (by unfold atC;rw [if_neg hge]);rw [Int.toNat_of_nonneg (by omega)] at hC
   case i1 |i2=>
    refine ⟨_,idO y.1.cellsA,hC,fun v H' ⟨p,ad,q,e,_⟩=>⟨p,by rw [e];exact ⟨_,_,_,rfl⟩⟩,hok,fun a54 l55 c56 H57 hI=>⟨idx,fun hI57=> ?_⟩⟩;obtain ⟨p57,ad,q,e,hK57,hge57⟩:=hI;cases e;obtain ⟨H',g1,g3⟩:=fin H57 _ _ _ _ hI57.pres (hH52.on p57 fun z hz=>(hid z hz).1) hK57 (fun ad' e=>by
     cases e;rcases hge57 with hm |hge
     ·obtain ⟨ad',e,he⟩:=mem_idO hm;rw [<-he];exact hfar' ad' e
     ·have h1:=hH52.sN;have h2:=hH52.w.lt;exact ⟨by omega,by omega⟩) rfl
    exact ⟨H',⟨g1,by rw [hH.A];exact hsad⟩,fun H60 p60 hI=>g3 H60 p60 hI.pres⟩
end Go.Proofs.YtjihhflffkoffaaGreatDoor.Z
