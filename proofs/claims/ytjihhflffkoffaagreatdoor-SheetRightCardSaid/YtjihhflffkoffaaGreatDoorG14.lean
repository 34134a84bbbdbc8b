/- Contracts of functions of the program; no condition. -/
import Derived.Test.YtjihhflffkoffaaGreatDoorG13
import Derived.Test.YtjihhflffkoffaaGreatDoorG2
import Derived.Test.YtjihhflffkoffaaGreatDoorG1
import Derived.Test.YtjihhflffkoffaaGreatDoorLe
import Derived.Test.YtjihhflffkoffaaGreatDoorG12
set_option linter.unusedSimpArgs false
set_option linter.unusedVariables false
set_option linter.unusedSectionVars false
set_option linter.unnecessarySimpa false
namespace Go.Proofs.YtjihhflffkoffaaGreatDoor.Z
open Go Go.Lm
set_option maxRecDepth 1000000
set_option maxHeartbeats 0
theorem rowT142:RowT cfg.P 45 142 2 40:=⟨by kernel_rfl,by kernel_rfl,by decide,by kernel_rfl,by kernel_rfl,by kernel_rfl,⟨nilSheet.lv,by kernel_rfl,rfl⟩⟩
theorem app_zerosS{H:LHeap}{a:LAddr}{i k c:Nat}{old:List LV}(hf:firstCellsL H 2 i (.slice (some a) i (.exact c))=some old)(ho:allCells old=true)(hol:old.length=i*2)(hc:c<i+k)(hk:0<k)(hs:i+k<=1001):
  appendL cfg.P H [45,3] [.slice (some a) i (.exact c),.int .i64 (k:Nat)]=some (.slice (some ⟨H.next,(i+k)*2,0⟩) (i+k) (.free 2),H.push (.cells (old++zerosS k) 142 ((i+k)*2) ((i+k)*2) .none false false)):=by
 have hl:(old++zerosS k).length=(i+k)*2:=by rw [List.length_append,hol,zerosS_eq,cellsS_len,List.length_replicate,Nat.add_mul]
 have hz:allCells (old++zerosS k)=true:=allCells_app ho (by rw [zerosS_eq];exact cellsS_all _);unfold appendL;simp only [rowT142.elem,rowT142.sized,rowT142.bytes,show isIntT cfg.P 3=true by kernel_rfl,if_true,zero142];rw [if_pos (by rw [Nat.ble_eq];omega)];have hzl:(zerosS k).length=k*2:=by rw [zerosS_eq,cellsS_len,List.length_replicate]
 unfold appendCells;simp only [zero142];have hzl':(repl k nilSheet.lv.cells []).length=k*2:=hzl;rw [if_neg (by simp [Nat.beq_eq];omega),if_neg (by rw [hzl'];simp [Nat.ble_eq];omega),if_neg (by decide),if_neg (by rw [Nat.ble_eq];omega)];simp only [hf];unfold growL;rw [show repl k nilSheet.lv.cells []=zerosS k from rfl,newRow_get hz];simp only [hl]
def InsB(r n:Nat)(l:ShL)(H:LHeap):LV->LHeap->Prop:=fun v H'=>PresX [r] H H'/\∃wh ad q B,v=.slice (some ad) n q/\WAtW wh H' ad 142 [] (cellsS l) B/\(ad.id=r\/H.next<=ad.id)
theorem ins_cellsS(l:ShL)(i:Nat)(x:SheetC×List CellC):cellsS (l.take i++x::l.drop i)=cellsS (l.take i)++(x.1.cs++cellsS (l.drop i)):=by
 rw [cellsS_app,<-List.singleton_append,cellsS_app,cellsS_one]
theorem s95(a b:LAddr)(n i:Nat)(nm:ShL)(x:SheetC×List CellC)(H:LHeap)(hW:WAtW true H a 142 [] (cellsS nm) [])(hn:nm.length=n)(hsm:n<=1000)(hi:i<=n)
  (hb:loadN H b 2=some x.1.cs) (hbl:b.id<H.next):
  CallL cfg 95 [.slice (some a) n (.exact n),.int .i64 i,.slice (some b) 1 (.exact 1)] H (InsB a.id (n+1) (nm.take i++x::nm.drop i) H):=by
 have hq:QOK a n 2 (.exact n):=.inl ⟨n,rfl,Nat.le_refl _⟩;have hlt:=hW.lt;obtain ⟨b1,q1,g1,gi1,gq1,ga1⟩:=slice_lo (k:=.i64) u45 z142 (by decide) hq hi;have fb:∀H',loadN H' b 2=some x.1.cs->firstCellsL H' 2 1 (.slice (some b) 1 (.exact 1))=some x.1.cs:=fun H' h=>h;have hlen:(cellsS nm).length=n*2:=by rw [cellsS_len,hn]
 have w1:lwrap .i64 ((n:Int)+1)=((n+1:Nat):Int):=by rw [lwrap_small (by omega) (by omega)];rfl
 have w2:lwrap .i64 ((i:Int)+1)=((i+1:Nat):Int):=by rw [lwrap_small (by omega) (by omega)];rfl
 have w3:lwrap .i64 (((n+1:Nat):Int)-(i:Int))=((n+1-i:Nat):Int):=by rw [lwrap_small (by omega) (by omega)];omega
 refine e95e _ [a.id] (some a) n n i b H ⟨some b1,n-i,q1,g1,fun hin hI=> ?caseA,fun hin=>⟨fun hcap=> ?caseB,fun hcap=> ?caseC⟩⟩
 case caseC=>
  rw [w1] at hcap;simp at hcap;omega
 case caseA=>
  have hin':(i:Int)=n:=by simpa using hin
  have hin:i=n:=by omega
  have hl:nm.take i++x::nm.drop i=nm++[x]:=by rw [List.take_of_length_le (by omega),List.drop_of_length_le (by omega)]
  rw [hl];have hr:RowAt H 142 2 (some a) n (.exact n) (cellsS nm):=.full a n _ hlt (by have:=hW.load;rwa [hlen] at this) hlen (cellsS_all _);obtain ⟨Y,a',q',H',h1,h2,h3,h4,h5,h6⟩:=hr.append2 rowT142 (x:=.slice (some b) 1 (.exact 1)) (m:=1) (new:=x.1.cs) rfl (fb H hb) rfl rfl (by omega);obtain rfl:=h6 (by decide);obtain ⟨ad,rfl,ho,hv,hw⟩:=h3.wat;have hY:∀i∈Y,i∈[a.id]:=fun i hi=>by
   obtain ⟨ad',e',rfl⟩:=h4 i hi;cases e';simp
  refine ⟨Y,some ad,n+1,.free 2,H',⟨h1,h2,fun i hi=>⟨.inl (hY i hi),fun k s hs=>by simp [nth] at hs⟩⟩,fun hI2=>⟨hI2.pres,false,ad,.free 2,[],rfl,?_,?_⟩⟩
  ·rw [cellsS_app,cellsS_one];exact hw
  ·rcases h5 ad rfl with ⟨ad',e',e''⟩ |hge
   ·cases e';exact .inl e''.symm
   ·exact .inr hge
 case caseB=>
  have hin:i<n:=by
   have:¬((i:Int)=n):=by simpa using hin
   omega
  rw [w1,w3,w2];have hold:firstCellsL H 2 i (.slice (some a) i (.exact n))=some (cellsS (nm.take i)):=by
   simp only [firstCellsL,Nat.ble_eq,Nat.le_refl,if_true];have hs:=hW;rw [show cellsS nm=[]++(cellsS (nm.take i)++cellsS (nm.drop i)) by rw [List.nil_append,<-cellsS_app,List.take_append_drop]] at hs;have:=hs.loadAt;rw [cellsS_len,List.length_take,Nat.min_eq_left (by omega)] at this;simpa using this
  have hol:(cellsS (nm.take i)).length=i*2:=by rw [cellsS_len,List.length_take,Nat.min_eq_left (by omega)]
  have happ:=app_zerosS (k:=n+1-i) hold (cellsS_all _) hol (by omega) (by omega) (by omega);rw [show i+(n+1-i)=n+1 by omega] at happ;refine ⟨some a,i,.exact n,slice_hi u45 z142 (by decide) hq hi,fun hI=>⟨[],_,_,_,_,⟨happ,.push _ _ _,fun i hi=>by cases hi⟩,?_⟩⟩;have hz:zerosS (n+1-i)=nilSheet.cs++zerosS (n-i):=by
   rw [zerosS_eq,zerosS_eq,show n+1-i=(n-i)+1 by omega,List.replicate_succ,<-List.singleton_append,cellsS_app,cellsS_one]
  have hzl:(zerosS (n-i)).length=(n-i)*2:=by rw [zerosS_eq,cellsS_len,List.length_replicate]
  have hW1:WAt (H.push (.cells (cellsS (nm.take i)++zerosS (n+1-i)) 142 ((n+1)*2) ((n+1)*2) .none false false)) ⟨H.next,(n+1)*2,0⟩ 142 [] (cellsS (nm.take i)++(nilSheet.cs++zerosS (n-i))) []:=by
   refine ⟨⟨(n+1)*2,?_,Nat.le_refl _⟩,rfl,?_,Nat.lt_succ_self _,?_⟩
   ·rw [LHeap.get_push,if_pos rfl,hz];simp
   ·simp only [List.nil_append,List.append_nil,List.length_append,hol,hzl];simp only [SheetC.cs,List.length_cons,List.length_nil];omega
   ·simp only [List.nil_append,List.append_nil];exact allCells_app (cellsS_all _) (allCells_app rfl (by rw [zerosS_eq];exact cellsS_all _))
  generalize hH1:H.push (.cells (cellsS (nm.take i)++zerosS (n+1-i)) 142 ((n+1)*2) ((n+1)*2) .none false false)=H1 at hW1 |-;have p1:PresX [] H H1:=by rw [<-hH1];exact .push _ _ _
  have hq2:QOK ⟨H.next,(n+1)*2,0⟩ (n+1) 2 (.free 2):=.inr ⟨rfl,by simp⟩;obtain ⟨b2,q2,g2,gi2,gq2,ga2⟩:=slice_lo (k:=.i64) u45 z142 (by decide) hq2 (i:=i) (by omega);obtain ⟨b3,q3,g3,gi3,gq3,ga3⟩:=slice_lo (k:=.i64) u45 z142 (by decide) hq2 (i:=i+1) (by omega);obtain ⟨H2,k1,k2,k3⟩:=hW1.putAt (V:=x.1.cs) rfl rfl;rw [hol] at k1;have ok2:∀i∈[H.next],okId [a.id] H [] i:=fun i hi=>⟨.inr (by rw [List.mem_singleton.1 hi];exact Nat.le_refl _),fun k s hs=>by simp [nth] at hs⟩;have p2:PresX [H.next] H H2:=(p1.mono (by simp)).trans k3 fun i hi=>.inl hi;have k2':WAt H2 ⟨H.next,(n+1)*2,0⟩ 142 [] ((cellsS (nm.take i)++x.1.cs)++(zerosS (n-i)++[])) []:=by simpa [List.append_assoc] using k2
  obtain ⟨H3,m1,m2,m3⟩:=k2'.putAt (V:=cellsS (nm.drop i)) (by rw [cellsS_len,List.length_drop,hn,hzl]) (cellsS_all _);rw [List.length_append,hol,show i*2+x.1.cs.length=(i+1)*2 by simp only [SheetC.cs,List.length_cons,List.length_nil];omega] at m1;refine ⟨some b2,_,q2,g2,fun hI1=>⟨((1:Nat):Int),[H.next],H2,⟨opB_copy (copyL_of e45 z142 rfl (by omega) (fb H1 ((p1.keep b.id hbl (by simp)).loads b 2 _ rfl hb)) (by rw [ga2 (by omega)];exact k1)),k3,ok2⟩,some b3,_,q3,g3,some b1,_,q1,g1,fun hI2=>⟨((n-i:Nat):Int),[H.next],H3,⟨opB_copy (copyL_of e45 z142 rfl (by omega) (V:=cellsS (nm.drop i)) ?_ (by rw [ga3 (by omega)];exact m1)),m3,ok2⟩,fun hI3=>⟨hI3.pres,false,⟨H.next,(n+1)*2,0⟩,.free 2,[],rfl,?_,.inr (Nat.le_refl _)⟩⟩⟩⟩
  ·show (if Nat.ble (n-i) (n-i) then loadN H2 b1 ((n-i)*2) else none)=_;rw [if_pos (by simp),ga1 (by omega)];have hs:=hW.on p2 (by simp;omega);rw [show cellsS nm=cellsS (nm.take i)++(cellsS (nm.drop i)++[]) by rw [List.append_nil,<-cellsS_app,List.take_append_drop]] at hs;have:=hs.loadAt;rw [hol,cellsS_len,List.length_drop,hn] at this;exact this
  ·rw [ins_cellsS];simpa [List.append_assoc] using m2
theorem slice_mid{P:Program}{t e:TypeId}{size:Nat}(hu:P.underlying t=some (.slice e))(hs:sizeOfT P e=some size){a:LAddr}{n c:Nat}{k k':IntKind}{l h:Nat}(hl:l<=h)(hh:h<=c):
  sliceL P t (.slice (some a) n (.exact c)) (some (.int k l)) (some (.int k' h)) none=some (.slice (some (if Nat.beq c l then a else ⟨a.id,a.ver,a.off+l*size⟩)) (h-l) (.exact (c-l))):=by
 unfold sliceL;simp only [hu,hs];unfold sliceExact;simp only [boundO,bound,Option.isNone_some,Option.isSome_none,Bool.and_false,Bool.false_eq_true,if_false];rw [if_pos (by rw [Nat.ble_eq];exact hh)];simp only;rw [if_pos (by rw [Nat.ble_eq];exact hl)];simp only;split<;>rfl
theorem slice_three{P:Program}{t e:TypeId}{size:Nat}(hu:P.underlying t=some (.slice e))(hs:sizeOfT P e=some size){a:LAddr}{n c:Nat}{k k' k'':IntKind}{l h m:Nat}(hl:l<=h)(hh:h<=m)(hm:m<=c):
  ∃b,sliceL P t (.slice (some a) n (.exact c)) (some (.int k l)) (some (.int k' h)) (some (.int k'' m))=some (.slice b (h-l) (.exact (m-l))):=by
 unfold sliceL;simp only [hu,hs];unfold sliceExact;simp only [boundO,bound,Option.isNone_some,Option.isSome_some,Bool.false_and,Bool.false_eq_true,if_false];rw [if_pos (by rw [Nat.ble_eq];exact hm)];simp only;rw [if_pos (by rw [Nat.ble_eq];exact hh)];simp only;rw [if_pos (by rw [Nat.ble_eq];exact hl)];exact ⟨_,rfl⟩
theorem clear_ofS{H H':LHeap}{b:LAddr}{k:Nat}{q:Cap}(h:storeN H b (zerosS k)=some H'):clearL cfg.P H [45] [.slice (some b) k q]=some (.tuple [],H'):=by
 unfold clearL;simp only [u45,zero142];unfold zerosS at h;rw [h]
theorem app_hereS{H H':LHeap}{a:LAddr}{n c m:Nat}{x:LV}{V:List LV}(hm:0<m)(hx:lenL x=some m)(hf:firstCellsL H 2 m x=some V)(hV:V.length=m*2)(hc:n+m<=c)(hn:n+m<=1000)(hs:storeN H ⟨a.id,a.ver,a.off+n*2⟩ V=some H'):
  appendL cfg.P H [45,45] [.slice (some a) n (.exact c),x]=some (.slice (some a) (n+m) (.exact c),H'):=by
 unfold appendL;simp only [rowT142.elem,rowT142.sized,rowT142.bytes,rowT142.noInt,rowT142.und,hx,hf,Bool.false_eq_true,if_false];unfold appendCells;simp only [zero142];rw [if_neg (by rw [Nat.beq_eq];omega),if_neg (by simp [hV,Nat.ble_eq];omega),if_neg (by decide),if_pos (by rw [Nat.ble_eq];exact hc)];unfold appendHere;rw [hs]
theorem s102(a:LAddr)(n i:Nat)(nm:ShL)(H:LHeap)(hW:WAtW true H a 142 [] (cellsS nm) [])(hn:nm.length=n)(hsm:n<=1000)(hi:i<n):
  CallL cfg 102 [.slice (some a) n (.exact n),.int .i64 i,.int .i64 ((i+1:Nat):Int)] H (InsB a.id (n-1) (nm.take i++nm.drop (i+1)) H):=by
 have hq:QOK a n 2 (.exact n):=.inl ⟨n,rfl,Nat.le_refl _⟩;obtain ⟨c1,g1⟩:=slice_three (k:=.i64) (k':=.i64) (k'':=.i64) (n:=n) (a:=a) u45 z142 (l:=i) (h:=i+1) (m:=n) (c:=n) (by omega) (by omega) (Nat.le_refl _);obtain ⟨b2,q2,g2,gi2,gq2,ga2⟩:=slice_lo (k:=.i64) u45 z142 (by decide) hq (i:=i+1) (by omega);have ok:∀(i:Nat),i∈[a.id]->okId [a.id] H [] i:=fun i hi=>⟨.inl hi,fun k s hs=>by simp [nth] at hs⟩;have hdl:(nm.drop (i+1)).length=n-(i+1):=by rw [List.length_drop,hn]
 have hx:nm[i]? =some nm[i]:=List.getElem?_eq_getElem (by omega);have hol:(cellsS (nm.take i)).length=i*2:=by rw [cellsS_len,List.length_take,Nat.min_eq_left (by omega)]
 have hlen:(cellsS nm).length=n*2:=by rw [cellsS_len,hn]
 have happ:∃Y H21,appendL cfg.P H [45,45] [.slice (some a) i (.exact n),.slice (some b2) (n-(i+1)) q2]=some (.slice (some a) (n-1) (.exact n),H21)/\PresX Y H H21/\(∀z∈Y,okId [a.id] H [] z)/\∃L,L.length=2/\WAtW true H21 a 142 [] (cellsS (nm.take i++nm.drop (i+1))++(L++[])) []:=by
  by_cases hlast:n-(i+1)=0
  ·refine ⟨[],H,?_,.refl _ _,(fun z hz=>by cases hz),nm[i].1.cs,rfl,?_⟩
   ·have:=app_nilN rowT142 (H:=H) (a:=some a) (n:=i) (q:=.exact n) (x:=.slice (some b2) (n-(i+1)) q2) (by rw [hlast];rfl) (cs:=[]) (by
     show (if Nat.ble 0 (n-(i+1)) then loadN H b2 (0*2) else none)=some [];rw [if_pos (by simp)];obtain ⟨m,h1,h2⟩:=hW.get;have h3:=hW.len;unfold loadN;rw [gi2.1,h1];simp only [gi2.2.1];have h4:=hW.off;have h5:=gi2.2.2;simp only [List.nil_append,List.append_nil,hlen,List.length_nil] at h3 h4;rw [if_pos (by simp only [Bool.and_eq_true,Nat.ble_eq];omega)];rfl)
    rw [this,show n-1=i by omega]
   ·have h1:nm.drop (i+1)=[]:=List.drop_eq_nil_of_le (by omega);have h2:=(cellsS_split hx).1;rw [h1,List.append_nil,List.append_nil];rw [h1] at h2;have h3:cellsS ([]:ShL)=[]:=rfl;rw [h3,List.append_nil] at h2;rw [<-h2];exact hW
  ·have hWs:WAtW true H a 142 [] (cellsS (nm.take i)++((nm[i].1.cs++cellsS (nm.drop (i+1)))++[])) []:=by
    rw [List.append_nil,<-(cellsS_split hx).1];exact hW
   have hsrc:firstCellsL H 2 (n-(i+1)) (.slice (some b2) (n-(i+1)) q2)=some (cellsS (nm.drop (i+1))):=by
    simp only [firstCellsL,Nat.ble_eq,Nat.le_refl,if_true];rw [ga2 (by omega)];have hs:=hW;rw [show cellsS nm=cellsS (nm.take (i+1))++(cellsS (nm.drop (i+1))++[]) by rw [List.append_nil,<-cellsS_app,List.take_append_drop]] at hs;have:=hs.loadAt;rw [cellsS_len,cellsS_len,List.length_take,Nat.min_eq_left (by omega),hdl] at this;exact this
   have hdk:(cellsS (nm.drop (i+1))).length=(n-(i+1))*2:=by rw [cellsS_len,hdl]
   have hQ:∃Q L,nm[i].1.cs++cellsS (nm.drop (i+1))=Q++L/\Q.length=(n-(i+1))*2/\L.length=2:=by
    refine ⟨_,_,(List.take_append_drop ((n-(i+1))*2) _).symm,?_,?_⟩
    ·rw [List.length_take,List.length_append,hdk];simp only [SheetC.cs,List.length_cons,List.length_nil];omega
    ·rw [List.length_drop,List.length_append,hdk];simp only [SheetC.cs,List.length_cons,List.length_nil];omega
   obtain ⟨Q,L,hQL,hQ1,hL⟩:=hQ;rw [hQL,List.append_nil] at hWs;obtain ⟨H21,k1,k2,k3⟩:=hWs.putAt (V:=cellsS (nm.drop (i+1))) (by rw [hdk,hQ1]) (cellsS_all _);rw [hol] at k1;refine ⟨[a.id],H21,?_,k3,ok,L,hL,?_⟩
   ·have:=app_hereS (m:=n-(i+1)) (c:=n) (by omega) rfl hsrc hdk (by omega) (by omega) k1;rw [this,show i+(n-(i+1))=n-1 by omega]
   ·rw [cellsS_app,List.append_nil,List.append_assoc];exact k2
 obtain ⟨Y,H21,happ,hpY,hokY,L,hL,hW21⟩:=happ;have hnl:(cellsS (nm.take i++nm.drop (i+1))).length=(n-1)*2:=by rw [cellsS_len,List.length_append,List.length_take,hdl,Nat.min_eq_left (by omega)];omega
 obtain ⟨H27,m1,m2,m3⟩:=hW21.putAt (V:=zerosS 1) (by rw [hL];rfl) rfl;rw [hnl] at m1;refine e102t _ [a.id] (some a) n (.exact n) i ((i+1:Nat):Int) H ⟨c1,_,_,g1,fun h=> ?_,fun _=>⟨some a,i,.exact n,slice_hi u45 z142 (by decide) hq (by omega),some b2,_,q2,g2,fun hI=>⟨Y,some a,n-1,.exact n,H21,⟨happ,hpY,hokY⟩,_,_,_,slice_mid u45 z142 (l:=n-1) (h:=n) (by omega) (Nat.le_refl _),fun hI2=>⟨[a.id],H27,⟨opB_clear (clear_ofS ?_),m3,ok⟩,fun hI3=>⟨hI3.pres,true,a,.exact n,zerosS 1++[],rfl,?_,.inl rfl⟩⟩⟩⟩⟩
 ·simp at h;omega
 ·rw [if_neg (by rw [Nat.beq_eq];omega),show n-(n-1)=1 by omega];exact m1
 ·have:=m2;rw [List.append_nil] at this;exact ⟨by simpa [List.append_assoc] using this.get,this.off,by simpa [List.append_assoc] using this.len,this.lt,by simpa [List.append_assoc] using this.all⟩
theorem copy_any{b:BookC}{ss:ShL}{nm:List NameC}{lk:List LV}{H H':LHeap}{v:LV}(h:CopyS b ss nm lk H v H')(hB:BkAt H b ss nm lk):
  PresX [] H H'/\∃(b':BookC) (cur:ShL) (sad:LAddr),v=b'.lv/\Hand H.next H' b' cur sad nm lk cur.length/\absS cur=absS ss/\b'.sheetsQ=.exact b'.sheetsL:=by
 obtain ⟨p,b',cur,sad,e,e1,e2,e3,e4,hW,hS,⟨hn,hnf⟩,e5,hl,hli,hlf⟩:=h;have hlen:=hB.sh.len;have hlt:∀k,k<cur.length->k<ss.length:=fun k h=>by rw [<-hS.len];exact h
 refine ⟨p,b',cur,sad,e,⟨e2,by rw [e1,hS.len,hlen],by have:=hB.sh.small;rw [hS.len,hlen];exact this,hW,e4,fun k s hs hk=> ?_,⟨hn,fun ad e=>⟨(hnf ad e).1,(hnf ad e).2.1⟩⟩,⟨hl,by rw [e5];exact hB.lk.2.1,hB.lk.2.2.1,by rw [e5];exact hB.lk.2.2.2.1,hli⟩,fun ad e=>⟨(hlf ad e).1,(hlf ad e).2.1⟩⟩,hS.abs,by rw [e3,e1]⟩;have hkl:=(List.getElem?_eq_some_iff.1 hs).1;have hr:=hS.row k s hs (hlt k hkl);obtain ⟨_,t2⟩:=hS.same k s _ hs (List.getElem?_eq_getElem (hlt k hkl));have hsm:s.1.cellsL<=1000:=by
  have h1:=hr.1.len;have h2:=hB.sh.rows _ (List.getElem_mem (hlt k hkl));have h3:=h2.len;have h4:=h2.small;rw [<-t2] at h3;omega
 exact ⟨hr.1.k hsm,hr.2⟩
theorem Hand.out{N:Nat}{H H':LHeap}{b:BookC}{cur:ShL}{sad:LAddr}{nm:List NameC}{lk:List LV}(h:Hand N H b cur sad nm lk cur.length){X:List Nat}(p:PresX X H H')(hX:∀x∈X,x=sad.id\/Away b cur sad.id cur.length x)
  {wh:Bool} {ad:LAddr} {q:Cap} {B:List LV} {ss:ShL} {n:Nat} (hw:WAtW wh H' ad 142 [] (cellsS ss) B) (hn:ss.length=n) (hl:n<=1000) (hs:∀s∈ss,s∈cur\/(KAt H' s.1.cellsA s.1.cellsL s.1.cellsQ s.2/\∀z,s.1.cellsA=some z->N<=z.id)) (hadN:N<=ad.id):BkAt H' ⟨some ad,n,q,b.namesA,b.namesL,b.namesQ,b.linksA,b.linksL,b.linksQ⟩ ss nm lk/\BkFar N ⟨some ad,n,q,b.namesA,b.namesL,b.namesQ,b.linksA,b.linksL,b.linksQ⟩ ss:=by
 have hno:∀(z:LAddr),z.id≠sad.id->(∀x,Away b cur sad.id cur.length x->z.id≠x)->z.id∉X:=fun z h1 h2 hm=>by
  rcases hX _ hm with e |e
  ·exact h1 e
  ·exact h2 _ e rfl
 refine ⟨⟨⟨hn,hl,?_,fun z e=>by cases e;exact hw.lt,fun s hm=> ?_⟩,h.nm.1.on p fun z e=>hno z (h.nm.2 z e).2 fun x hx=>hx.n z e,rd_on h.lk.1 h.lk.2.2.2.2 p fun z e=>hno z (h.lf z e).2 fun x hx=>hx.l z e,h.lk.2.1,h.lk.2.2.1,h.lk.2.2.2.1,fun z e=>Nat.lt_of_lt_of_le (h.lk.2.2.2.2 z e) p.next⟩,(fun z e=>by cases e;exact hadN),fun s hm=> ?_,fun z e=>(h.nm.2 z e).1,fun z e=>(h.lf z e).1⟩
 ·simp only [firstCellsL,Nat.ble_eq,Nat.le_refl,if_true];have:=hw.load
  rwa [cellsS_len,hn] at this
 ·rcases hs s hm with hc |hk
  ·obtain ⟨k,hk⟩:=List.getElem?_of_mem hc;have hlt:=(List.getElem?_eq_some_iff.1 hk).1;have hr:=h.rows k s hk (by omega);exact hr.1.on p fun z e=>hno z (hr.2 z e).2 fun x hx=>hx.r k s hk (by omega) z e
  ·exact hk.1
 ·rcases hs s hm with hc |hk
  ·obtain ⟨k,hk⟩:=List.getElem?_of_mem hc;have hlt:=(List.getElem?_eq_some_iff.1 hk).1;exact fun z e=>((h.rows k s hk (by omega)).2 z e).1
  ·exact hk.2
def StepS(ss:ShL)(nm:List NameC)(lk:List LV)(H:LHeap):LV->LHeap->Prop:=fun v H'=>PresX [] H H'/\∃(b':BookC) (e:Int),v=.tuple [b'.lv,.int .i64 e]/\
 (e=0->Nice (absS ss)->∃ss',BkAt H' b' ss' nm lk/\BkFar H.next b' ss'/\Nice (absS ss'))
theorem step_use{ss:ShL}{nm:List NameC}{lk:List LV}{H:LHeap}:∀v H',StepS ss nm lk H v H'->PresX [] H H'/\hasSh (.tuple [.cust BookC BookC.lv,.int .i64]) v:=fun v H' ⟨p,b',e,h,_⟩=>⟨p,by rw [h];exact ⟨_,_,rfl⟩⟩
theorem step_no{ss:ShL}{nm:List NameC}{lk:List LV}{H H':LHeap}{e:Int}(he:e≠0)(p:PresX [] H H'):StepS ss nm lk H (.tuple [nilBook.lv,.int .i64 e]) H':=⟨p,nilBook,e,rfl,fun h=>absurd h he⟩
theorem ins_use{r n:Nat}{l:ShL}{H:LHeap}:∀v H',InsB r n l H v H'->PresX [r] H H'/\hasSh .slice v:=fun v H' ⟨p,_,_,_,_,e,_⟩=>⟨p,by rw [e];exact ⟨_,_,_,rfl⟩⟩
theorem s37(b:BookC)(ss:ShL)(nm:List NameC)(lk:List LV)(n:List UInt8)(H:LHeap)(hB:BkAt H b ss nm lk):CallL cfg 37 [b.lv,.str n] H (StepS ss nm lk H):=by
 refine e37t _ b n H fun i2 H3 g3 p3 i4 H5 g5 p5 hI5=>⟨_,s91 b ss n H5 (hB.on0 hI5.pres).sh,Ret.use ⟨_,rfl⟩,fun n7 H8 ⟨e,p8⟩=>⟨fun h1 H9 p9 hI=>step_no (by decide) hI.pres,fun h1=>⟨fun h2 H10 p10 hI=>step_no (by decide) hI.pres,fun h2 hI8=> ?_⟩⟩⟩;cases e;have hne:idxS n ss 0≠-1:=by simp at h1;omega
 obtain ⟨j,x,h5,h6,h7,h8⟩:=idxS_at hne;rw [h7,Nat.zero_add];have hjl:=(List.getElem?_eq_some_iff.1 h5).1;have hlen:=hB.sh.len;have hsm:=hB.sh.small;rw [show lwrap .i64 (((j:Nat):Int)+1)=((j+1:Nat):Int) by rw [lwrap_small (by omega) (by omega)];rfl];have f2:=(hI8.slot 0 _ rfl).1;have f4:=(hI8.slot 1 _ rfl).1;simp only at f2 f4;have hB8:=hB.on0 hI8.pres;have hn8:=hI8.pres.next;refine ⟨_,s94 b ss nm lk H8 hB8,copy_use,fun x12 H13 hC i14 H15 g14 p15 H16 p16 hI16=> ?_⟩;obtain ⟨pC,b',cur,sad,e,hH,habs,hQ⟩:=copy_any hC hB8;obtain rfl:=bookC_inj e;have p1316:PresX [] H13 H16:=p15.trans p16 fun z hz=>.inr (by rw [List.mem_singleton.1 hz];exact g14);have hH16:=hH.on0 p1316;have hcl:cur.length=ss.length:=by have:=congrArg List.length habs;simpa [absS] using this
 have hs1:=hH.sN;have hs2:=hH.w.lt;refine ⟨_,[sad.id],by rw [hQ,hH.L,hH.A];exact s102 sad cur.length j cur H16 hH16.w rfl hH.small (by omega),ins_use,fun z hz=>⟨.inr (by rw [List.mem_singleton.1 hz];omega),fun k s hs=> ?_⟩,fun a18 l19 c20 H21 hD H22 p22 H23 p23 hI23=> ?_⟩
 ·rw [List.mem_singleton.1 hz];rcases k with _ |_ |_ |k
  ·cases hs;show i2≠sad.id;omega
  ·cases hs;show i4≠sad.id;omega
  ·cases hs;show i14≠sad.id;omega
  ·simp [nth] at hs
 obtain ⟨pD,wh,ad,q,B,e,hw,hadid⟩:=hD;cases e;have n1316:=p1316.next;have hX:∀z∈[sad.id,i14,i4],z=sad.id\/Away x12 cur sad.id cur.length z:=fun z hz=>by
  simp only [List.mem_cons,List.not_mem_nil,or_false] at hz;rcases hz with rfl |rfl |rfl
  ·exact .inl rfl
  ·exact .inr (hH.high g14)
  ·exact .inr (hH.low f4)
 have pA:PresX [sad.id,i14,i4] H16 H23:=((pD.mono (by simp)).trans p22 (by simp)).trans p23 (by simp);have hadn:ad.id≠i14/\ad.id≠i4:=by
  have h14:=(hI16.slot 2 _ rfl).1;simp only at h14;rcases hadid with e |e
  ·rw [e];omega
  ·omega
 have hw23:=(hw.on p22 (by simpa using hadn.1)).on p23 (by simpa using hadn.2);have hnl:(cur.take j++cur.drop (j+1)).length=cur.length-1:=by rw [List.length_append,List.length_take,List.length_drop,Nat.min_eq_left (by omega)];omega
 refine ⟨hI23.pres,⟨some ad,cur.length-1,c20,_,_,_,_,_,_⟩,0,rfl,fun _ hN=> ?_⟩;have out:=hH16.out (q:=c20) pA hX hw23 hnl (by have:=hH.small;omega) (fun s hs=>.inl ?_) (by rcases hadid with e |e<;>omega);refine ⟨_,out.1,out.2.mono hn8,?_⟩
 rotate_left
 ·rcases List.mem_append.1 hs with hs |hs
  ·exact List.mem_of_mem_take hs
  ·exact List.mem_of_mem_drop hs
 ·have e1:absS (cur.take j++cur.drop (j+1))=(absS ss).take j++(absS ss).drop (j+1):=by
   rw [<-habs];unfold absS;rw [List.map_append,List.map_take,List.map_drop]
  rw [e1];have hA:=abs_at h5;have h1l:(absS ss).length≠1:=by
   unfold absS;rw [List.length_map,hlen];simp at h2;omega
  rw [hA] at hN h1l;exact nice_drop hN h1l
theorem kat_nil(H:LHeap):KAt H none 0 (.exact 0) []:=⟨rfl,by decide,rfl,fun ad e=>by cases e⟩
theorem s33(b:BookC)(ss:ShL)(nm:List NameC)(lk:List LV)(n:List UInt8)(i:Int)(H:LHeap)(hB:BkAt H b ss nm lk):CallL cfg 33 [b.lv,.str n,.int .i64 i,.slice none 0 (.exact 0)] H (StepS ss nm lk H):=by
 refine e33n _ b n i H fun i0 H1 g1 p1 i2 H3 g3 p3 hI3=>⟨_,s90 n H3,Ret.use ⟨_,rfl⟩,fun b5 H6 ⟨e5,p6⟩=>⟨fun h1 H7 p7 hI=>step_no (by decide) hI.pres,fun h1 hI6=>⟨_,s91 b ss n H6 (hB.on0 hI6.pres).sh,Ret.use ⟨_,rfl⟩,fun n9 H10 ⟨e9,p10⟩=>⟨fun h2 H11 p11 hI=>step_no (by decide) hI.pres,fun h2=>⟨fun h3 H12 p12 hI=>step_no (by decide) hI.pres,fun h3=>⟨fun h4 H13 p13 hI=>step_no (by decide) hI.pres,fun h4 hI10=> ?_⟩⟩⟩⟩⟩⟩;cases e5;cases e9;refine ⟨_,s92 none 0 (.exact 0) [] H10 (kat_nil _),Ret.use ⟨_,rfl⟩,fun b15 H16 ⟨e15,p16⟩=>⟨fun h5 H17 p17 hI=>step_no (by decide) hI.pres,fun h5 hI16=>⟨_,s93 none 0 (.exact 0) [] H16 (kat_nil _),Ret.use ⟨_,rfl⟩,fun n19 H20 ⟨e19,p20⟩=>⟨fun h6 H21 p21 hI=>step_no (by decide) hI.pres,fun h6=>⟨fun h7 H22 p22 hI=>step_no (by decide) hI.pres,fun h7 hI20=>⟨_,s56 b ss H20 (hB.on0 hI20.pres).sh,Ret.use ⟨_,rfl⟩,fun n24 H25 ⟨e24,p25⟩=>⟨fun h8 H26 p26 hI=>step_no (by decide) hI.pres,fun h8 hI25=> ?_⟩⟩⟩⟩⟩⟩⟩;obtain ⟨i,rfl⟩:=Int.eq_ofNat_of_zero_le (a:=i) (by simp at h3;omega);have hlen:=hB.sh.len;have hil:i<=ss.length:=by simp at h4;omega
 have f0:=(hI25.slot 0 _ rfl).1;have f2:=(hI25.slot 1 _ rfl).1;simp only at f0 f2;have hB25:=hB.on0 hI25.pres;have hn25:=hI25.pres.next;refine ⟨_,s94 b ss nm lk H25 hB25,copy_use,fun x28 H29 hC i30 H31 g30 p31 H32 p32=>⟨rfl,fun hI32=>⟨_,s96 none 0 (.exact 0) [] H32 (kat_nil _),clone_useK,fun a35 l36 c37 H38 hK H39 e39=>⟨rfl,fun hI39=> ?_⟩⟩⟩⟩;obtain ⟨pC,b',cur,sad,e,hH,habs,hQ⟩:=copy_any hC hB25;obtain rfl:=bookC_inj e;obtain ⟨p38,a',q',e,hrow,hid,_,_⟩:=hK;cases e;have hK38:KAt H38 a35 0 c37 []:=row_cellsK hrow (by decide);have p2932:PresX [] H29 H32:=p31.trans p32 fun z hz=>.inr (by rw [List.mem_singleton.1 hz];exact g30);have p39:PresX [] H38 H39:=by rw [e39];exact .push _ _ _
 have hH32:=hH.on0 p2932;have hH39:=(hH32.on0 p38).on0 p39;have hcl:cur.length=ss.length:=by have:=congrArg List.length habs;simpa [absS] using this
 have hs1:=hH.sN;have hs2:=hH.w.lt;have hsm:=hH.small;have hg:H39.get H38.next=some (.cells [.str n,.slice a35 0 c37] 142 2 2 .none false true):=by rw [e39,LHeap.get_push,if_pos rfl]
 have hb:loadN H39 ⟨H38.next,2,0⟩ 2=some (⟨n,a35,0,c37⟩:SheetC).cs:=by unfold loadN;rw [hg];rfl
 have h4:ss.length<4:=by simp at h7;omega
 refine ⟨_,[sad.id],by rw [hQ,hH.L,hH.A];exact s95 sad ⟨H38.next,2,0⟩ cur.length i cur (⟨n,a35,0,c37⟩,[]) H39 hH39.w rfl hsm (by omega) hb (by rw [e39];exact Nat.lt_succ_self _),ins_use,fun z hz=>⟨.inr (by rw [List.mem_singleton.1 hz];omega),fun k s hs=> ?_⟩,fun a42 l43 c44 H45 hD H47 p47 H49 p49 hI49=> ?_⟩
 ·rw [List.mem_singleton.1 hz];rcases k with _ |_ |_ |k
  ·cases hs;show i0≠sad.id;omega
  ·cases hs;show i2≠sad.id;omega
  ·cases hs;show i30≠sad.id;omega
  ·simp [nth] at hs
 obtain ⟨pD,wh,ad,q,B,e,hw,hadid⟩:=hD;cases e;have n2932:=p2932.next;have h30:=(hI32.slot 2 _ rfl).1;simp only at h30;have n3239:=(p38.trans0 p39).next;have hX:∀z∈[sad.id,i30,i2],z=sad.id\/Away x28 cur sad.id cur.length z:=fun z hz=>by
  simp only [List.mem_cons,List.not_mem_nil,or_false] at hz;rcases hz with rfl |rfl |rfl
  ·exact .inl rfl
  ·exact .inr (hH.high g30)
  ·exact .inr (hH.low f2)
 have pA:PresX [sad.id,i30,i2] H39 H49:=((pD.mono (by simp)).trans p47 (by simp)).trans p49 (by simp);have hadn:ad.id≠i30/\ad.id≠i2:=by
  rcases hadid with e |e
  ·rw [e];omega
  ·omega
 have hw49:=(hw.on p47 (by simpa using hadn.1)).on p49 (by simpa using hadn.2);have hnl:(cur.take i++(⟨n,a35,0,c37⟩,[])::cur.drop i).length=cur.length+1:=by rw [List.length_append,List.length_cons,List.length_take,List.length_drop,Nat.min_eq_left (by omega)];omega
 have hK49:KAt H49 a35 0 c37 []:=(hK38.on0 p39).on pA fun z e=>by
  have:=hid z e;simp only [List.mem_cons,List.not_mem_nil,or_false,not_or];omega
 refine ⟨hI49.pres,⟨some ad,cur.length+1,c44,_,_,_,_,_,_⟩,0,rfl,fun _ hN=> ?_⟩;have out:=hH39.out (q:=c44) pA hX hw49 hnl (by omega) (fun s hs=> ?_) (by rcases hadid with e |e<;>omega);refine ⟨_,out.1,out.2.mono hn25,?_⟩
 rotate_left
 ·rcases List.mem_append.1 hs with hs |hs
  ·exact .inl (List.mem_of_mem_take hs)
  ·rcases List.mem_cons.1 hs with rfl |hs
   ·exact .inr ⟨hK49,fun z e=>by have:=hid z e;omega⟩
   ·exact .inl (List.mem_of_mem_drop hs)
 ·have e1:absS (cur.take i++(⟨n,a35,0,c37⟩,[])::cur.drop i)=(absS ss).take i++(n,[])::(absS ss).drop i:=by
   rw [<-habs];unfold absS;rw [List.map_append,List.map_cons,List.map_take,List.map_drop]
  rw [e1];have hN':Nice ((absS ss).take i++(absS ss).drop i):=by rw [List.take_append_drop];exact hN
  refine nice_add hN' (by rw [List.take_append_drop];unfold absS;rw [List.length_map];exact h4) (by simpa using h1) fun p hp=> ?_;rw [List.take_append_drop] at hp;obtain ⟨s,hs,rfl⟩:=List.mem_map.1 hp;have hneg:idxS n ss 0= -1:=by
   apply Classical.byContradiction;intro hne;obtain ⟨j,x,_,_,h7',_⟩:=idxS_at hne;rw [h7'] at h2;simp at h2
  have:=idxS_neg.1 hneg s hs;simpa using this
theorem flat_eq{α:Type}{f:α->List LV}{xs:Nat->List LV}{l:List α}(h:∀(i:Nat) (x:α),l[i]? =some x->xs i=f x):∀n,n<=l.length->(List.range n).flatMap xs=(l.take n).flatMap f
 |0,_=>by simp
 |n+1,hn=>by
  rw [List.range_succ,List.flatMap_append,flat_eq h n (by omega),List.take_succ_eq_append_getElem (by omega),List.flatMap_append];simp [h n _ (List.getElem?_eq_getElem (by omega))]
theorem flat_all{α:Type}{f:α->List LV}{xs:Nat->List LV}{l:List α}{n:Nat}(hl:l.length=n)(h:∀(i:Nat) (x:α),l[i]? =some x->xs i=f x):(List.range n).flatMap xs=l.flatMap f:=by
 rw [flat_eq h n (by omega),List.take_of_length_le (by omega)]
theorem sl_first{H:LHeap}{e:TypeId}{a:Option LAddr}{n s:Nat}{q:Cap}{xs:Nat->List LV}{ds:List D}(h:SliceAtS Tryz.prog H e a n q xs ds)(hc:Tryz.prog.cellsOf e=s):firstCellsL H s n (.slice a n q)=some ((List.range n).flatMap xs):=by
 cases a with
 |none=>
  cases n with
  |zero=>rfl
  |succ n=>have:=h.some 0 (by omega);cases this
 |some ad=>
  simp only [firstCellsL,Nat.ble_eq,Nat.le_refl,if_true];exact loadN_rows (h.zero ad rfl) n xs fun i hi=>by have:=h.load i hi;rwa [hc] at this
theorem sl_id{W:World}{dm:LAddr}{e:TypeId}{a:Option LAddr}{n:Nat}{q:Cap}{xs:Nat->List LV}{ds:List D}(h:SliceAtS Tryz.prog (heapOf W dm) e a n q xs ds):∀ad,a=some ad->ad.id<(heapOf W dm).next:=fun ad e=>heapOf_lt (h.zero ad e)
theorem sl_rep{H:LHeap}{e:TypeId}{a:Option LAddr}{n:Nat}{q:Cap}{xs:Nat->List LV}{ds:List D}(h:SliceAtS Tryz.prog H e a n q xs ds){i:Nat}(hi:i<n):∃d,RepS Tryz.prog H e (xs i) d:=
 ⟨_,h.rep i _ (List.getElem?_eq_getElem (by rw [h.len];exact hi))⟩
theorem cells_of{W:World}{dm:LAddr}{a:Option LAddr}{l:Nat}{q:Cap}{xs:Nat->List LV}{ds:List D}(h:SliceAtS Tryz.prog (heapOf W dm) 149 a l q xs ds):∃ks,l<=1000->KAt (heapOf W dm) a l q ks:=by
 have each:∀i,i<l->∃x:CellC,xs i=x.cs:=by
  intro i hi;obtain ⟨d,hr⟩:=sl_rep h hi;have hr:=repS_leaves 10 149 [3,3,9] (xs i) _ (by kernel_rfl) hr;obtain ⟨c0,t0,g0,e0,z0,al⟩:=AllRepS.head hr;obtain ⟨c1,t1,g1,rfl,z1,al⟩:=AllRepS.head al;obtain ⟨c2,t2,g2,rfl,z2,al⟩:=AllRepS.head al;obtain rfl:=AllRepS.last al;obtain ⟨s0,rfl,_⟩:=RepS.int_inv (t:=3) (k:=.i64) (by kernel_rfl) z0;obtain ⟨s1,rfl,_⟩:=RepS.int_inv (t:=3) (k:=.i64) (by kernel_rfl) z1;obtain ⟨s2,rfl,_⟩:=RepS.str_inv (t:=9) (by kernel_rfl) z2;exact ⟨⟨s0,s1,s2⟩,e0⟩
 obtain ⟨ks,h1,h2⟩:=list_of l each;refine ⟨ks,fun hs=>⟨h1,hs,?_,sl_id h⟩⟩;rw [sl_first h (by kernel_rfl:Tryz.prog.cellsOf 149=3),flat_all h1 h2];rfl
theorem names_of{W:World}{dm:LAddr}{a:Option LAddr}{l:Nat}{q:Cap}{xs:Nat->List LV}{ds:List D}(h:SliceAtS Tryz.prog (heapOf W dm) 33 a l q xs ds):∃nm,l<=1000->NmAt (heapOf W dm) a l q nm:=by
 have each:∀i,i<l->∃x:NameC,xs i=x.cs:=by
  intro i hi;obtain ⟨d,hr⟩:=sl_rep h hi;have hr:=repS_leaves 10 33 [9,9,9] (xs i) _ (by kernel_rfl) hr;obtain ⟨c0,t0,g0,e0,z0,al⟩:=AllRepS.head hr;obtain ⟨c1,t1,g1,rfl,z1,al⟩:=AllRepS.head al;obtain ⟨c2,t2,g2,rfl,z2,al⟩:=AllRepS.head al;obtain rfl:=AllRepS.last al;obtain ⟨s0,rfl,_⟩:=RepS.str_inv (t:=9) (by kernel_rfl) z0;obtain ⟨s1,rfl,_⟩:=RepS.str_inv (t:=9) (by kernel_rfl) z1;obtain ⟨s2,rfl,_⟩:=RepS.str_inv (t:=9) (by kernel_rfl) z2;exact ⟨⟨s0,s1,s2⟩,e0⟩
 obtain ⟨ks,h1,h2⟩:=list_of l each;refine ⟨ks,fun hs=>⟨h1,hs,?_,sl_id h⟩⟩;rw [sl_first h (by kernel_rfl:Tryz.prog.cellsOf 33=3),flat_all h1 h2];rfl
theorem links_of{W:World}{dm:LAddr}{a:Option LAddr}{l:Nat}{q:Cap}{xs:Nat->List LV}{ds:List D}(h:SliceAtS Tryz.prog (heapOf W dm) 152 a l q xs ds):∃lk,firstCellsL (heapOf W dm) 7 l (.slice a l q)=some lk/\lk.length=l*7/\allCells lk=true:=by
 have each:∀i,i<l->∃x:LinkC,xs i=x.cs:=by
  intro i hi;obtain ⟨d,hr⟩:=sl_rep h hi;have hr:=repS_leaves 10 152 [9,9,3,3,3,3,9] (xs i) _ (by kernel_rfl) hr;obtain ⟨c0,t0,g0,e0,z0,al⟩:=AllRepS.head hr;obtain ⟨c1,t1,g1,rfl,z1,al⟩:=AllRepS.head al;obtain ⟨c2,t2,g2,rfl,z2,al⟩:=AllRepS.head al;obtain ⟨c3,t3,g3,rfl,z3,al⟩:=AllRepS.head al;obtain ⟨c4,t4,g4,rfl,z4,al⟩:=AllRepS.head al;obtain ⟨c5,t5,g5,rfl,z5,al⟩:=AllRepS.head al;obtain ⟨c6,t6,g6,rfl,z6,al⟩:=AllRepS.head al;obtain rfl:=AllRepS.last al;obtain ⟨s0,rfl,_⟩:=RepS.str_inv (t:=9) (by kernel_rfl) z0;obtain ⟨s1,rfl,_⟩:=RepS.str_inv (t:=9) (by kernel_rfl) z1;obtain ⟨s2,rfl,_⟩:=RepS.int_inv (t:=3) (k:=.i64) (by kernel_rfl) z2;obtain ⟨s3,rfl,_⟩:=RepS.int_inv (t:=3) (k:=.i64) (by kernel_rfl) z3;obtain ⟨s4,rfl,_⟩:=RepS.int_inv (t:=3) (k:=.i64) (by kernel_rfl) z4;obtain ⟨s5,rfl,_⟩:=RepS.int_inv (t:=3) (k:=.i64) (by kernel_rfl) z5;obtain ⟨s6,rfl,_⟩:=RepS.str_inv (t:=9) (by kernel_rfl) z6;exact ⟨⟨s0,s1,s2,s3,s4,s5,s6⟩,e0⟩
 obtain ⟨ks,h1,h2⟩:=list_of l each;refine ⟨ks.flatMap LinkC.cs,by rw [sl_first h (by kernel_rfl:Tryz.prog.cellsOf 152=7),flat_all h1 h2],?_,?_⟩
 ·rw [<-h1];clear h1 h2;induction ks with
  |nil=>rfl
  |cons x l ih=>rw [List.flatMap_cons,List.length_append,ih,List.length_cons];simp only [LinkC.cs,List.length_cons,List.length_nil];omega
 ·clear h1 h2;induction ks with
  |nil=>rfl
  |cons x l ih=>rw [List.flatMap_cons];exact allCells_app rfl ih
structure BookL (H:LHeap) (b:BookC) (ss:ShL) (nm:List NameC) (lk:List LV):Prop where
 len:ss.length=b.sheetsL
 load:∀(i:Nat) (x:SheetC×List CellC),ss[i]? =some x->b.sheetsA.isSome=true/\(adr b.sheetsA).id<H.next/\loadT cfg.P H 142 ⟨(adr b.sheetsA).id,(adr b.sheetsA).ver,(adr b.sheetsA).off+i*2⟩=some x.1.lv
 wt:b.sheetsL<=4398046511104/\b.namesL<=4398046511104/\b.linksL<=4398046511104/\∀s∈ss,s.1.cellsL<=4398046511104
 at_:b.sheetsL<=4->(∀s∈ss,s.1.cellsL<=1000)->b.namesL<=1000->b.linksL<=1000->BkAt H b ss nm lk
theorem book_of{W:World}{dm:LAddr}{a0 a1 a2:Option LAddr}{l0 l1 l2:Nat}{q0 q1 q2:Cap}{xs0 xs1 xs2:Nat->List LV}{ds0 ds1 ds2:List D}
  (h0:SliceAtS Tryz.prog (heapOf W dm) 142 a0 l0 q0 xs0 ds0) (h1:SliceAtS Tryz.prog (heapOf W dm) 33 a1 l1 q1 xs1 ds1) (h2:SliceAtS Tryz.prog (heapOf W dm) 152 a2 l2 q2 xs2 ds2):∃ss nm lk,BookL (heapOf W dm) ⟨a0,l0,q0,a1,l1,q1,a2,l2,q2⟩ ss nm lk:=by
 obtain ⟨nm,hnm⟩:=names_of h1;obtain ⟨lk,hlk,hll,hla⟩:=links_of h2;have each:∀i,i<l0->∃x:SheetC×List CellC,xs0 i=x.1.cs/\x.1.cellsL<=4398046511104/\(x.1.cellsL<=1000->KAt (heapOf W dm) x.1.cellsA x.1.cellsL x.1.cellsQ x.2):=by
  intro i hi;obtain ⟨d,hr⟩:=sl_rep h0 hi;have hr:=repS_leaves 10 142 [9,49] (xs0 i) _ (by kernel_rfl) hr;obtain ⟨c0,t0,g0,e0,z0,al⟩:=AllRepS.head hr;obtain ⟨c1,t1,g1,rfl,z1,al⟩:=AllRepS.head al;obtain rfl:=AllRepS.last al;obtain ⟨s0,rfl,_⟩:=RepS.str_inv (t:=9) (by kernel_rfl) z0;obtain ⟨a,l,q,xs,ds,rfl,hsl,_⟩:=RepS.slice_inv (t:=49) (e:=149) (by kernel_rfl) z1;obtain ⟨ks,hk⟩:=cells_of hsl;have hw:=hsl.wt;rw [show Tryz.prog.bytesOf 149=32 by kernel_rfl] at hw;unfold reachBytes at hw;exact ⟨(⟨s0,a,l,q⟩,ks),e0,by simp only;omega,hk⟩
 obtain ⟨ss,g1,g2⟩:=list_of l0 each;have w0:=h0.wt;have w1:=h1.wt;have w2:=h2.wt;rw [show Tryz.prog.bytesOf 142=40 by kernel_rfl] at w0;rw [show Tryz.prog.bytesOf 33=48 by kernel_rfl] at w1;rw [show Tryz.prog.bytesOf 152=80 by kernel_rfl] at w2;unfold reachBytes at w0 w1 w2;refine ⟨ss,nm,lk,g1,fun i x hx=> ?_,⟨by simp only;omega,by simp only;omega,by simp only;omega,fun s hs=> ?_⟩,fun k0 k1 k2 k3=>⟨⟨g1,Nat.le_trans k0 (by decide),?_,sl_id h0,fun s hs=> ?_⟩,hnm k2,hlk,hll,hla,k3,sl_id h2⟩⟩
 ·have hi:i<l0:=by rw [<-g1];exact (List.getElem?_eq_some_iff.1 hx).1
  have hld:=h0.load i hi;rw [show Tryz.prog.cellsOf 142=2 by kernel_rfl] at hld;refine ⟨h0.some i hi,heapOf_lt (a:=⟨(adr a0).id,(adr a0).ver,(adr a0).off+i*2⟩) hld,?_⟩;rw [(g2 i x hx).1] at hld;exact load_agg (by kernel_rfl) (by kernel_rfl) hld
 ·obtain ⟨i,hi⟩:=List.getElem?_of_mem hs;exact (g2 i s hi).2.1
 ·show firstCellsL (heapOf W dm) 2 l0 (.slice a0 l0 q0)=some (cellsS ss);rw [sl_first h0 (by kernel_rfl:Tryz.prog.cellsOf 142=2),flat_all g1 fun i x hx=>(g2 i x hx).1];rfl
 ·obtain ⟨i,hi⟩:=List.getElem?_of_mem hs;exact (g2 i s hi).2.2 (k1 s hs)
structure PutL (H:LHeap) (a:Option LAddr) (n:Nat) (l:List PutC):Prop where
 len:l.length=n
 some:∀i,i<n->a.isSome=true/\(adr a).id<H.next
 load:∀(i:Nat) (x:PutC),l[i]? =Option.some x->loadT cfg.P H 51 ⟨(adr a).id,(adr a).ver,(adr a).off+i*6⟩=Option.some x.lv
theorem puts_of{W:World}{dm:LAddr}{a:Option LAddr}{l:Nat}{q:Cap}{xs:Nat->List LV}{ds:List D}(h:SliceAtS Tryz.prog (heapOf W dm) 51 a l q xs ds):∃ps,PutL (heapOf W dm) a l ps:=by
 have each:∀i,i<l->∃x:PutC,xs i=x.cs:=by
  intro i hi;obtain ⟨d,hr⟩:=sl_rep h hi;have hr:=repS_leaves 10 51 [9,3,3,9,3,49] (xs i) _ (by kernel_rfl) hr;obtain ⟨c0,t0,g0,e0,z0,al⟩:=AllRepS.head hr;obtain ⟨c1,t1,g1,rfl,z1,al⟩:=AllRepS.head al;obtain ⟨c2,t2,g2,rfl,z2,al⟩:=AllRepS.head al;obtain ⟨c3,t3,g3,rfl,z3,al⟩:=AllRepS.head al;obtain ⟨c4,t4,g4,rfl,z4,al⟩:=AllRepS.head al;obtain ⟨c5,t5,g5,rfl,z5,al⟩:=AllRepS.head al;obtain rfl:=AllRepS.last al;obtain ⟨s0,rfl,_⟩:=RepS.str_inv (t:=9) (by kernel_rfl) z0;obtain ⟨s1,rfl,_⟩:=RepS.int_inv (t:=3) (k:=.i64) (by kernel_rfl) z1;obtain ⟨s2,rfl,_⟩:=RepS.int_inv (t:=3) (k:=.i64) (by kernel_rfl) z2;obtain ⟨s3,rfl,_⟩:=RepS.str_inv (t:=9) (by kernel_rfl) z3;obtain ⟨s4,rfl,_⟩:=RepS.int_inv (t:=3) (k:=.i64) (by kernel_rfl) z4;obtain ⟨a5,l5,q5,xs5,ds5,rfl,_,_⟩:=RepS.slice_inv (t:=49) (e:=149) (by kernel_rfl) z5;exact ⟨⟨s0,s1,s2,s3,s4,a5,l5,q5⟩,e0⟩
 obtain ⟨ps,h1,h2⟩:=list_of l each;have hld:∀i,i<l->loadN (heapOf W dm) ⟨(adr a).id,(adr a).ver,(adr a).off+i*6⟩ 6=some (xs i):=fun i hi=>by
  have:=h.load i hi
  rwa [show Tryz.prog.cellsOf 51=6 by kernel_rfl] at this
 refine ⟨ps,h1,fun i hi=>⟨h.some i hi,heapOf_lt (a:=⟨(adr a).id,(adr a).ver,(adr a).off+i*6⟩) (hld i hi)⟩,fun i x hx=> ?_⟩;have hi:i<l:=by rw [<-h1];exact (List.getElem?_eq_some_iff.1 hx).1
 have:=hld i hi;rw [h2 i x hx] at this;exact load_agg (by kernel_rfl) (by kernel_rfl) this
def SmallS(b:BookC)(ss:ShL)(H:LHeap):LV->LHeap->Prop:=fun v H'=>PresX [] H H'/\∃c:Bool,v=.bool c/\(c=true->b.sheetsL<=4->(∀s∈ss,s.1.cellsL<=1000)/\b.namesL<=1000/\b.linksL<=1000)
def sumL(ss:ShL):Nat:=(ss.map fun p=>1+p.1.cellsL).sum
theorem sum_take{ss:ShL}{i:Nat}(hi:i<ss.length):sumL (ss.take (i+1))=sumL (ss.take i)+(1+ss[i].1.cellsL):=by
 unfold sumL;rw [List.take_succ_eq_append_getElem hi,List.map_append,List.sum_append];simp
theorem sum_le:∀(ss:ShL) (N:Nat),(∀s∈ss,s.1.cellsL<=N)->sumL ss<=ss.length*(N+1)
 |[],_,_=>Nat.zero_le _
 |x::l,N,h=>by
  have h1:=h x (by simp);have h2:=sum_le l N fun s hs=>h s (by simp [hs]);unfold sumL at h2 |-;rw [List.map_cons,List.sum_cons,List.length_cons,Nat.add_mul];omega
theorem sum_one:∀{ss:ShL} {s:SheetC×List CellC},s∈ss->s.1.cellsL<sumL ss
 |x::l,s,h=>by
  unfold sumL;rw [List.map_cons,List.sum_cons];rcases List.mem_cons.1 h with rfl |h
  ·omega
  ·have:=sum_one h;unfold sumL at this;omega
theorem loop30(b:BookC)(ss:ShL)(nm:List NameC)(lk:List LV)(H0:LHeap)(hL:BookL H0 b ss nm lk)(j:Nat):
  ∀(m i:Nat),i+m=b.sheetsL->∀(n1:Int) (d:Nat->LV) (H:LHeap),(b.sheetsL<=4->n1=((sumL (ss.take i):Nat):Int))->GoesT cfg 30 (SmallS b ss H0) [] H0 [⟨j,b.cs,48⟩] (L30t_0 d (i:Int) n1 b.sheetsA b.sheetsL b.sheetsQ (b.sheetsL:Int)) (loopAt cfg 30 0) H
 |0,i,hi,n1,d,H,hn=>by
  intro hin hI;obtain ⟨w0,w1,w2,w3⟩:=hL.wt;refine g30t_0 _ H0 d i n1 b.sheetsA b.sheetsL b.sheetsQ b.sheetsL j b H ⟨fun h=> ?_,fun h=>⟨fun h1 hI=>⟨hI.pres,_,rfl,fun hc h4=> ?_⟩,fun h1 hI=>⟨hI.pres,_,rfl,fun hc=>by cases hc⟩⟩⟩ hin hI
  ·simp at h;omega
  ·have hs:=hn h4;rw [List.take_of_length_le (by rw [hL.len];omega)] at hs;rw [lwrap_small (by omega) (by omega)] at hc;simp at hc h1;refine ⟨fun s hs'=> ?_,by omega,by omega⟩;have:=sum_one hs';omega
 |m+1,i,hi,n1,d,H,hn=>by
  intro hin hI;obtain ⟨w0,w1,w2,w3⟩:=hL.wt;have hil:i<ss.length:=by rw [hL.len];omega
  obtain ⟨hs,hid,hld⟩:=hL.load i _ (List.getElem?_eq_getElem hil);have hld':=hI.pres.load0 (a:=⟨(adr b.sheetsA).id,(adr b.sheetsA).ver,(adr b.sheetsA).off+i*2⟩) hid hld;refine g30t_0 _ H0 d i n1 b.sheetsA b.sheetsL b.sheetsQ b.sheetsL j b H ⟨fun h=>⟨⟨by omega,by omega,hs⟩,fun _=>⟨ss[i].1,by simpa using hld',fun k H1 gk p1 H2 p2 d14=> ?go⟩⟩,fun h=> ?ge⟩ hin hI
  case ge=>simp at h;omega
  case go=>
   rw [lwrap_small (n:=(i:Int)+1) (by omega) (by omega)];refine loop30 b ss nm lk H0 hL j m (i+1) (by omega) _ d14 H2 fun h4=> ?_;have h5:=hn h4;have h6:=sum_take hil;have h7:=w3 _ (List.getElem_mem hil);have h8:=sum_le (ss.take i) 4398046511104 fun s hs=>w3 s (List.mem_of_mem_take hs);rw [List.length_take,Nat.min_eq_left (by omega)] at h8;have h9:i*(4398046511104+1)<=4*(4398046511104+1):=Nat.mul_le_mul_right _ (by omega);rw [lwrap_small (n:=1+_) (by omega) (by omega),lwrap_small (by omega) (by omega)];omega
theorem s30(b:BookC)(ss:ShL)(nm:List NameC)(lk:List LV)(H:LHeap)(hL:BookL H b ss nm lk):CallL cfg 30 [b.lv] H (SmallS b ss H):=
 e30t _ b H fun i H2 g p d=>loop30 b ss nm lk H hL i b.sheetsL 0 (by omega) 0 d H2 fun _=>by simp [sumL]
theorem s55big(b:BookC)(H:LHeap)(h4:4<b.sheetsL):CallL cfg 55 [b.lv] H (Ret (.int .i64 15) H):=
 e55t _ b H fun i H1 g1 p1=>⟨fun h hI=>.mk hI.pres,fun h=>⟨fun h2 hI=>.mk hI.pres,fun h2 d=>by simp at h2;omega⟩⟩
theorem chk_use{ss:ShL}{H:LHeap}:∀v H',ChkS ss H v H'->PresX [] H H'/\hasSh (.int .i64) v:=fun v H' ⟨p,e,h,_⟩=>⟨p,by rw [h];exact ⟨_,rfl⟩⟩
theorem BkAt.box{H H1 H2:LHeap}{b:BookC}{ss:ShL}{nm:List NameC}{lk:List LV}(h:BkAt H b ss nm lk){i:Nat}(hi:H.next<=i)(p:PresX [] H H1)(k:PresX [i] H1 H2):BkAt H2 b ss nm lk:=
 h.on (X:=[i]) ((p.mono (by simp)).trans k (by simp)) (fun z hz=>by rw [List.mem_singleton.1 hz];exact hi)
theorem step_inv{ss:ShL}{nm:List NameC}{lk:List LV}{H H':LHeap}{x:BookC}{n:Int}(h:StepS ss nm lk H (.tuple [x.lv,.int .i64 n]) H'):PresX [] H H'/\(n=0->Nice (absS ss)->∃ss',BkAt H' x ss' nm lk/\BkFar H.next x ss'/\Nice (absS ss')):=by
 obtain ⟨p,b',e,hv,hok⟩:=h;simp only [LV.tuple.injEq,List.cons.injEq,LV.int.injEq,and_true,true_and] at hv;obtain ⟨h1,rfl⟩:=hv;obtain rfl:=bookC_inj h1;exact ⟨p,hok⟩
theorem put_inv{ss:ShL}{nm:List NameC}{lk:List LV}{n:List UInt8}{r c:Int}{t:List UInt8}{H H':LHeap}{x:BookC}{m:Int}(h:PutS ss nm lk n r c t H (.tuple [x.lv,.int .i64 m]) H')(hN:Nice (absS ss)):PresX [] H H'/\
  (m=0->∃ss',BkAt H' x ss' nm lk/\BkFar H.next x ss'/\Nice (absS ss')/\getS ss' n r c=t/\countS ss'+(if getS ss n r c=[] then 0 else 1)=countS ss+(if t=[] then 0 else 1)):=by
 obtain ⟨p,b',e,hv,hok⟩:=h;simp only [LV.tuple.injEq,List.cons.injEq,LV.int.injEq,and_true,true_and] at hv;obtain ⟨h1,rfl⟩:=hv;obtain rfl:=bookC_inj h1;refine ⟨p,fun h0=> ?_⟩;obtain ⟨hi,ht,A,ks,B,hA,hg,hb,hc,ss',k1,k2,k3⟩:=hok h0;rw [hA] at hN;have hcs:countS ss=countA (A++(n,ks)::B):=by rw [count_abs,hA]
 obtain ⟨l1,l2,l3⟩:=put_law hN hi ht (by rw [<-hcs];exact hc);refine ⟨ss',k1,k2,by rw [k3];exact l1,?_,by rw [count_abs,k3,hcs,hg];exact l3⟩;rw [get_abs,k3];unfold getA;rw [List.find?_append,List.find?_eq_none.2 fun x hx=>by simpa using hb x hx,Option.none_or,List.find?_cons];simp only [beq_self_eq_true];exact l2
theorem nice_len{ss:ShL}{H:LHeap}{b:BookC}{nm:List NameC}{lk:List LV}(hB:BkAt H b ss nm lk)(hN:Nice (absS ss)):countS ss<=200:=by
 rw [count_abs];exact hN.cnt
theorem loop11(a:Option LAddr)(l:Nat)(c:Cap)(ps:List PutC)(nm:List NameC)(lk:List LV)(H0:LHeap)(hL:PutL H0 a l ps)(h60:l<=60)(j:Nat):
  ∀(m i:Nat),i+m=l->∀(b:BookC) (ss:ShL) (d:Nat->LV) (H:LHeap),BkAt H b ss nm lk->Nice (absS ss)->
   GoesT cfg 11 (Ret (.bool true) H0) [] H0 [⟨j,b.cs,48⟩] (L11t_0 d (i:Int) a l c (l:Int)) (loopAt cfg 11 0) H
 |0,i,hi,b,ss,d,H,hB,hN=>by
  intro hin hI;refine g11t_0 _ H0 d i a l c l j b H ⟨fun h=> ?_,fun h hI=>.mk hI.pres⟩ hin hI;simp at h;omega
 |m+1,i,hi,b,ss,d,H,hB,hN=>by
  intro hin hI;have hil:i<ps.length:=by rw [hL.len];omega
  obtain ⟨hs,hidl⟩:=hL.some i (by omega);have hld:=hI.pres.load0 (a:=⟨(adr a).id,(adr a).ver,(adr a).off+i*6⟩) hidl (hL.load i _ (List.getElem?_eq_getElem hil));have next:∀(b:BookC) (ss:ShL) (d:Nat->LV) (H:LHeap),BkAt H b ss nm lk->Nice (absS ss)->
    GoesT cfg 11 (Ret (.bool true) H0) [] H0 [⟨j,b.cs,48⟩] (L11t_0 d (lwrap .i64 ((i:Int)+1)) a l c (l:Int)) (loopAt cfg 11 0) H:=fun b ss d H hB hN=>by
   rw [lwrap_small (by omega) (by omega)];exact loop11 a l c ps nm lk H0 hL h60 j m (i+1) (by omega) b ss d H hB hN
  have hj:=(hI.slot 0 _ rfl).1;simp only at hj;refine g11t_0 _ H0 d i a l c l j b H ⟨fun h=>⟨⟨by omega,by omega,hs⟩,fun _=>⟨ps[i],by simpa using hld,fun i10 H11 g10 p11 H12 p12=> ?go⟩⟩,fun h=> ?ge⟩ hin hI
  case ge=>simp at h;omega
  have q12:PresX [] H H12:=p11.trans p12 fun z hz=>.inr (by rw [List.mem_singleton.1 hz];exact g10);have hB12:=hB.on0 q12;have hj12:j<H12.next:=Nat.lt_of_lt_of_le hj q12.next;have check:∀(b:BookC) (ss:ShL) (H H':LHeap) (n:Int),Nice (absS ss)->ChkS ss H (.int .i64 n) H'->PresX [] H H'/\n=0:=fun b ss H H' n hN ⟨p,e,hv,hok⟩=>⟨p,by cases hv;exact hok.2 ((ok_iff ss).2 hN)⟩;refine ⟨fun h5 hI12=>⟨_,s33 b ss nm lk _ _ H12 hB12,step_use,fun x14 n15 H16 hS i17 H18 g17 p18 H19 p19=> ?_⟩,fun h5 hI12=>⟨_,s56 b ss H12 hB12.sh,Ret.use ⟨_,rfl⟩,fun n44 H45 ⟨e44,p45⟩ hI45=>⟨_,s57 b ss _ _ _ H45 (hB12.on0 p45).sh,Ret.use ⟨_,rfl⟩,fun s47 H48 ⟨e47,p48⟩ hI48=> ?put⟩⟩⟩
  ·obtain ⟨p16,ok14⟩:=step_inv hS;have q1619:PresX [] H16 H19:=p18.trans p19 fun z hz=>.inr (by rw [List.mem_singleton.1 hz];exact g17);have hB19:=(hB12.on0 p16).on0 q1619;have hj16:=Nat.lt_of_lt_of_le hj12 p16.next;have hj19:=Nat.lt_of_lt_of_le hj16 q1619.next;refine ⟨fun h2 hI19=>⟨_,s37 b ss nm lk _ H19 hB19,step_use,fun x21 n22 H23 hS H24 p24=> ?_⟩,fun h2=>⟨fun h0 H34 p34 hI34=> ?_,fun h0 hI19=>⟨_,s55 b ss H19 hB19.sh,chk_use,fun n40 H41 hC=> ?_⟩⟩⟩
   ·obtain ⟨p23,ok21⟩:=step_inv hS;have h17:=(hI19.slot 2 _ rfl).1;have h17':H16.next<=i17:=g17;have q24:PresX [i17] H16 H24:=(((q1619.trans0 p23).mono (by simp)).trans p24 (by simp));refine ⟨fun h0 H25 p25 hI25=> ?_,fun h0 hI24=>⟨_,s55 b ss H24 ((hB12.on0 p16).on q24 fun z hz=>by rw [List.mem_singleton.1 hz];exact h17').sh,chk_use,fun n31 H32 hC=> ?_⟩⟩
    ·obtain ⟨ss',k1,k2,k3⟩:=ok21 (by simpa using h0) hN;have k1':BkAt H24 x21 ss' nm lk:=k2.on k1 p24 h17;have k1'':BkAt H25 x21 ss' nm lk:=k2.on k1' p25 hj19;refine ⟨_,s55 x21 ss' H25 k1''.sh,chk_use,fun n27 H28 hC=> ?_⟩;obtain ⟨p28,rfl⟩:=check x21 ss' _ _ _ k3 hC;exact ⟨fun h=>by simp at h,fun _ d29=>next x21 ss' d29 H28 (k1''.on0 p28) k3⟩
    ·obtain ⟨p32,rfl⟩:=check b ss _ _ _ hN hC;exact ⟨fun h=>by simp at h,fun _ d33=>next b ss d33 H32 (((hB12.on0 p16).on q24 fun z hz=>by rw [List.mem_singleton.1 hz];exact h17').on0 p32) hN⟩
   ·obtain ⟨ss',k1,k2,k3⟩:=ok14 (by simpa using h0) hN;have k1'':BkAt H34 x14 ss' nm lk:=k2.on (k1.on0 q1619) p34 hj12;refine ⟨_,s55 x14 ss' H34 k1''.sh,chk_use,fun n36 H37 hC=> ?_⟩;obtain ⟨p37,rfl⟩:=check x14 ss' _ _ _ k3 hC;exact ⟨fun h=>by simp at h,fun _ d38=>next x14 ss' d38 H37 (k1''.on0 p37) k3⟩
   ·obtain ⟨p41,rfl⟩:=check b ss _ _ _ hN hC;exact ⟨fun h=>by simp at h,fun _ d42=>next b ss d42 H41 (hB19.on0 p41) hN⟩
  case put=>
   cases e44;cases e47;have hB48:=(hB12.on0 p45).on0 p48;have hj48:=Nat.lt_of_lt_of_le hj12 (Nat.le_trans p45.next p48.next);have hcn:=nice_len hB hN;refine ⟨_,s58 b ss nm lk _ _ _ _ H48 hB48 hcn,put_use,fun x50 n51 H52 hS i53 H54 g53 p54 H55 p55=> ?_⟩;obtain ⟨p52,ok⟩:=put_inv hS hN;have q5255:PresX [] H52 H55:=p54.trans p55 fun z hz=>.inr (by rw [List.mem_singleton.1 hz];exact g53);refine ⟨fun h0 d56=>next b ss d56 H55 ((hB48.on0 p52).on0 q5255) hN,fun h0 H57 p57=> ?_⟩;obtain ⟨ss',k1,k2,k3,hget,hcnt⟩:=ok (by simpa using h0);have hB57:BkAt H57 x50 ss' nm lk:=k2.on (k1.on0 q5255) p57 hj48;have hcn':countS ss'<=200:=by rw [count_abs];exact k3.cnt
   have bad:∀{x:Bool},x=true->(!x)=true->False:=fun h k=>by rw [h] at k;cases k
   have bad':∀{x:Bool},x=false->(!x)=false->False:=fun h k=>by rw [h] at k;cases k
   refine ⟨fun ho=>⟨fun ht=>⟨fun h=>(bad ho h).elim,fun _=> ?l1⟩,fun ht=>⟨fun h=>(bad ho h).elim,fun _=> ?l2⟩⟩,fun ho=>⟨fun _=>⟨fun ht=> ?l3,fun ht=> ?l4⟩,fun h=>(bad' ho h).elim⟩⟩
   case' l1=>
    have hx:((countS ss':Nat):Int)=lwrap .i64 (((countS ss:Nat):Int)+1):=by
     rw [lwrap_small (by omega) (by omega)];rw [if_pos (by simpa using ho),if_neg (by simpa using ht)] at hcnt;omega
   case' l2=>
    have hx:((countS ss':Nat):Int)=((countS ss:Nat):Int):=by
     rw [if_pos (by simpa using ho),if_pos (by simpa using ht)] at hcnt;omega
   case' l3=>
    have hx:((countS ss':Nat):Int)=lwrap .i64 (((countS ss:Nat):Int)-1):=by
     rw [lwrap_small (by omega) (by omega)];rw [if_neg (by simpa using ho),if_pos (by simpa using ht)] at hcnt;omega
   case' l4=>
    have hx:((countS ss':Nat):Int)=((countS ss:Nat):Int):=by
     rw [if_neg (by simpa using ho),if_neg (by simpa using ht)] at hcnt;omega
   case l1 |l2 |l3 |l4=>
    refine ⟨rfl,fun hI57=>⟨_,s57 x50 ss' _ _ _ H57 hB57.sh,Ret.use ⟨_,rfl⟩,fun s60 H61 ⟨e60,p61⟩=> ?_⟩⟩;cases e60;rw [hget];refine ⟨fun h=>by simp at h,fun _=>⟨rfl,fun hI61=>⟨_,s56 x50 ss' H61 (hB57.on0 p61).sh,Ret.use ⟨_,rfl⟩,fun n66 H67 ⟨e66,p67⟩=> ?_⟩⟩⟩;cases e66;rw [hx];refine ⟨fun h=>by simp at h,fun _ hI67=>⟨_,s55 x50 ss' H67 ((hB57.on0 p61).on0 p67).sh,chk_use,fun n70 H71 hC=> ?_⟩⟩;obtain ⟨p71,rfl⟩:=check x50 ss' _ _ _ k3 hC;exact ⟨fun h=>by simp at h,fun _ d72=>next x50 ss' d72 H71 (((hB57.on0 p61).on0 p67).on0 p71) k3⟩
theorem small_use{b:BookC}{ss:ShL}{H:LHeap}:∀v H',SmallS b ss H v H'->PresX [] H H'/\hasSh .bool v:=fun v H' ⟨p,c,h,_⟩=>⟨p,by rw [h];exact ⟨_,rfl⟩⟩
theorem s11(b:BookC)(a:Option LAddr)(l:Nat)(c:Cap)(ss:ShL)(nm:List NameC)(lk:List LV)(ps:List PutC)(H:LHeap)(hB:BookL H b ss nm lk)(hP:PutL H a l ps):CallL cfg 11 [b.lv,.slice a l c] H (Ret (.bool true) H):=by
 refine e11t _ b a l c H fun i4 H5 g4 p5 hI5=> ?_;have hB5:BookL H5 b ss nm lk:=⟨hB.len,fun i x hx=>⟨(hB.load i x hx).1,Nat.lt_of_lt_of_le (hB.load i x hx).2.1 hI5.pres.next,hI5.pres.load0 (a:=⟨(adr b.sheetsA).id,(adr b.sheetsA).ver,(adr b.sheetsA).off+i*2⟩) (hB.load i x hx).2.1 (hB.load i x hx).2.2⟩,hB.wt,fun k0 k1 k2 k3=>(hB.at_ k0 k1 k2 k3).on0 hI5.pres⟩;refine ⟨_,s30 b ss nm lk H5 hB5,small_use,fun b7 H8 ⟨p8,b',e7,hsm⟩=>⟨fun _ hI=>.mk hI.pres,fun h7=>⟨fun _ hI=>.mk hI.pres,fun h60 hI8=> ?_⟩⟩⟩;cases e7;by_cases h4:b.sheetsL<=4
 ·obtain ⟨m1,m2,m3⟩:=hsm (by simpa using h7) h4;have hB8:=(hB5.at_ h4 m1 m2 m3).on0 p8;refine ⟨_,s55 b ss H8 hB8.sh,chk_use,fun n10 H11 ⟨p11,e,hv,hok⟩=>⟨fun _ hI=>.mk hI.pres,fun h0 d12=> ?_⟩⟩;cases hv;have hN:=(ok_iff ss).1 (hok.1 (by simpa using h0));exact loop11 a l c ps nm lk H hP (by simp at h60;omega) i4 l 0 (by omega) b ss d12 H11 (hB8.on0 p11) hN
 ·refine ⟨_,s55big b H8 (by omega),Ret.use ⟨_,rfl⟩,fun n10 H11 ⟨e,p11⟩=> ?_⟩;cases e;exact ⟨fun _ hI=>.mk hI.pres,fun h=>by simp at h⟩
end Go.Proofs.YtjihhflffkoffaaGreatDoor.Z
