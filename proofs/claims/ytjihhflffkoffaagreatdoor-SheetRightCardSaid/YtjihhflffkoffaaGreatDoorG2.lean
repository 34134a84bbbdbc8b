/- Contracts of functions of the program; no condition. -/
import Derived.Test.YtjihhflffkoffaaGreatDoorG1
import Derived.Test.YtjihhflffkoffaaGreatDoorG0
import Derived.Test.YtjihhflffkoffaaGreatDoorLe
set_option linter.unusedSimpArgs false
set_option linter.unusedVariables false
set_option linter.unusedSectionVars false
set_option linter.unnecessarySimpa false
namespace Go.Proofs.YtjihhflffkoffaaGreatDoor.Z
open Go Go.Lm
set_option maxRecDepth 1000000
set_option maxHeartbeats 0
theorem u49:cfg.P.underlying 49=some (.slice 149):=by kernel_rfl
theorem z149:sizeOfT cfg.P 149=some 3:=by kernel_rfl
theorem e49:elemOfSlice cfg.P 49=some 149:=by kernel_rfl
theorem app_hereK{H H':LHeap}{a:LAddr}{n c:Nat}{x:LV}{V:List LV}(hx:lenL x=some 1)(hf:firstCellsL H 3 1 x=some V)(hV:V.length=3)(hc:n+1<=c)(hn:n<=1000)(hs:storeN H ⟨a.id,a.ver,a.off+n*3⟩ V=some H'):
  appendL cfg.P H [49,49] [.slice (some a) n (.exact c),x]=some (.slice (some a) (n+1) (.exact c),H'):=by
 unfold appendL;simp only [rowT149.elem,rowT149.sized,rowT149.bytes,rowT149.noInt,rowT149.und,hx,hf,Bool.false_eq_true,if_false];unfold appendCells;simp only [show zeroOf cfg.P 149=some nilCell.lv by kernel_rfl];rw [if_neg (by decide),if_neg (by simp [hV,Nat.ble_eq];omega),if_neg (by decide),if_pos (by rw [Nat.ble_eq];exact hc)];unfold appendHere;rw [hs]
theorem app_zerosK{H:LHeap}{a:LAddr}{i k c:Nat}{old:List LV}(hf:firstCellsL H 3 i (.slice (some a) i (.exact c))=some old)(ho:allCells old=true)(hol:old.length=i*3)(hc:c<i+k)(hk:0<k)(hs:i+k<=1001):
  appendL cfg.P H [49,3] [.slice (some a) i (.exact c),.int .i64 (k:Nat)]=some (.slice (some ⟨H.next,(i+k)*3,0⟩) (i+k) (.free 3),H.push (.cells (old++zerosK k) 149 ((i+k)*3) ((i+k)*3) .none false false)):=by
 have hl:(old++zerosK k).length=(i+k)*3:=by rw [List.length_append,hol,zerosK_eq,cellsK_len,List.length_replicate,Nat.add_mul]
 have hz:allCells (old++zerosK k)=true:=allCells_app ho (by rw [zerosK_eq];exact cellsK_all _);unfold appendL;simp only [rowT149.elem,rowT149.sized,rowT149.bytes,show isIntT cfg.P 3=true by kernel_rfl,if_true,show zeroOf cfg.P 149=some nilCell.lv by kernel_rfl];rw [if_pos (by rw [Nat.ble_eq];omega)];have hzl:(zerosK k).length=k*3:=by rw [zerosK_eq,cellsK_len,List.length_replicate]
 unfold appendCells;simp only [show zeroOf cfg.P 149=some nilCell.lv by kernel_rfl];have hzl':(repl k nilCell.lv.cells []).length=k*3:=hzl;rw [if_neg (by simp [Nat.beq_eq];omega),if_neg (by rw [hzl'];simp [Nat.ble_eq];omega),if_neg (by decide),if_neg (by rw [Nat.ble_eq];omega)];simp only [hf];unfold growL;rw [show repl k nilCell.lv.cells []=zerosK k from rfl,newRow_get hz];simp only [hl]
def InsK(r n:Nat)(l:List CellC)(H:LHeap):LV->LHeap->Prop:=fun v H'=>PresX [r] H H'/\∃ad q B,v=.slice (some ad) n q/\WAt H' ad 149 [] (cellsK l) B/\QOK ad n 3 q/\(ad.id=r\/H.next<=ad.id)
theorem ins_cellsK(l:List CellC)(i:Nat)(x:CellC):cellsK (l.take i++x::l.drop i)=cellsK (l.take i)++(x.cs++cellsK (l.drop i)):=by
 rw [cellsK_app,<-List.singleton_append,cellsK_app,cellsK_one]
theorem s127x(a b:LAddr)(n c i:Nat)(nm:List CellC)(x:CellC)(J:List LV)(H:LHeap)(hW:WAt H a 149 [] (cellsK nm) J)(hJ:J.length=(c-n)*3)(hn:nm.length=n)(hsm:n<=1000)(hc:n<=c)(hi:i<=n)
  (hb:loadN H b 3=some x.cs) (hbl:b.id<H.next) (hbne:b.id≠a.id) (hbo:∃cs e v m wh,H.get b.id=some (.cells cs e v m .none false wh)/\m<=b.ver):
  CallL cfg 127 [.slice (some a) n (.exact c),.int .i64 i,.slice (some b) 1 (.exact 1)] H (InsK a.id (n+1) (nm.take i++x::nm.drop i) H):=by
 have hq:QOK a n 3 (.exact c):=.inl ⟨c,rfl,hc⟩;have hlt:=hW.lt;obtain ⟨b1,q1,g1,gi1,gq1,ga1⟩:=slice_lo (k:=.i64) u49 z149 (by decide) hq hi;have ok:∀(i:Nat),i∈[a.id]->okId [a.id] H [] i:=fun i hi=>⟨.inl hi,fun k s hs=>by simp [nth] at hs⟩;have fb:∀H',loadN H' b 3=some x.cs->firstCellsL H' 3 1 (.slice (some b) 1 (.exact 1))=some x.cs:=fun H' h=>h;have hlen:(cellsK nm).length=n*3:=by rw [cellsK_len,hn]
 have w1:lwrap .i64 ((n:Int)+1)=((n+1:Nat):Int):=by rw [lwrap_small (by omega) (by omega)];rfl
 have w2:lwrap .i64 ((i:Int)+1)=((i+1:Nat):Int):=by rw [lwrap_small (by omega) (by omega)];rfl
 have w3:lwrap .i64 (((n+1:Nat):Int)-(i:Int))=((n+1-i:Nat):Int):=by rw [lwrap_small (by omega) (by omega)];omega
 refine e127e _ [a.id] (some a) n c i b H ⟨some b1,n-i,q1,g1,fun hin hI=> ?caseA,fun hin=>⟨fun hcap=> ?caseB,fun hcap=> ?caseC⟩⟩
 case caseA=>
  have hin':(i:Int)=n:=by simpa using hin
  have hin:i=n:=by omega
  have hl:nm.take i++x::nm.drop i=nm++[x]:=by rw [List.take_of_length_le (by omega),List.drop_of_length_le (by omega)]
  rw [hl];by_cases hroom:n+1<=c
  ·have hW2:WAt H a 149 [] (cellsK nm++(J.take 3++[])) (J.drop 3):=by
    rw [List.append_nil];exact wat_wide (by rw [List.take_append_drop];exact hW)
   obtain ⟨H',h1,h2,h3⟩:=hW2.putAt (V:=x.cs) (by rw [List.length_take,hJ];simp only [CellC.cs,List.length_cons,List.length_nil];omega) rfl;rw [hlen] at h1;refine ⟨[a.id],some a,n+1,.exact c,H',⟨app_hereK rfl (fb H hb) rfl hroom hsm h1,h3,ok⟩,fun hI2=>⟨hI2.pres,a,.exact c,J.drop 3,rfl,?_,.inl ⟨c,rfl,hroom⟩,.inl rfl⟩⟩;rw [cellsK_app,cellsK_one];rw [List.append_nil] at h2;exact h2
  ·obtain rfl:c=n:=by omega
   have hr:RowAt H 149 3 (some a) c (.exact c) (cellsK nm):=.full a c _ hlt (by have:=hW.load;rwa [hlen] at this) hlen (cellsK_all _);obtain ⟨Y,a',q',H',h1,h2,h3,h4,h5,h6⟩:=hr.append2 rowT149 (x:=.slice (some b) 1 (.exact 1)) (m:=1) (new:=x.cs) rfl (fb H hb) rfl rfl (by omega);obtain rfl:=h6 (by decide);obtain ⟨ad,rfl,ho,hv,hw⟩:=h3.wat;have hY:∀i∈Y,i∈[a.id]:=fun i hi=>by
    obtain ⟨ad',e',rfl⟩:=h4 i hi;cases e';simp
   refine ⟨Y,some ad,c+1,.free 3,H',⟨h1,h2,fun i hi=>ok i (hY i hi)⟩,fun hI2=>⟨hI2.pres,ad,.free 3,[],rfl,?_,.inr ⟨rfl,by rw [ho,hv];omega⟩,?_⟩⟩
   ·rw [cellsK_app,cellsK_one];exact hw
   ·rcases h5 ad rfl with ⟨ad',e',e''⟩ |hge
    ·cases e';exact .inl e''.symm
    ·exact .inr hge
 case caseB=>
  have hin:i<n:=by
   have:¬((i:Int)=n):=by simpa using hin
   omega
  rw [w1] at hcap;obtain rfl:c=n:=by
   have:(c:Int)<((n+1:Nat):Int):=by simpa using hcap
   omega
  rw [w1,w3,w2];have hold:firstCellsL H 3 i (.slice (some a) i (.exact c))=some (cellsK (nm.take i)):=by
   simp only [firstCellsL,Nat.ble_eq,Nat.le_refl,if_true];have hs:=hW;rw [show cellsK nm=[]++(cellsK (nm.take i)++cellsK (nm.drop i)) by rw [List.nil_append,<-cellsK_app,List.take_append_drop]] at hs;have:=hs.loadAt;rw [cellsK_len,List.length_take,Nat.min_eq_left (by omega)] at this;simpa using this
  have hol:(cellsK (nm.take i)).length=i*3:=by rw [cellsK_len,List.length_take,Nat.min_eq_left (by omega)]
  have happ:=app_zerosK (k:=c+1-i) hold (cellsK_all _) hol (by omega) (by omega) (by omega);rw [show i+(c+1-i)=c+1 by omega] at happ;refine ⟨some a,i,.exact c,slice_hi u49 z149 (by decide) hq hi,fun hI=>⟨[],_,_,_,_,⟨happ,.push _ _ _,fun i hi=>by cases hi⟩,?_⟩⟩;have hz:zerosK (c+1-i)=nilCell.cs++zerosK (c-i):=by
   rw [zerosK_eq,zerosK_eq,show c+1-i=(c-i)+1 by omega,List.replicate_succ,<-List.singleton_append,cellsK_app,cellsK_one]
  have hzl:(zerosK (c-i)).length=(c-i)*3:=by rw [zerosK_eq,cellsK_len,List.length_replicate]
  have hW1:WAt (H.push (.cells (cellsK (nm.take i)++zerosK (c+1-i)) 149 ((c+1)*3) ((c+1)*3) .none false false)) ⟨H.next,(c+1)*3,0⟩ 149 [] (cellsK (nm.take i)++(nilCell.cs++zerosK (c-i))) []:=by
   refine ⟨⟨(c+1)*3,?_,Nat.le_refl _⟩,rfl,?_,Nat.lt_succ_self _,?_⟩
   ·rw [LHeap.get_push,if_pos rfl,hz];simp
   ·simp only [List.nil_append,List.append_nil,List.length_append,hol,hzl];simp only [CellC.cs,List.length_cons,List.length_nil];omega
   ·simp only [List.nil_append,List.append_nil];exact allCells_app (cellsK_all _) (allCells_app rfl (by rw [zerosK_eq];exact cellsK_all _))
  generalize hH1:H.push (.cells (cellsK (nm.take i)++zerosK (c+1-i)) 149 ((c+1)*3) ((c+1)*3) .none false false)=H1 at hW1 |-;have p1:PresX [] H H1:=by rw [<-hH1];exact .push _ _ _
  have hq2:QOK ⟨H.next,(c+1)*3,0⟩ (c+1) 3 (.free 3):=.inr ⟨rfl,by simp⟩;obtain ⟨b2,q2,g2,gi2,gq2,ga2⟩:=slice_lo (k:=.i64) u49 z149 (by decide) hq2 (i:=i) (by omega);obtain ⟨b3,q3,g3,gi3,gq3,ga3⟩:=slice_lo (k:=.i64) u49 z149 (by decide) hq2 (i:=i+1) (by omega);obtain ⟨H2,k1,k2,k3⟩:=hW1.putAt (V:=x.cs) rfl rfl;rw [hol] at k1;have ok2:∀i∈[H.next],okId [a.id] H [] i:=fun i hi=>⟨.inr (by rw [List.mem_singleton.1 hi];exact Nat.le_refl _),fun k s hs=>by simp [nth] at hs⟩;have p2:PresX [H.next] H H2:=(p1.mono (by simp)).trans k3 fun i hi=>.inl hi;have k2':WAt H2 ⟨H.next,(c+1)*3,0⟩ 149 [] ((cellsK (nm.take i)++x.cs)++(zerosK (c-i)++[])) []:=by simpa [List.append_assoc] using k2
  obtain ⟨H3,m1,m2,m3⟩:=k2'.putAt (V:=cellsK (nm.drop i)) (by rw [cellsK_len,List.length_drop,hn,hzl]) (cellsK_all _);rw [List.length_append,hol,show i*3+x.cs.length=(i+1)*3 by simp only [CellC.cs,List.length_cons,List.length_nil];omega] at m1;refine ⟨some b2,_,q2,g2,fun hI1=>⟨((1:Nat):Int),[H.next],H2,⟨opB_copy (copyL_of e49 z149 rfl (by omega) (fb H1 ((p1.keep b.id hbl (by simp)).loads b 3 _ rfl hb)) (by rw [ga2 (by omega)];exact k1)),k3,ok2⟩,some b3,_,q3,g3,some b1,_,q1,g1,fun hI2=>⟨((c-i:Nat):Int),[H.next],H3,⟨opB_copy (copyL_of e49 z149 rfl (by omega) (V:=cellsK (nm.drop i)) ?_ (by rw [ga3 (by omega)];exact m1)),m3,ok2⟩,fun hI3=>⟨hI3.pres,⟨H.next,(c+1)*3,0⟩,.free 3,[],rfl,?_,hq2,.inr (Nat.le_refl _)⟩⟩⟩⟩
  ·show (if Nat.ble (c-i) (c-i) then loadN H2 b1 ((c-i)*3) else none)=_;rw [if_pos (by simp),ga1 (by omega)];have hs:=hW.on p2 (by simp;omega);rw [show cellsK nm=cellsK (nm.take i)++(cellsK (nm.drop i)++[]) by rw [List.append_nil,<-cellsK_app,List.take_append_drop]] at hs;have:=hs.loadAt;rw [hol,cellsK_len,List.length_drop,hn] at this;exact this
  ·rw [ins_cellsK];simpa [List.append_assoc] using m2
 case caseC=>
  have hin:i<n:=by
   have:¬((i:Int)=n):=by simpa using hin
   omega
  rw [w1] at hcap;have hroom:n+1<=c:=by
   have:¬((c:Int)<((n+1:Nat):Int)):=by simpa using hcap
   omega
  rw [w1,w2];have hq2:QOK a (n+1) 3 (.exact c):=.inl ⟨c,rfl,hroom⟩;obtain ⟨b4,q4,g4,gi4,gq4,ga4⟩:=slice_lo (k:=.i64) u49 z149 (by decide) hq2 (i:=i+1) (by omega);obtain ⟨b5,q5,g5,gi5,gq5,ga5⟩:=slice_lo (k:=.i64) u49 z149 (by decide) hq2 (i:=i) (by omega);have hol:(cellsK (nm.take i)).length=i*3:=by rw [cellsK_len,List.length_take,Nat.min_eq_left (by omega)]
  have hol1:(cellsK (nm.take (i+1))).length=(i+1)*3:=by rw [cellsK_len,List.length_take,Nat.min_eq_left (by omega)]
  have hW2:WAt H a 149 [] (cellsK (nm.take (i+1))++((cellsK (nm.drop (i+1))++J.take 3)++[])) (J.drop 3):=by
   have:WAt H a 149 [] (cellsK nm++J.take 3) (J.drop 3):=wat_wide (by rw [List.take_append_drop];exact hW);rw [show cellsK nm=cellsK (nm.take (i+1))++cellsK (nm.drop (i+1)) by rw [<-cellsK_app,List.take_append_drop]] at this;simpa [List.append_assoc] using this
  obtain ⟨H2,k1,k2,k3⟩:=hW2.putAt (V:=cellsK (nm.drop i)) (by rw [List.length_append,cellsK_len,cellsK_len,List.length_drop,List.length_drop,List.length_take,hn,hJ];omega) (cellsK_all _);rw [hol1] at k1;have hx:nm[i]? =some nm[i]:=List.getElem?_eq_getElem (by omega);have k2':WAt H2 a 149 [] (cellsK (nm.take i)++(nm[i].cs++cellsK (nm.drop i))) (J.drop 3):=by
   have e:cellsK (nm.take (i+1))=cellsK (nm.take i)++nm[i].cs:=by rw [List.take_succ_eq_append_getElem (by omega),cellsK_app,cellsK_one]
   rw [e] at k2;simpa [List.append_assoc] using k2
  obtain ⟨H3,m1,m2,m3⟩:=k2'.putAt (V:=x.cs) rfl rfl;rw [hol] at m1;obtain ⟨cs',e',v',m',wh',gb,gm⟩:=hbo;obtain ⟨mv,ga,gv⟩:=hW.get;refine ⟨some a,n+1,.exact c,slice_ext u49 z149 hroom,some b4,_,q4,g4,false,H,?_,fun _=>⟨some b4,_,q4,g4,some b5,_,q5,g5,fun hI=>⟨((n-i:Nat):Int),[a.id],H2,⟨opB_copy (copyL_of e49 z149 rfl (by omega) (V:=cellsK (nm.drop i)) ?_ (by rw [ga4 (by omega)];exact k1)),k3,ok⟩,some b5,_,q5,g5,fun hI2=>⟨((1:Nat):Int),[a.id],H3,⟨opB_copy (copyL_of e49 z149 rfl (by omega) (fb H2 ((k3.keep b.id hbl (by simpa using hbne)).loads b 3 _ rfl hb)) (by rw [ga5 (by omega)];exact m1)),m3,ok⟩,fun hI3=>⟨hI3.pres,a,.exact c,J.drop 3,rfl,?_,hq2,.inl rfl⟩⟩⟩⟩,fun h=>by simp at h⟩
  ·unfold extL;simp only [e49,z149];rw [ga4 (by omega)];have hne:Nat.beq b.id a.id=false:=by
    cases hbq:Nat.beq b.id a.id with
    |true=>exact absurd (Nat.eq_of_beq_eq_true hbq) hbne
    |false=>rfl
   simp only [hne,gb,ga];rw [if_neg (by simp [Nat.beq_eq];omega),if_neg (by simp),if_pos (by simp only [Bool.and_eq_true,Nat.ble_eq];exact ⟨gm,gv⟩)]
  ·show (if Nat.ble (n-i) (n+1-i) then loadN H b5 ((n-i)*3) else none)=_;rw [if_pos (by rw [Nat.ble_eq];omega),ga5 (by omega)];have hs:=hW;rw [show cellsK nm=cellsK (nm.take i)++(cellsK (nm.drop i)++[]) by rw [List.append_nil,<-cellsK_app,List.take_append_drop]] at hs;have:=hs.loadAt;rw [hol,cellsK_len,List.length_drop,hn] at this;exact this
  ·rw [ins_cellsK];exact m2
def keyC(x:CellC):Int:=x.row*27+x.col
def insideC(r c:Int):Bool:=decide (1<=r/\r<=64/\1<=c/\c<=26)
def isC(r c:Int)(x:CellC):Bool:=x.row==r&&x.col==c
def aftC(r c:Int)(x:CellC):Bool:=decide (x.row>r)||(x.row==r&&decide (x.col>c))
def getC(r c:Int)(l:List CellC):List UInt8:=match l.find? (isC r c) with
 |some x=>x.text
 |none=>[]
structure CellsOK (l:List CellC):Prop where
 ins:∀x∈l,insideC x.row x.col=true/\x.text≠[]
 srt:l.Pairwise fun a b=>keyC a<keyC b
theorem isC_eq{r c:Int}{x:CellC}(h:isC r c x=true):x.row=r/\x.col=c:=by
 simpa [isC] using h
theorem isC_key{r c:Int}{x y:CellC}(h:isC r c x=true)(k:isC r c y=true):keyC x=keyC y:=by
 obtain ⟨h1,h2⟩:=isC_eq h;obtain ⟨k1,k2⟩:=isC_eq k;unfold keyC;rw [h1,h2,k1,k2]
theorem cell_at{r c:Int}:∀{l:List CellC},(l.Pairwise fun a b=>keyC a<keyC b)->(∀x∈l,isC r c x=false)\/∃A x B,l=A++x::B/\isC r c x=true/\(∀y∈A,isC r c y=false)/\∀y∈B,isC r c y=false
 |[],_=>.inl fun x h=>by cases h
 |x::l,h=>by
  obtain ⟨h1,h2⟩:=List.pairwise_cons.1 h;by_cases hx:isC r c x=true
  ·refine .inr ⟨[],x,l,rfl,hx,(fun y hy=>by cases hy),fun y hy=> ?_⟩;cases hp:isC r c y with
   |false=>rfl
   |true=>
    have:=h1 y hy;have:=isC_key hx hp;omega
  ·have hx':isC r c x=false:=by simpa using hx
   rcases cell_at (r:=r) (c:=c) h2 with hn |⟨A,z,B,e,hz,hA,hB⟩
   ·refine .inl fun y hy=> ?_;rcases List.mem_cons.1 hy with rfl |hy
    ·exact hx'
    ·exact hn y hy
   ·refine .inr ⟨x::A,z,B,by rw [e];rfl,hz,fun y hy=> ?_,hB⟩;rcases List.mem_cons.1 hy with rfl |hy
    ·exact hx'
    ·exact hA y hy
theorem keep_none{P:CellC->Bool}{l:List CellC}(h:∀x∈l,P x=false):keepK P l=l:=List.filter_eq_self.2 fun y hy=>by rw [h y hy];rfl
theorem get_none{r c:Int}{l:List CellC}(h:∀x∈l,isC r c x=false):getC r c l=[]:=by
 unfold getC;rw [List.find?_eq_none.2 fun x hx=>by rw [h x hx];simp]
theorem get_mid{r c:Int}{A B:List CellC}{x:CellC}(hx:isC r c x=true)(hA:∀y∈A,isC r c y=false):getC r c (A++x::B)=x.text:=by
 unfold getC;rw [List.find?_append,List.find?_eq_none.2 fun y hy=>by rw [hA y hy];simp,Option.none_or,List.find?_cons,hx]
theorem keep_ok{l:List CellC}(h:CellsOK l)(P:CellC->Bool):CellsOK (keepK P l):=
 ⟨fun x hx=>h.ins x (List.mem_filter.1 hx).1,List.Pairwise.sublist List.filter_sublist h.srt⟩
def atC(r c:Int)(l:List CellC):Nat:=if idxK (aftC r c) l 0<0 then l.length else (idxK (aftC r c) l 0).toNat
theorem at_spec(r c:Int)(l:List CellC):atC r c l<=l.length/\(∀y∈l.take (atC r c l),aftC r c y=false)/\∀y,l[atC r c l]? =some y->aftC r c y=true:=by
 unfold atC;by_cases h:idxK (aftC r c) l 0= -1
 ·rw [h,if_pos (by decide),List.take_length];exact ⟨Nat.le_refl _,idxK_neg.1 h,fun y hy=>by simp at hy⟩
 ·obtain ⟨j,x,h1,h2,h3,h4⟩:=idxK_at h;rw [h3,Nat.zero_add,if_neg (by omega),Int.toNat_natCast];exact ⟨Nat.le_of_lt (List.getElem?_eq_some_iff.1 h1).1,h4,fun y hy=>by rw [h1] at hy;cases hy;exact h2⟩
theorem aft_key{r c:Int}{x:CellC}(hx:insideC x.row x.col=true)(hr:insideC r c=true):aftC r c x=true↔r*27+c<keyC x:=by
 have h1:1<=x.row/\x.row<=64/\1<=x.col/\x.col<=26:=by simpa [insideC] using hx
 have h2:1<=r/\r<=64/\1<=c/\c<=26:=by simpa [insideC] using hr
 unfold aftC keyC;simp only [Bool.or_eq_true,Bool.and_eq_true,decide_eq_true_eq,beq_iff_eq];omega
def insC(l:List CellC)(i:Nat)(x:CellC):List CellC:=l.take i++x::l.drop i
def putC(l:List CellC)(x:CellC):List CellC:=
 if x.text=[] then keepK (isC x.row x.col) l else insC (keepK (isC x.row x.col) l) (atC x.row x.col (keepK (isC x.row x.col) l)) x
theorem put_ok{l:List CellC}(h:CellsOK l){x:CellC}(hx:insideC x.row x.col=true):
  CellsOK (putC l x)/\getC x.row x.col (putC l x)=x.text/\(∀y∈putC l x,y=x\/y∈l)/\
   (putC l x).length+(if getC x.row x.col l=[] then 0 else 1)=l.length+(if x.text=[] then 0 else 1):=by
 have hk:=keep_ok h (isC x.row x.col);have hno:∀y∈keepK (isC x.row x.col) l,isC x.row x.col y=false:=fun y hy=>by simpa using (List.mem_filter.1 hy).2
 have hlen:(keepK (isC x.row x.col) l).length+(if getC x.row x.col l=[] then 0 else 1)=l.length:=by
  rcases cell_at (r:=x.row) (c:=x.col) h.srt with hn |⟨A,z,B,e,hz,hA,hB⟩
  ·rw [keep_none hn,get_none hn,if_pos rfl];rfl
  ·rw [e,get_mid hz hA];have hz0:=(h.ins z (by rw [e];simp)).2;rw [if_neg hz0];unfold keepK;rw [List.filter_append,List.filter_cons,hz];have f1:=keep_none hA;have f2:=keep_none hB;unfold keepK at f1 f2;rw [f1,f2];simp;omega
 unfold putC;by_cases ht:x.text=[]
 ·rw [if_pos ht,if_pos ht];refine ⟨hk,by rw [get_none hno,ht],fun y hy=>.inr (List.mem_filter.1 hy).1,by omega⟩
 ·rw [if_neg ht,if_neg ht];obtain ⟨a1,a2,a3⟩:=at_spec x.row x.col (keepK (isC x.row x.col) l);have hsub:∀y∈keepK (isC x.row x.col) l,y∈l:=fun y hy=>(List.mem_filter.1 hy).1;generalize keepK (isC x.row x.col) l=k at*;generalize atC x.row x.col k=i at*;have hxk:keyC x=x.row*27+x.col:=rfl;have hlow:∀y∈k.take i,keyC y<keyC x:=fun y hy=>by
   have hm:=List.mem_of_mem_take hy;have hn:=a2 y hy;have h1:=aft_key (hk.ins y hm).1 hx;have h2:¬x.row*27+x.col<keyC y:=fun hh=>by rw [h1.2 hh] at hn;cases hn
   have h3:=hno y hm;have h4:1<=y.row/\y.row<=64/\1<=y.col/\y.col<=26:=by simpa [insideC] using (hk.ins y hm).1
   have h5:1<=x.row/\x.row<=64/\1<=x.col/\x.col<=26:=by simpa [insideC] using hx
   have h6:¬(y.row=x.row/\y.col=x.col):=by rintro ⟨p,q⟩;simp [isC,p,q] at h3
   unfold keyC at h2 |-;omega
  have hhigh:∀y∈k.drop i,keyC x<keyC y:=fun y hy=>by
   cases hd:k.drop i with
   |nil=>rw [hd] at hy;cases hy
   |cons z m=>
    have hz:k[i]? =some z:=by
     have:=congrArg (fun l=>l[0]?) hd;simpa [List.getElem?_drop] using this
    have hzm:z∈k:=List.mem_of_getElem? hz;have hzk:=(aft_key (hk.ins z hzm).1 hx).1 (a3 z hz);rw [hd] at hy;rcases List.mem_cons.1 hy with rfl |hm
    ·exact hzk
    ·have hs:(z::m).Pairwise fun a b=>keyC a<keyC b:=by rw [<-hd];exact List.Pairwise.sublist (List.drop_sublist _ _) hk.srt
     have:=(List.pairwise_cons.1 hs).1 y hm;omega
  refine ⟨⟨fun y hy=> ?_,?_⟩,?_,fun y hy=> ?_,?_⟩
  ·unfold insC at hy;rcases List.mem_append.1 hy with hy |hy
   ·exact hk.ins y (List.mem_of_mem_take hy)
   ·rcases List.mem_cons.1 hy with rfl |hy
    ·exact ⟨hx,ht⟩
    ·exact hk.ins y (List.mem_of_mem_drop hy)
  ·unfold insC;refine List.pairwise_append.2 ⟨List.Pairwise.sublist (List.take_sublist _ _) hk.srt,List.pairwise_cons.2 ⟨hhigh,List.Pairwise.sublist (List.drop_sublist _ _) hk.srt⟩,fun a ha b hb=> ?_⟩;rcases List.mem_cons.1 hb with rfl |hb
   ·exact hlow a ha
   ·have:=hlow a ha;have:=hhigh b hb;omega
  ·unfold insC;exact get_mid (by simp [isC]) fun y hy=>hno y (List.mem_of_mem_take hy)
  ·unfold insC at hy;rcases List.mem_append.1 hy with hy |hy
   ·exact .inr (hsub y (List.mem_of_mem_take hy))
   ·rcases List.mem_cons.1 hy with rfl |hy
    ·exact .inl rfl
    ·exact .inr (hsub y (List.mem_of_mem_drop hy))
  ·unfold insC;rw [List.length_append,List.length_cons,List.length_take,List.length_drop];omega
def L94t_0(d:Nat->LV)(n0:Int)(a1:Option LAddr)(l2:Nat)(c3:Cap)(n4:Int):List SV:=[.lv (d 0),.own 0 0,.own 1 0,.lv (.slice a1 l2 c3)]++dl d 4 10++[.lv (I6 n4),.lv (I6 n0)]++dl d 16 21
def L55t_1(d:Nat->LV)(n0:Int)(a1:Option LAddr)(l2:Nat)(c3:Cap)(f4:Nat)(n5:Int):List SV:=[.lv (d 0),.own 0 0,.lv (d 2),.lv (d 3),.lv (.func (Fn.func 116) [] [])]++dl d 5 14++[.lv (.agg [.func (Fn.func 116) [] [],.func (Fn.func 118) [] [.ptr (some (Lk f4 3 0))],.func (Fn.func 119) [] [],.func (Fn.func 120) [] []]),.lv (I6 0)]++dl d 21 3++[.lv (.slice a1 l2 c3),.lv (I6 n5),.lv (I6 n0)]++dl d 27 17
def L55t_1v1(d:Nat->LV)(n0:Int)(f1:Nat)(a2:Option LAddr)(l3:Nat)(c4:Cap)(f5:Nat)(n6:Int):List SV:=[.lv (d 0),.own 0 0,.lv (d 2),.lv (d 3),.lv (.func (Fn.func 118) [] [.ptr (some (Lk f1 3 0))])]++dl d 5 14++[.lv (.agg [.func (Fn.func 116) [] [],.func (Fn.func 118) [] [.ptr (some (Lk f5 3 0))],.func (Fn.func 119) [] [],.func (Fn.func 120) [] []]),.lv (I6 1)]++dl d 21 3++[.lv (.slice a2 l3 c4),.lv (I6 n6),.lv (I6 n0)]++dl d 27 17
def L55t_1v2(d:Nat->LV)(n0:Int)(a1:Option LAddr)(l2:Nat)(c3:Cap)(f4:Nat)(n5:Int):List SV:=[.lv (d 0),.own 0 0,.lv (d 2),.lv (d 3),.lv (.func (Fn.func 119) [] [])]++dl d 5 14++[.lv (.agg [.func (Fn.func 116) [] [],.func (Fn.func 118) [] [.ptr (some (Lk f4 3 0))],.func (Fn.func 119) [] [],.func (Fn.func 120) [] []]),.lv (I6 2)]++dl d 21 3++[.lv (.slice a1 l2 c3),.lv (I6 n5),.lv (I6 n0)]++dl d 27 17
def L55t_1v3(d:Nat->LV)(n0:Int)(a1:Option LAddr)(l2:Nat)(c3:Cap)(f4:Nat)(n5:Int):List SV:=[.lv (d 0),.own 0 0,.lv (d 2),.lv (d 3),.lv (.func (Fn.func 120) [] [])]++dl d 5 14++[.lv (.agg [.func (Fn.func 116) [] [],.func (Fn.func 118) [] [.ptr (some (Lk f4 3 0))],.func (Fn.func 119) [] [],.func (Fn.func 120) [] []]),.lv (I6 3)]++dl d 21 3++[.lv (.slice a1 l2 c3),.lv (I6 n5),.lv (I6 n0)]++dl d 27 17
theorem g94t_0(R:RR)(H0:LHeap)(d:Nat->LV)(n0:Int)(a1:Option LAddr)(l2:Nat)(c3:Cap)(n4:Int)(i5:Nat)(x6:BookC)(i7:Nat)(x8:BookC)(H:LHeap)
(h:Dc (n0<n4) ((0<=n0/\(n0<((l2:Nat):Int)/\(Option.isSome a1)=true))/\(Inv [] H0 [Sk i5 (BookC.cs x6) 48,Sk i7 (BookC.cs x8) 48] H->∃a11 l12 c13,loadT cfg.P H 49 (Lk (LAddr.id (adr a1)) (LAddr.ver (adr a1)) (((LAddr.off (adr a1))+((Int.toNat n0)*2))+1))=some (.slice a11 l12 c13)/\(Inv [] H0 [Sk i5 (BookC.cs x6) 48,Sk i7 (BookC.cs x8) 48] H->CL 96 [.slice a11 l12 c13] H .slice fun S14=>∀a15 l16 c17 H18,S14 (.slice a15 l16 c17) H18->(0<=n0/\(n0<((l2:Nat):Int)/\(Option.isSome a1)=true))/\(Inv [] H0 [Sk i5 (BookC.cs x6) 48,Sk i7 (BookC.cs x8) 48] H18->∃H20,(storeT cfg.P H18 49 (Lk (LAddr.id (adr a1)) (LAddr.ver (adr a1)) (((LAddr.off (adr a1))+((Int.toNat n0)*2))+1)) (.slice a15 l16 c17)=some H20/\okId [] H0 [Sk i5 (BookC.cs x6) 48,Sk i7 (BookC.cs x8) 48] (LAddr.id (adr a1)))/\(∀d21,GoesT cfg 94 R [] H0 [Sk i5 (BookC.cs x6) 48,Sk i7 (BookC.cs x8) 48] (L94t_0 d21 (lwrap .i64 (n0+1)) a1 l2 c3 n4) (loopAt cfg 94 0) H20))))) (([.slice x6.namesA x6.namesL x6.namesQ,.slice x6.linksA x6.linksL x6.linksQ]:List LV)=[.slice x6.namesA x6.namesL x6.namesQ,.slice x6.linksA x6.linksL x6.linksQ]/\(Inv [] H0 [Sk i5 (BookC.cs x6) 48,Sk i7 (BookC.cs x8) 48] H->CL 82 [.slice x6.namesA x6.namesL x6.namesQ] H .slice fun S23=>∀a24 l25 c26 H27,S23 (.slice a24 l25 c26) H27->([.slice x6.linksA x6.linksL x6.linksQ]:List LV)=[.slice x6.linksA x6.linksL x6.linksQ]/\(Inv [] H0 [Sk i5 (BookC.cs x6) 48,Sk i7 (BookC.cs x8) 48] H27->CL 179 [.slice x6.linksA x6.linksL x6.linksQ] H27 .slice fun S29=>∀a30 l31 c32 H33,S29 (.slice a30 l31 c32) H33->PX [i7] H33 fun H35=>R0 H0 [Sk i5 (BookC.cs x6) 48,Sk i7 [.slice a1 l2 c3,.slice a24 l25 c26,.slice a30 l31 c32] 48] H35 R (.agg [.slice a1 l2 c3,.slice a24 l25 c26,.slice a30 l31 c32]))))):
 GoesT cfg 94 R [] H0 [Sk i5 (BookC.cs x6) 48,Sk i7 (BookC.cs x8) 48] (L94t_0 d n0 a1 l2 c3 n4) (loopAt cfg 94 0) H:=seg_wt (k:=(.go 5 (.cases 16 (.go 14 (.op (.tuple []) (.go 1 (.facts (.op .slice (.facts (.call .slice (.op (.tuple []) (.go 1 (.facts (.store (.go 7 (.stop [15,3,2,1,14] 2))))))))))))) (.go 9 (.check (.facts (.call .slice (.check (.facts (.call .slice (.go 1 (.check (.putP (.check (.go 1 (.facts .ret)))))))))))))))) (by kernel_rfl) h
theorem e94t(R:RR)(x0:BookC)(H:LHeap)
(h:NX H fun i1 H2=>NX H2 fun i3 H4=>Inv [] H [Sk i1 (BookC.cs x0) 48,Sk i3 [.slice none 0 (.exact 0),.slice none 0 (.exact 0),.slice none 0 (.exact 0)] 48] H4->∃a5 l6 c7 Y H8,(opL cfg (fun (x:Operand)=>denF [Sk i1 (BookC.cs x0) 48,Sk i3 [.slice none 0 (.exact 0),.slice none 0 (.exact 0),.slice none 0 (.exact 0)] 48] (evalS cfg [.lv (BookC.lv x0),.own 0 0,.own 1 0,.lv (.tuple []),.lv (.tuple []),.own 0 0,.lv (.slice x0.sheetsA x0.sheetsL x0.sheetsQ),.lv (I6 ((x0.sheetsL:Nat):Int)),.lv (.tuple []),.lv (.tuple []),.lv (.tuple []),.lv (.tuple []),.lv (.tuple []),.lv (.tuple []),.lv (.tuple []),.lv (.tuple []),.lv (.tuple []),.lv (.tuple []),.lv (.tuple []),.lv (.tuple []),.lv (.tuple []),.lv (.tuple []),.lv (.tuple []),.lv (.tuple []),.lv (.tuple []),.lv (.tuple []),.lv (.tuple []),.lv (.tuple []),.lv (.tuple []),.lv (.tuple []),.lv (.tuple []),.lv (.tuple []),.lv (.tuple []),.lv (.tuple []),.lv (.tuple []),.lv (.tuple []),.lv (.tuple [])] x)) H4 (Oper.mk (some 8) (Op.makeSlice 45 (Operand.tmp 7) (Operand.tmp 7)) 45 "sheet.go:57" (List.toArray [Edge.mk 2 Go.Ground.data,Edge.mk 2 Go.Ground.data]) none)=some [(.value (.slice a5 l6 c7),H8)]/\(PresX Y H4 H8/\(∀i∈Y,okId [] H [Sk i1 (BookC.cs x0) 48,Sk i3 [.slice none 0 (.exact 0),.slice none 0 (.exact 0),.slice none 0 (.exact 0)] 48] i)))/\(Inv [] H [Sk i1 (BookC.cs x0) 48,Sk i3 [.slice none 0 (.exact 0),.slice none 0 (.exact 0),.slice none 0 (.exact 0)] 48] H8->∃n9 Y H10,(opB cfg H8 Go.Builtin.copy [45,45] [.slice a5 l6 c7,.slice x0.sheetsA x0.sheetsL x0.sheetsQ]=some [(.value (I6 n9),H10)]/\(PresX Y H8 H10/\(∀i∈Y,okId [] H [Sk i1 (BookC.cs x0) 48,Sk i3 [.slice none 0 (.exact 0),.slice none 0 (.exact 0),.slice none 0 (.exact 0)] 48] i)))/\(∀d11,GoesT cfg 94 R [] H [Sk i1 (BookC.cs x0) 48,Sk i3 [.slice none 0 (.exact 0),.slice none 0 (.exact 0),.slice none 0 (.exact 0)] 48] (L94t_0 d11 0 a5 l6 c7 ((l6:Nat):Int)) (loopAt cfg 94 0) H10))):
 CallL cfg 94 [BookC.lv x0] H R:=call_wt0 (k:=(.go 2 (.boxP (.boxP (.go 6 (.facts (.any .slice (.go 7 (.facts (.any (.int .i64) (.go 10 (.stop [15,3,2,1,14] 2)))))))))))) (by kernel_rfl) h
theorem g55t_1(R:RR)(H0:LHeap)(d:Nat->LV)(n0:Int)(a1:Option LAddr)(l2:Nat)(c3:Cap)(f4:Nat)(n5:Int)(i6:Nat)(x7:BookC)(H:LHeap)
(h:Dc (n0<n5) ((0<=n0/\(n0<((l2:Nat):Int)/\(Option.isSome a1)=true))/\(Inv [] H0 [Sk i6 (BookC.cs x7) 48] H->∃x10,loadT cfg.P H 142 (Lk (LAddr.id (adr a1)) (LAddr.ver (adr a1)) ((LAddr.off (adr a1))+((Int.toNat n0)*2)))=some (SheetC.lv x10)/\(NX H fun i11 H12=>PX [i11] H12 fun H13=>Inv [] H0 [Sk i6 (BookC.cs x7) 48,Sk i11 (SheetC.cs x10) 142] H13->CL 116 [I6 n0,SheetC.lv x10] H13 (.int .i64) fun S14=>∀n15 H16,S14 (I6 n15) H16->Cd (n15 !=0) (R0 H0 [Sk i6 (BookC.cs x7) 48,Sk i11 (SheetC.cs x10) 142] H16 R (I6 n15)) (∀d17,GoesT cfg 55 R [] H0 [Sk i6 (BookC.cs x7) 48] (L55t_1 d17 (lwrap .i64 (n0+1)) a1 l2 c3 f4 n5) (loopAt cfg 55 1) H16)))) (∀d18,GoesT cfg 55 R [] H0 [Sk i6 (BookC.cs x7) 48] (L55t_1v1 d18 0 f4 x7.sheetsA x7.sheetsL x7.sheetsQ f4 ((x7.sheetsL:Nat):Int)) (loopAt cfg 55 1) H)):
 GoesT cfg 55 R [] H0 [Sk i6 (BookC.cs x7) 48] (L55t_1 d n0 a1 l2 c3 f4 n5) (loopAt cfg 55 1) H:=seg_wt (k:=(.go 5 (.cases 27 (.go 7 (.op (.tuple []) (.facts (.op (.cust SheetC SheetC.lv) (.boxP (.go 1 (.putP (.go 6 (.facts (.call (.int .i64) (.go 7 (.cases 36 (.go 6 (.facts .ret)) (.go 8 (.stop [26,4,24,1,19,20,25] 1)))))))))))))) (.go 31 (.stop [26,4,24,1,19,20,25] 1))))) (by kernel_rfl) h
theorem g55t_1v1(R:RR)(H0:LHeap)(d:Nat->LV)(n0:Int)(f1:Nat)(a2:Option LAddr)(l3:Nat)(c4:Cap)(f5:Nat)(n6:Int)(i7:Nat)(x8:BookC)(H:LHeap)
(h:Dc (n0<n6) ((0<=n0/\(n0<((l3:Nat):Int)/\(Option.isSome a2)=true))/\(Inv [] H0 [Sk i7 (BookC.cs x8) 48] H->∃x11,loadT cfg.P H 142 (Lk (LAddr.id (adr a2)) (LAddr.ver (adr a2)) ((LAddr.off (adr a2))+((Int.toNat n0)*2)))=some (SheetC.lv x11)/\(NX H fun i12 H13=>PX [i12] H13 fun H14=>Inv [] H0 [Sk i7 (BookC.cs x8) 48,Sk i12 (SheetC.cs x11) 142] H14->CL 118 [I6 n0,SheetC.lv x11,.ptr (some (Lk f1 3 0))] H14 (.int .i64) fun S15=>∀n16 H17,S15 (I6 n16) H17->Cd (n16 !=0) (R0 H0 [Sk i7 (BookC.cs x8) 48,Sk i12 (SheetC.cs x11) 142] H17 R (I6 n16)) (∀d18,GoesT cfg 55 R [] H0 [Sk i7 (BookC.cs x8) 48] (L55t_1v1 d18 (lwrap .i64 (n0+1)) f1 a2 l3 c4 f5 n6) (loopAt cfg 55 1) H17)))) (∀d19,GoesT cfg 55 R [] H0 [Sk i7 (BookC.cs x8) 48] (L55t_1v2 d19 0 x8.sheetsA x8.sheetsL x8.sheetsQ f5 ((x8.sheetsL:Nat):Int)) (loopAt cfg 55 1) H)):
 GoesT cfg 55 R [] H0 [Sk i7 (BookC.cs x8) 48] (L55t_1v1 d n0 f1 a2 l3 c4 f5 n6) (loopAt cfg 55 1) H:=seg_wt (k:=(.go 5 (.cases 27 (.go 7 (.op (.tuple []) (.facts (.op (.cust SheetC SheetC.lv) (.boxP (.go 1 (.putP (.go 6 (.facts (.call (.int .i64) (.go 7 (.cases 36 (.go 6 (.facts .ret)) (.go 8 (.stop [26,4,24,1,19,20,25] 1)))))))))))))) (.go 31 (.stop [26,4,24,1,19,20,25] 1))))) (by kernel_rfl) h
theorem g55t_1v2(R:RR)(H0:LHeap)(d:Nat->LV)(n0:Int)(a1:Option LAddr)(l2:Nat)(c3:Cap)(f4:Nat)(n5:Int)(i6:Nat)(x7:BookC)(H:LHeap)
(h:Dc (n0<n5) ((0<=n0/\(n0<((l2:Nat):Int)/\(Option.isSome a1)=true))/\(Inv [] H0 [Sk i6 (BookC.cs x7) 48] H->∃x10,loadT cfg.P H 142 (Lk (LAddr.id (adr a1)) (LAddr.ver (adr a1)) ((LAddr.off (adr a1))+((Int.toNat n0)*2)))=some (SheetC.lv x10)/\(NX H fun i11 H12=>PX [i11] H12 fun H13=>Inv [] H0 [Sk i6 (BookC.cs x7) 48,Sk i11 (SheetC.cs x10) 142] H13->CL 119 [I6 n0,SheetC.lv x10] H13 (.int .i64) fun S14=>∀n15 H16,S14 (I6 n15) H16->Cd (n15 !=0) (R0 H0 [Sk i6 (BookC.cs x7) 48,Sk i11 (SheetC.cs x10) 142] H16 R (I6 n15)) (∀d17,GoesT cfg 55 R [] H0 [Sk i6 (BookC.cs x7) 48] (L55t_1v2 d17 (lwrap .i64 (n0+1)) a1 l2 c3 f4 n5) (loopAt cfg 55 1) H16)))) (∀d18,GoesT cfg 55 R [] H0 [Sk i6 (BookC.cs x7) 48] (L55t_1v3 d18 0 x7.sheetsA x7.sheetsL x7.sheetsQ f4 ((x7.sheetsL:Nat):Int)) (loopAt cfg 55 1) H)):
 GoesT cfg 55 R [] H0 [Sk i6 (BookC.cs x7) 48] (L55t_1v2 d n0 a1 l2 c3 f4 n5) (loopAt cfg 55 1) H:=seg_wt (k:=(.go 5 (.cases 27 (.go 7 (.op (.tuple []) (.facts (.op (.cust SheetC SheetC.lv) (.boxP (.go 1 (.putP (.go 6 (.facts (.call (.int .i64) (.go 7 (.cases 36 (.go 6 (.facts .ret)) (.go 8 (.stop [26,4,24,1,19,20,25] 1)))))))))))))) (.go 31 (.stop [26,4,24,1,19,20,25] 1))))) (by kernel_rfl) h
theorem g55t_1v3(R:RR)(H0:LHeap)(d:Nat->LV)(n0:Int)(a1:Option LAddr)(l2:Nat)(c3:Cap)(f4:Nat)(n5:Int)(i6:Nat)(x7:BookC)(H:LHeap)
(h:Dc (n0<n5) ((0<=n0/\(n0<((l2:Nat):Int)/\(Option.isSome a1)=true))/\(Inv [] H0 [Sk i6 (BookC.cs x7) 48] H->∃x10,loadT cfg.P H 142 (Lk (LAddr.id (adr a1)) (LAddr.ver (adr a1)) ((LAddr.off (adr a1))+((Int.toNat n0)*2)))=some (SheetC.lv x10)/\(NX H fun i11 H12=>PX [i11] H12 fun H13=>Inv [] H0 [Sk i6 (BookC.cs x7) 48,Sk i11 (SheetC.cs x10) 142] H13->CL 120 [I6 n0,SheetC.lv x10] H13 (.int .i64) fun S14=>∀n15 H16,S14 (I6 n15) H16->Cd (n15 !=0) (R0 H0 [Sk i6 (BookC.cs x7) 48,Sk i11 (SheetC.cs x10) 142] H16 R (I6 n15)) (∀d17,GoesT cfg 55 R [] H0 [Sk i6 (BookC.cs x7) 48] (L55t_1v3 d17 (lwrap .i64 (n0+1)) a1 l2 c3 f4 n5) (loopAt cfg 55 1) H16)))) (Inv [] H0 [Sk i6 (BookC.cs x7) 48] H->CL 56 [BookC.lv x7] H (.int .i64) fun S18=>∀n19 H20,S18 (I6 n19) H20->Inv [] H0 [Sk i6 (BookC.cs x7) 48] H20->CL 117 [.bool (decide (n19<=200)),I6 5] H20 (.int .i64) fun S21=>∀n22 H23,S21 (I6 n22) H23->R0 H0 [Sk i6 (BookC.cs x7) 48] H23 R (I6 n22))):
 GoesT cfg 55 R [] H0 [Sk i6 (BookC.cs x7) 48] (L55t_1v3 d n0 a1 l2 c3 f4 n5) (loopAt cfg 55 1) H:=seg_wt (k:=(.go 5 (.cases 27 (.go 7 (.op (.tuple []) (.facts (.op (.cust SheetC SheetC.lv) (.boxP (.go 1 (.putP (.go 6 (.facts (.call (.int .i64) (.go 7 (.cases 36 (.go 6 (.facts .ret)) (.go 8 (.stop [26,4,24,1,19,20,25] 1)))))))))))))) (.go 18 (.facts (.call (.int .i64) (.go 1 (.facts (.call (.int .i64) (.go 2 (.facts .ret))))))))))) (by kernel_rfl) h
theorem e55t(R:RR)(x0:BookC)(H:LHeap)
(h:NX H fun i1 H2=>Dc (((x0.sheetsL:Nat):Int)<1) (R0 H [Sk i1 (BookC.cs x0) 48] H2 R (I6 15)) (Dc (((x0.sheetsL:Nat):Int)>4) (R0 H [Sk i1 (BookC.cs x0) 48] H2 R (I6 15)) (∀d3,GoesT cfg 55 R [] H [Sk i1 (BookC.cs x0) 48] (L55t_1 d3 0 x0.sheetsA x0.sheetsL x0.sheetsQ i1 ((x0.sheetsL:Nat):Int)) (loopAt cfg 55 1) H2))):
 CallL cfg 55 [BookC.lv x0] H R:=call_wt0 (k:=(.go 2 (.boxP (.go 10 (.cases 12 (.go 11 (.facts .ret)) (.go 6 (.cases 17 (.go 5 (.facts .ret)) (.go 34 (.stop [26,4,24,1,19,20,25] 1))))))))) (by kernel_rfl) h
theorem e27t(R:LV->LHeap->Prop)(a0:Option LAddr)(l1:Nat)(c2:Cap)(s3:List UInt8)(s4:List UInt8)(H:LHeap)
 (h:(∀(i5:Nat) (H6:LHeap),H.next<=i5->PresX [] H H6->(∀(i7:Nat) (H8:LHeap),H6.next<=i7->PresX [] H6 H8->(Inv [] H [(Slot.mk i5 [(.str s3)] 9),(Slot.mk i7 [(.str s4)] 9)] H8->∃S9:LV->LHeap->Prop,CallL cfg 80 [(.slice a0 l1 c2),(.str s3),(.str s4)] H8 S9/\(∀v H',S9 v H'->PresX [] H8 H'/\hasSh (.int .i64) v)/\
  (∀(n10:Int),∀H11:LHeap,S9 (.int Go.IntKind.i64 n10) H11->(((decide (n10<0))=true->(Inv [] H [(Slot.mk i5 [(.str s3)] 9),(Slot.mk i7 [(.str s4)] 9)] H11->R (.tuple [(.slice none 0 (Cap.exact 0)),(.int Go.IntKind.i64 (6:Int))]) H11))
 /\ ((decide (n10<0))=false->(Inv [] H [(Slot.mk i5 [(.str s3)] 9),(Slot.mk i7 [(.str s4)] 9)] H11->∃S12:LV->LHeap->Prop,CallL cfg 82 [(.slice a0 l1 c2)] H11 S12/\(∀v H',S12 v H'->PresX [] H11 H'/\hasSh .slice v)/\
  (∀(a13:Option LAddr),∀(l14:Nat),∀(c15:Cap),∀H16:LHeap,S12 (.slice a13 l14 c15) H16->(Inv [] H [(Slot.mk i5 [(.str s3)] 9),(Slot.mk i7 [(.str s4)] 9)] H16->∃S17:LV->LHeap->Prop,∃Y:List Nat,CallL cfg 81 [(.slice a13 l14 c15),(.func (Fn.func 83) [] [(.ptr (some (LAddr.mk i5 1 0))),(.ptr (some (LAddr.mk i7 1 0)))])] H16 S17/\(∀v H',S17 v H'->PresX Y H16 H'/\hasSh .slice v)/\(∀i∈Y,okId [] H [(Slot.mk i5 [(.str s3)] 9),(Slot.mk i7 [(.str s4)] 9)] i)/\
  (∀(a18:Option LAddr),∀(l19:Nat),∀(c20:Cap),∀H21:LHeap,S17 (.slice a18 l19 c20) H21->(Inv [] H [(Slot.mk i5 [(.str s3)] 9),(Slot.mk i7 [(.str s4)] 9)] H21->R (.tuple [(.slice a18 l19 c20),(.int Go.IntKind.i64 (0:Int))]) H21)))))))))))):
 CallL cfg 27 [(.slice a0 l1 c2),(.str s3),(.str s4)] H R:=
  call_wt0 (k:=(.go 2 (.boxP (.boxP (.go 9 (.facts (.call (.int .i64) (.go 2 (.cases 12 (.go 6 (.facts .ret)) (.go 5 (.facts (.call .slice (.go 1 (.facts (.callY .slice (.go 3 (.facts .ret))))))))))))))))) (by kernel_rfl) h
abbrev qP1_1(s0:List UInt8)(H:LHeap)(R:RR):Prop:=Cd (s0==[60,62]) (R0 H [] H R (I6 1)) (Cd (s0==[60]) (R0 H [] H R (I6 1)) (Cd (s0==[60,61]) (R0 H [] H R (I6 1)) (Cd (s0==[62]) (R0 H [] H R (I6 1)) (Cd (s0==[62,61]) (R0 H [] H R (I6 1)) (Cd (s0==[38]) (R0 H [] H R (I6 2)) (Cd (s0==[43]) (R0 H [] H R (I6 3)) (Cd (s0==[45]) (R0 H [] H R (I6 3)) (Cd (s0==[42]) (R0 H [] H R (I6 4)) (Cd (s0==[47]) (R0 H [] H R (I6 4)) (Cd (s0==[94]) (R0 H [] H R (I6 5)) (R0 H [] H R (I6 0))))))))))))
abbrev qP1_2(n0 n1:Int)(s2:List UInt8):List LV:=[I6 1,.str [],I6 n0,I6 n1,.str s2,.str [],.str [],I6 0,I6 0,.bool false,.bool false,.str [],.str [],I6 0,I6 0,.bool false,.bool false,.slice none 0 (.exact 0)]
theorem e198(R:RR)(s0:List UInt8)(H:LHeap)
(h:Cd (s0==[61]) (R0 H [] H R (I6 1)) (qP1_1 s0 H R)):
 CallL cfg 198 [.str s0] H R:=call_wt0 (k:=(.go 16 (.cases 4 (.go 7 (.facts .ret)) (.go 6 (.cases 4 (.go 7 (.facts .ret)) (.go 6 (.cases 4 (.go 7 (.facts .ret)) (.go 6 (.cases 4 (.go 7 (.facts .ret)) (.go 6 (.cases 4 (.go 7 (.facts .ret)) (.go 5 (.cases 4 (.go 5 (.facts .ret)) (.go 6 (.cases 11 (.go 5 (.facts .ret)) (.go 7 (.cases 13 (.go 7 (.facts .ret)) (.go 5 (.cases 13 (.go 5 (.facts .ret)) (.go 7 (.cases 16 (.go 7 (.facts .ret)) (.go 5 (.cases 16 (.go 5 (.facts .ret)) (.go 6 (.cases 19 (.go 5 (.facts .ret)) (.go 7 (.facts .ret))))))))))))))))))))))))))) (by kernel_rfl) h
theorem e298(R:RR)(n0:Int)(n1:Int)(s2:List UInt8)(H:LHeap)
(h:∀i3 (H4:LHeap) H5,R0 H [Sk i3 (qP1_2 n0 n1 s2) 72] H5 R (.agg (qP1_2 n0 n1 s2))):
 CallL cfg 298 [I6 n0,I6 n1,.str s2] H R:=call_wt0 (k:=(.go 2 (.box (.go 8 (.put (.go 1 (.facts .ret))))))) (by kernel_rfl) h
end Go.Proofs.YtjihhflffkoffaaGreatDoor.Z
