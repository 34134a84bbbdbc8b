/- Contracts of functions of the program; no condition. -/
import Derived.Test.YtjihhflffkoffaaGreatDoorG5
import Derived.Test.YtjihhflffkoffaaGreatDoorG3
import Derived.Test.YtjihhflffkoffaaGreatDoorG0
import Derived.Test.YtjihhflffkoffaaGreatDoorLe
set_option linter.unusedSimpArgs false
set_option linter.unusedVariables false
set_option linter.unusedSectionVars false
set_option linter.unnecessarySimpa false
namespace Go.Proofs.YtjihhflffkoffaaGreatDoor.Z
open Go Go.Lm
set_option maxRecDepth 1000000
set_option maxHeartbeats 0
theorem cellL_inv{o:Option RefC}{x:RefC}{b:Bool}(h:LV.tuple [x.lv,.bool b]=cellL o):o=if b then some x else none:=by
 cases o with
 |none=>
  simp only [cellL,LV.tuple.injEq,List.cons.injEq,LV.bool.injEq,and_true] at h;rw [h.2];rfl
 |some r=>
  simp only [cellL,LV.tuple.injEq,List.cons.injEq,LV.bool.injEq,and_true] at h;rw [h.2,if_pos rfl];congr 1;have:=h.1;cases x;cases r;simp only [RefC.lv,RefC.cs,LV.agg.injEq,List.cons.injEq,LV.str.injEq,LV.bool.injEq,LV.int.injEq,and_true,true_and] at this;obtain ⟨h1,h2,h3,h4,h5,h6⟩:=this;subst h1;subst h2;subst h3;subst h4;subst h5;subst h6;rfl
def tailR(b s:List UInt8):Option RefC:=match cutF 33 s with
 |some (x,y)=>if nameF x then (cellF y).map (fun r=>⟨b,x,r.row,r.col,r.fixRow,r.fixCol⟩) else none
 |none=>(cellF s).map (fun r=>⟨b,[],r.row,r.col,r.fixRow,r.fixCol⟩)
def refTF(s:List UInt8):Option RefC:=
 if (cutP s [91]).2 then match cutF 93 (cutP s [91]).1 with
  |some (b,m)=>if nameF b&&(cutF 33 m).isSome then tailR b m else none
  |none=>none
 else tailR [] s
theorem cut_inv{s x y:List UInt8}{b:Bool}{c:UInt8}(h:LV.tuple [.str x,.str y,.bool b]=cutL s c):cutF c s=if b then some (x,y) else none:=by
 unfold cutL at h;cases k:cutF c s with
 |none=>
  rw [k] at h;simp only [LV.tuple.injEq,List.cons.injEq,LV.str.injEq,LV.bool.injEq,and_true] at h;rw [h.2.2];rfl
 |some p=>
  obtain ⟨x',y'⟩:=p;rw [k] at h;simp only [LV.tuple.injEq,List.cons.injEq,LV.str.injEq,LV.bool.injEq,and_true] at h;rw [h.2.2,h.1,h.2.1];rfl
theorem cutF_len{c:UInt8}{s x y:List UInt8}(h:cutF c s=some (x,y)):x.length+(y.length+1)=s.length:=by
 rw [cutF_eq h];simp
theorem s235(s:List UInt8)(hs:s.length<=1000)(H:LHeap):CallL cfg 235 [.str s] H (Ret (cellL (refTF s)) H):=by
 have bad:∀{H':LHeap},refTF s=none->PresX [] H H'->Ret (cellL (refTF s)) H (.tuple [.agg [.str [],.str [],.int .i64 0,.int .i64 0,.bool false,.bool false],.bool false]) H':=fun h p=>⟨by rw [h];rfl,p⟩;have good:∀{H':LHeap} {b x:List UInt8} {m n:Int} {f g:Bool},refTF s=some ⟨b,x,m,n,f,g⟩->PresX [] H H'->Ret (cellL (refTF s)) H (.tuple [.agg [.str b,.str x,.int .i64 m,.int .i64 n,.bool f,.bool g],.bool true]) H':=fun h p=>⟨by rw [h];rfl,p⟩;refine e235t _ s H fun i1 H2 _ _ hI=>⟨_,s130 s [91] H2,Ret.use ⟨_,_,rfl⟩,fun s4 b5 H6 ⟨e,_⟩=> ?_⟩;simp only [LV.tuple.injEq,List.cons.injEq,LV.str.injEq,LV.bool.injEq,and_true] at e;obtain ⟨e1,e2⟩:=e;have hl:=cutP_le s [91];rw [<-e1] at hl;refine ⟨fun h5 hI=>⟨_,s231 s4 93 H6 (by omega),Ret.use (cutL_sh _ _),fun s8 s9 b10 H11 ⟨e10,_⟩=> ?_⟩,fun h5 hI=>⟨_,s231 s 33 H6 hs,Ret.use (cutL_sh _ _),fun s53 s54 b55 H56 ⟨e55,_⟩=> ?_⟩⟩
 ·have q1:=cut_inv e10;rw [h5] at e2;have F0:refTF s=match cutF 93 s4 with
   |some (b,m)=>if nameF b&&(cutF 33 m).isSome then tailR b m else none
   |none=>none:=by unfold refTF;rw [<-e2,<-e1];rfl
  rw [q1] at F0;refine ⟨fun h10 H12 _ hI=>bad ?_ hI.pres,fun h10 hI=>⟨_,s90 s8 H11,Ret.use ⟨_,rfl⟩,fun b14 H15 ⟨e14,_⟩=> ?_⟩⟩
  ·have:b10=false:=by simpa using h10
   rw [F0,this];rfl
  ·have hb10:b10=true:=by simpa using h10
   rw [hb10] at F0 q1;have hl9:=cutF_len q1;cases e14;refine ⟨fun h14 H16 _ hI=>bad ?_ hI.pres,fun h14 hI=>⟨_,s237 s9 33 H15,Ret.use ⟨_,rfl⟩,fun b18 H19 ⟨e18,_⟩=> ?_⟩⟩
   ·have:nameF s8=false:=by simpa using h14
    rw [F0];simp [this]
   ·have hn8:nameF s8=true:=by simpa using h14
    cases e18;refine ⟨fun h18 H20 _ hI=>bad ?_ hI.pres,fun h18 hI=>⟨_,s231 s9 33 H19 (by omega),Ret.use (cutL_sh _ _),fun s22 s23 b24 H25 ⟨e24,_⟩=> ?_⟩⟩
    ·have:(cutF 33 s9).isSome=false:=by simpa using h18
     rw [F0];simp [this]
    ·have hc:(cutF 33 s9).isSome=true:=by simpa using h18
     have F1:refTF s=tailR s8 s9:=by rw [F0];simp [hn8,hc]
     have q2:=cut_inv e24;unfold tailR at F1;rw [q2] at F1;refine ⟨fun h24 hI=>⟨_,s90 s22 H25,Ret.use ⟨_,rfl⟩,fun b27 H28 ⟨e27,_⟩=> ?_⟩,fun h24 hI=> ?_⟩
     ·rw [h24] at F1 q2;have hl23:=cutF_len q2;cases e27;refine ⟨fun h27 H29 _ hI=>bad ?_ hI.pres,fun h27 hI=>⟨_,s236 s23 (by omega) H28,Ret.use (cellL_sh _),fun x31 b32 H33 ⟨e32,_⟩ i34 H35 _ _ H36 _=>⟨fun h32 H37 _ hI=>bad ?_ hI.pres,fun h32 H38 _ H39 _ H40 _ hI=>good ?_ hI.pres⟩⟩⟩
      ·have:nameF s22=false:=by simpa using h27
       rw [F1];simp [this]
      ·have:nameF s22=true:=by simpa using h27
       have hb:b32=false:=by simpa using h32
       rw [F1];simp [this,cellL_inv e32,hb]
      ·have:nameF s22=true:=by simpa using h27
       have hb:b32=true:=by simpa using h32
       rw [F1];simp [this,cellL_inv e32,hb]
     ·rw [q2,h24] at hc;cases hc
 ·have h5':b5=false:=h5;rw [h5'] at e2;have F1:refTF s=tailR [] s:=by unfold refTF;rw [<-e2];rfl
  have q2:=cut_inv e55;unfold tailR at F1;rw [q2] at F1;refine ⟨fun h24 hI=>⟨_,s90 s53 H56,Ret.use ⟨_,rfl⟩,fun b27 H28 ⟨e27,_⟩=> ?_⟩,fun h24 hI=>⟨_,s236 s hs H56,Ret.use (cellL_sh _),fun x31 b32 H33 ⟨e32,_⟩ i34 H35 _ _ H36 _=>⟨fun h32 H37 _ hI=>bad ?_ hI.pres,fun h32 H38 _ H39 _ H40 _ hI=>good ?_ hI.pres⟩⟩⟩
  ·rw [h24] at F1 q2;have hl23:=cutF_len q2;cases e27;refine ⟨fun h27 H29 _ hI=>bad ?_ hI.pres,fun h27 hI=>⟨_,s236 s54 (by omega) H28,Ret.use (cellL_sh _),fun x31 b32 H33 ⟨e32,_⟩ i34 H35 _ _ H36 _=>⟨fun h32 H37 _ hI=>bad ?_ hI.pres,fun h32 H38 _ H39 _ H40 _ hI=>good ?_ hI.pres⟩⟩⟩
   ·have:nameF s53=false:=by simpa using h27
    rw [F1];simp [this]
   ·have:nameF s53=true:=by simpa using h27
    have hb:b32=false:=by simpa using h32
    rw [F1];simp [this,cellL_inv e32,hb]
   ·have:nameF s53=true:=by simpa using h27
    have hb:b32=true:=by simpa using h32
    rw [F1];simp [this,cellL_inv e32,hb]
  ·rw [h24] at F1;have hb:b32=false:=by simpa using h32
   rw [F1];simp [cellL_inv e32,hb]
  ·rw [h24] at F1;have hb:b32=true:=by simpa using h32
   rw [F1];simp [cellL_inv e32,hb]
theorem cutF_cons(c b:UInt8)(s:List UInt8):cutF c (b::s)=if b==c then some ([],s) else match cutF c s with |some (x,y)=>some (b::x,y) |none=>none:=rfl
def zeroT:TokC:=⟨0,0,[],[],[],0,0,false,false⟩
def tokL:Option (TokC×Nat)->LV
 |some (t,n)=>.tuple [t.lv,.int .i64 (n:Int)]
 |none=>.tuple [zeroT.lv,.int .i64 0]
theorem tokL_sh(o:Option (TokC×Nat)):hasSh (.tuple [(.cust TokC TokC.lv),.int .i64]) (tokL o):=by
 cases o with
 |none=>exact ⟨_,_,rfl⟩
 |some r=>exact ⟨_,_,rfl⟩
def refT(r:RefC):TokC:=⟨3,0,[],r.book,r.sheet,r.row,r.col,r.fixRow,r.fixCol⟩
def wordT(b w:List UInt8):TokC:=⟨4,0,w,b,[],0,0,false,false⟩
def wordF(b w:List UInt8)(n:Nat):Option (TokC×Nat):=match (if b=[] then cellF w else none) with
 |some r=>some (refT r,n)
 |none=>if nameF w||(b==[]&&decide (0<=truthF w)) then some (wordT b w,n) else none
theorem word_cell{b w:List UInt8}{n:Nat}{r:RefC}(hb:b=[])(h:cellF w=some r):wordF b w n=some (refT r,n):=by
 unfold wordF;rw [if_pos hb,h]
theorem word_none{b w:List UInt8}{n:Nat}(h:b=[]->cellF w=none):wordF b w n=if nameF w||(b==[]&&decide (0<=truthF w)) then some (wordT b w,n) else none:=by
 unfold wordF;by_cases hb:b=[]
 ·rw [if_pos hb,h hb]
 ·rw [if_neg hb]
def endN(k:Nat)(s:List UInt8):Nat:=k+spanF wordB (s.drop k)
def endM(k:Nat)(s:List UInt8):Nat:=endN k s+(1+spanF wordB (s.drop (endN k s+1)))
def bangB(k:Nat)(s:List UInt8):Bool:=(s.drop (endN k s)).take 1==[33]
def endF(b:List UInt8)(k:Nat)(s:List UInt8):Option (TokC×Nat):=
 if bangB k s then (refTF (s.take (endM k s))).map fun r=>(refT r,endM k s)
 else wordF b ((s.drop k).take (endN k s-k)) (endN k s)
def namedF:List UInt8->Option (TokC×Nat)
 |[]=>none
 |c::t=>if c==91 then match cutF 93 t with
   |some (b,_)=>if nameF b then endF b (b.length+2) (c::t) else none
   |none=>none
  else endF [] 0 (c::t)
theorem endN_le{k:Nat}{s:List UInt8}(h:k<=s.length):k<=endN k s/\endN k s<=s.length:=by
 unfold endN;have:=spanF_le wordB (s.drop k);rw [List.length_drop] at this;omega
theorem bang_lt{k:Nat}{s:List UInt8}(h:bangB k s=true):endN k s<s.length:=by
 apply Classical.byContradiction;intro hn;unfold bangB at h;rw [List.drop_eq_nil_of_le (by omega)] at h;cases h
theorem endM_le{k:Nat}{s:List UInt8}(hk:k<=s.length)(h:bangB k s=true):endN k s+1<=endM k s/\endM k s<=s.length:=by
 have h1:=bang_lt h;unfold endM;have:=spanF_le wordB (s.drop (endN k s+1));rw [List.length_drop] at this;omega
theorem sub_part(s:List UInt8)(k n:Nat):subStr s (k:Int) (n:Int)=(s.drop k).take (n-k):=by unfold subStr;simp
theorem truth_up(w:List UInt8):decide (0<=truthF w)=(w.map upB==[84,82,85,69]||w.map upB==[70,65,76,83,69]):=by
 unfold truthF;cases h:(w.map upB==[84,82,85,69]) with
 |true=>rfl
 |false=>
  cases h2:(w.map upB==[70,65,76,83,69]) with
  |true=>rfl
  |false=>rfl
theorem name_ne{s:List UInt8}(h:nameF s=true):s≠[]:=by
 intro e;subst e;cases h
theorem s151(c:UInt8)(t:List UInt8)(hs:(c::t).length<=1000)(H:LHeap):CallL cfg 151 [.str (c::t)] H (Ret (tokL (namedF (c::t))) H):=by
 have h0:byteAt (c::t) 0=(c.toNat:Int):=byteAt_app [] c t;have hnf:namedF (c::t)=if c==91 then (match cutF 93 t with
  |some (b,_)=>if nameF b then endF b (b.length+2) (c::t) else none
  |none=>none) else endF [] 0 (c::t):=rfl
 have hlen:(c::t).length=t.length+1:=rfl;have hd1:(c::t).drop 1=t:=rfl;generalize hst:c::t=s at*;have bad:∀{H':LHeap},namedF s=none->PresX [] H H'->Ret (tokL (namedF s)) H (.tuple [.agg [.int .i64 0,.int .i64 0,.str [],.str [],.str [],.int .i64 0,.int .i64 0,.bool false,.bool false],.int .i64 0]) H':=fun h p=>⟨by rw [h];rfl,p⟩;have good:∀{H':LHeap} {t:TokC} {n:Nat},namedF s=some (t,n)->PresX [] H H'->Ret (tokL (namedF s)) H (.tuple [.agg t.cs,.int .i64 (n:Int)]) H':=fun h p=>⟨by rw [h];rfl,p⟩;refine e151t _ s H fun i1 H2 _ _=>⟨by omega,fun h91=> ?book,fun h91=> ?plain⟩
 case book=>
  have hc:c=91:=by rw [h0] at h91;exact UInt8.toNat_inj.1 (by show c.toNat=91;have:=eq_of_beq h91;omega)
  rw [hc,beq_self_eq_true,if_pos rfl] at hnf;dsimp only [qT1_1,qT1_10,qT1_11,qT1_12,qT1_13,qT1_3,qT1_5,qT1_8];rw [sub_drop1,hd1];refine ⟨by omega,fun hI=>⟨_,s231 t 93 _ (by omega),Ret.use (cutL_sh _ _),fun s6 s7 b8 H9 ⟨e8,_⟩=> ?_⟩⟩;have q1:=cut_inv e8;rw [q1] at hnf;refine ⟨fun h8 H10 _ hI=>bad ?_ hI.pres,fun h8 hI=>⟨_,s90 s6 _,Ret.use ⟨_,rfl⟩,fun b12 H13 ⟨e12,_⟩=>⟨fun h12 H14 _ hI=>bad ?_ hI.pres,fun h12=> ?_⟩⟩⟩
  ·have:b8=false:=by simpa using h8
   rw [hnf,this];rfl
  ·have hb8:b8=true:=by simpa using h8
   cases e12;have:nameF s6=false:=by simpa using h12
   rw [hnf,hb8];simp [this]
  ·have hb8:b8=true:=by simpa using h8
   cases e12;have hn6:nameF s6=true:=by simpa using h12
   have hbne:=name_ne hn6;have F0:namedF s=endF s6 (s6.length+2) s:=by rw [hnf,hb8];simp [hn6]
   rw [hb8] at q1;have hl6:=cutF_len q1;have hk:s6.length+2<=s.length:=by omega
   have w1:lwrap .i64 (((s6.length:Nat):Int)+2)=((s6.length+2:Nat):Int):=by rw [lwrap_small (by omega) (by omega)];simp
   rw [w1,sub_drop];have w2:lwrap .i64 ((((s6.length+2):Nat):Int)+((spanF wordB (s.drop (s6.length+2)):Nat):Int))=((endN (s6.length+2) s:Nat):Int):=by
    have:=endN_le hk;unfold endN at this |-
    skip
    rw [lwrap_small (by omega) (by omega)];simp
   refine ⟨by omega,fun hI=>⟨_,s234 _ _,Ret.use ⟨_,rfl⟩,fun n17 H18 ⟨e17,_⟩=> ?_⟩⟩;cases e17;rw [w2,sub_drop];have hN:=endN_le hk;generalize hn:endN (s6.length+2) s=n at*;refine ⟨by omega,fun hI=>⟨_,s232 _ [33] _,Ret.use ⟨_,rfl⟩,fun b21 H22 ⟨e21,_⟩=>⟨fun h21=> ?_,fun h21=> ?_⟩⟩⟩
   ·have hbang:bangB (s6.length+2) s=true:=by rw [h21] at e21;unfold bangB;rw [hn];exact (LV.bool.inj e21).symm
    have hM:=endM_le hk hbang;have hlt:=bang_lt hbang;rw [hn] at hM hlt;have w3:lwrap .i64 (((n:Nat):Int)+1)=((n+1:Nat):Int):=by rw [lwrap_small (by omega) (by omega)];simp
    have w4:lwrap .i64 (((n:Nat):Int)+lwrap .i64 (1+((spanF wordB (s.drop (n+1)):Nat):Int)))=((endM (s6.length+2) s:Nat):Int):=by
     unfold endM at hM |-;rw [hn] at hM |-;rw [lwrap_small (n:=1+((spanF wordB (s.drop (n+1)):Nat):Int)) (by omega) (by omega),lwrap_small (by omega) (by omega)];simp
    rw [w3,sub_drop];refine ⟨by omega,fun hI=>⟨_,s234 _ _,Ret.use ⟨_,rfl⟩,fun n25 H26 ⟨e25,_⟩=> ?_⟩⟩;cases e25;rw [w4,sub_take];have F1:namedF s=(refTF (s.take (endM (s6.length+2) s))).map fun r=>(refT r,endM (s6.length+2) s):=by rw [F0];unfold endF;rw [hbang,if_pos rfl]
    refine ⟨by omega,fun hI=>⟨_,s235 _ (by rw [List.length_take];omega) _,Ret.use (cellL_sh _),fun x29 b30 H31 ⟨e30,_⟩ i32 H33 _ _ H34 _=>⟨fun h H35 _ hI=>bad ?_ hI.pres,fun h H36 _ hI=>good (t:=refT x29) ?_ hI.pres⟩⟩⟩
    ·have hb:b30=false:=by simpa using h
     rw [F1,cellL_inv e30,hb];rfl
    ·have hb:b30=true:=by simpa using h
     rw [F1,cellL_inv e30,hb];rfl
   ·have hbang:bangB (s6.length+2) s=false:=by rw [h21] at e21;unfold bangB;rw [hn];exact (LV.bool.inj e21).symm
    rw [sub_part];generalize hw:(s.drop (s6.length+2)).take (n-(s6.length+2))=w at*;have hwl:w.length<=1000:=by rw [<-hw,List.length_take];first |omega |(rw [List.length_drop];omega)
    have F1:namedF s=wordF s6 w n:=by rw [F0];unfold endF;rw [hbang,hn,hw];rfl
    refine ⟨by omega,fun h6=>absurd (eq_of_beq h6) hbne,fun h6 hI=>⟨_,s175 w _ (by omega),Ret.use ⟨_,rfl⟩,fun s58 H59 ⟨e58,_⟩ hI=>⟨_,s90 w _,Ret.use ⟨_,rfl⟩,fun b61 H62 ⟨e61,_⟩=>⟨fun h61=>⟨fun h6' H63 _ hI=>bad ?_ hI.pres,fun h6'=> ?_⟩,fun h61 H67 _ hI=>good (t:=wordT s6 w) ?_ hI.pres⟩⟩⟩⟩
    ·cases e61;have hnm:nameF w=false:=by simpa using h61
     rw [F1,word_none (fun e=>absurd e hbne),hnm,h6];rfl
    ·rw [h6] at h6';cases h6'
    ·cases e61;have hnm:nameF w=true:=by simpa using h61
     rw [F1,word_none (fun e=>absurd e hbne),hnm];rfl
 case plain=>
  have hc:(c==91)=false:=by
   rw [h0] at h91;rw [beq_eq_false_iff_ne] at h91 |-;intro e;subst e;exact h91 rfl
  rw [hc,if_neg (by simp)] at hnf;have F0:namedF s=endF [] 0 s:=hnf;have hk:0<=s.length:=by omega
  dsimp only [qT1_1,qT1_10,qT1_11,qT1_12,qT1_13,qT1_3,qT1_5,qT1_8];rw [sub_all];have w2:lwrap .i64 ((0:Int)+((spanF wordB (s):Nat):Int))=((endN 0 s:Nat):Int):=by
   have:=endN_le hk;unfold endN at this |-;rw [List.drop_zero] at this |-;rw [lwrap_small (by omega) (by omega)];simp
  refine ⟨by omega,fun hI=>⟨_,s234 _ _,Ret.use ⟨_,rfl⟩,fun n17 H18 ⟨e17,_⟩=> ?_⟩⟩;cases e17;rw [w2,sub_drop];have hN:=endN_le hk;generalize hn:endN 0 s=n at*;refine ⟨by omega,fun hI=>⟨_,s232 _ [33] _,Ret.use ⟨_,rfl⟩,fun b21 H22 ⟨e21,_⟩=>⟨fun h21=> ?_,fun h21=> ?_⟩⟩⟩
  ·have hbang:bangB 0 s=true:=by rw [h21] at e21;unfold bangB;rw [hn];exact (LV.bool.inj e21).symm
   have hM:=endM_le hk hbang;have hlt:=bang_lt hbang;rw [hn] at hM hlt;have w3:lwrap .i64 (((n:Nat):Int)+1)=((n+1:Nat):Int):=by rw [lwrap_small (by omega) (by omega)];simp
   have w4:lwrap .i64 (((n:Nat):Int)+lwrap .i64 (1+((spanF wordB (s.drop (n+1)):Nat):Int)))=((endM 0 s:Nat):Int):=by
    unfold endM at hM |-;rw [hn] at hM |-;rw [lwrap_small (n:=1+((spanF wordB (s.drop (n+1)):Nat):Int)) (by omega) (by omega),lwrap_small (by omega) (by omega)];simp
   rw [w3,sub_drop];refine ⟨by omega,fun hI=>⟨_,s234 _ _,Ret.use ⟨_,rfl⟩,fun n25 H26 ⟨e25,_⟩=> ?_⟩⟩;cases e25;rw [w4,sub_take];have F1:namedF s=(refTF (s.take (endM 0 s))).map fun r=>(refT r,endM 0 s):=by rw [F0];unfold endF;rw [hbang,if_pos rfl]
   refine ⟨by omega,fun hI=>⟨_,s235 _ (by rw [List.length_take];omega) _,Ret.use (cellL_sh _),fun x29 b30 H31 ⟨e30,_⟩ i32 H33 _ _ H34 _=>⟨fun h H35 _ hI=>bad ?_ hI.pres,fun h H36 _ hI=>good (t:=refT x29) ?_ hI.pres⟩⟩⟩
   ·have hb:b30=false:=by simpa using h
    rw [F1,cellL_inv e30,hb];rfl
   ·have hb:b30=true:=by simpa using h
    rw [F1,cellL_inv e30,hb];rfl
  ·have hbang:bangB 0 s=false:=by rw [h21] at e21;unfold bangB;rw [hn];exact (LV.bool.inj e21).symm
   rw [sub_take];generalize hw:s.take n=w at*;have hwl:w.length<=1000:=by rw [<-hw,List.length_take];first |omega |(rw [List.length_drop];omega)
   have F1:namedF s=wordF [] w n:=by rw [F0];unfold endF;rw [hbang,hn,List.drop_zero,Nat.sub_zero,hw];rfl
   refine ⟨by omega,fun hI=>⟨_,s236 w hwl _,Ret.use (cellL_sh _),fun x92 b93 H94 ⟨e93,_⟩ i95 H96 _ _ H97 _=>⟨fun h93 H98 _ hI=>good (t:=refT x92) ?_ hI.pres,fun h93 hI=>⟨_,s175 w _ (by omega),Ret.use ⟨_,rfl⟩,fun s58 H59 ⟨e58,_⟩ hI=>⟨_,s90 w _,Ret.use ⟨_,rfl⟩,fun b61 H62 ⟨e61,_⟩=> ?_⟩⟩⟩⟩⟩
   ·have:=cellL_inv e93;rw [h93] at this;rw [F1,word_cell rfl this]
   ·have:=cellL_inv e93;rw [h93] at this;rw [word_none (fun _=>this),truth_up] at F1;cases e61;cases e58;refine ⟨fun h61=>⟨fun h1=>⟨fun h2 H _ hI=>bad ?_ hI.pres,fun h2 H _ hI=>good (t:=wordT [] w) ?_ hI.pres⟩,fun h1 H _ hI=>good (t:=wordT [] w) ?_ hI.pres⟩,fun h61 H _ hI=>good (t:=wordT [] w) ?_ hI.pres⟩
    ·simp only [Bool.not_eq_true'] at h61 h1 h2;rw [F1,h61,h1,h2];rfl
    ·simp only [Bool.not_eq_true',Bool.not_eq_false'] at h61 h1 h2;rw [F1,h61,h1,h2];rfl
    ·simp only [Bool.not_eq_true',Bool.not_eq_false'] at h61 h1;rw [F1,h61,h1];rfl
    ·simp only [Bool.not_eq_false'] at h61;rw [F1,h61];rfl
theorem rowTB:RowT cfg.P 155 5 1 1:=⟨by kernel_rfl,by kernel_rfl,by decide,by kernel_rfl,by kernel_rfl,by kernel_rfl,⟨.int .u8 0,by kernel_rfl,rfl⟩⟩
theorem inv_box{H:LHeap}{i:Nat}{cs:List LV}{e:TypeId}{X:List Nat}(hi:i<H.next)(hg:H.get i=some (Slot.obj ⟨i,cs,e⟩))(hX:i∈X):Inv X H [⟨i,cs,e⟩] H:=by
 refine ⟨.refl _ _,fun k s hs=> ?_,fun j k s t hs ht hjk=> ?_⟩
 ·cases k with
  |zero=>cases hs;exact ⟨hi,hg,.inl hX⟩
  |succ k=>simp [nth] at hs
 ·cases j with
  |succ j=>simp [nth] at hs
  |zero=>cases k with
   |zero=>exact absurd rfl hjk
   |succ k=>simp [nth] at ht
theorem okId_box{X:List Nat}{H0:LHeap}{i:Nat}{cs:List LV}{e:TypeId}{j:Nat}(h:j∈X\/H0.next<=j)(hn:j≠i):okId X H0 [⟨i,cs,e⟩] j:=by
 refine ⟨h,fun k s hs=> ?_⟩;cases k with
 |zero=>cases hs;exact fun e=>hn e.symm
 |succ k=>simp [nth] at hs
def BldS(i:Nat)(a:Option LAddr)(k:Nat)(q:Cap)(H:LHeap):LV->LHeap->Prop:=fun v H'=>PresX [i] H H'/\v=.tuple []/\H'.get i=some (Slot.obj ⟨i,[.ptr (some ⟨i,2,0⟩),.slice a k q],162⟩)
theorem s244(i:Nat)(p a:Option LAddr)(k:Nat)(q:Cap)(H:LHeap)(hi:i<H.next)(hg:H.get i=some (Slot.obj ⟨i,[.ptr p,.slice a k q],162⟩))(hp:p=none\/p=some ⟨i,2,0⟩):
  CallL cfg 244 [.ptr (some ⟨i,2,0⟩)] H (BldS i a k q H):=by
 rcases hp with rfl |rfl
 ·refine e244a _ [i] i a k q H (inv_box hi hg (by simp)) fun _=>⟨some ⟨i,2,0⟩,[],H,⟨?_,.refl _ _,fun j hj=>by cases hj⟩,fun _=>⟨some ⟨i,2,0⟩,[],H,⟨?_,.refl _ _,fun j hj=>by cases hj⟩,fun H4 p4 hI=>⟨hI.pres,rfl,?_⟩⟩⟩
  ·show (match convertL cfg.P H 160 290 (.ptr (some ⟨i,2,0⟩)) with |some (x,H')=>some [(LNext.value x,H')] |none=>none)=_;have:convertL cfg.P H 160 290 (.ptr (some ⟨i,2,0⟩))=some (.ptr (some ⟨i,2,0⟩),H):=by
    unfold convertL;rw [show cfg.P.underlying 160=some (.pointer 162) by kernel_rfl,show cfg.P.underlying 290=some .unsafePointer by kernel_rfl];simp only [hg,Slot.obj,show sizeOfT cfg.P 162=some 2 by kernel_rfl];rfl
   rw [this]
  ·show (match convertL cfg.P H 290 160 (.ptr (some ⟨i,2,0⟩)) with |some (x,H')=>some [(LNext.value x,H')] |none=>none)=_;have:convertL cfg.P H 290 160 (.ptr (some ⟨i,2,0⟩))=some (.ptr (some ⟨i,2,0⟩),H):=by
    unfold convertL;rw [show cfg.P.underlying 160=some (.pointer 162) by kernel_rfl,show cfg.P.underlying 290=some .unsafePointer by kernel_rfl];simp only [hg,Slot.obj,show sizeOfT cfg.P 162=some 2 by kernel_rfl,List.length_cons,List.length_nil];rw [if_pos (show (Nat.beq 2 2&&liesAt cfg.P cfg.P.depth 162 (2 / cfg.P.cellsOf 162) 0 162 1)=true by kernel_rfl)]
   rw [this]
  ·exact (hI.slot 0 _ rfl).2.1
 ·refine e244b _ [i] i a k q H (inv_box hi hg (by simp)) fun _=>⟨false,[],H,⟨?_,.refl _ _,fun j hj=>by cases hj⟩,fun h=>(by cases h),fun _ hI=>⟨hI.pres,rfl,(hI.slot 0 _ rfl).2.1⟩⟩;have he:eqL cfg.P 50 160 (.ptr (some ⟨i,2,0⟩)) (.ptr (some ⟨i,2,0⟩))=some true:=by
   unfold eqL;rw [show cfg.P.underlying 160=some (.pointer 162) by kernel_rfl];simp only [show sizeOfT cfg.P 162=some 2 by kernel_rfl,Nat.beq_refl,Bool.and_self,if_true]
  have hb:binL cfg.P .neq 160 (.ptr (some ⟨i,2,0⟩)) (.ptr (some ⟨i,2,0⟩)) false false=some (.bool false):=by
   unfold binL;simp only [he,show aggOk cfg.P 160 (.ptr (some ⟨i,2,0⟩)) (.ptr (some ⟨i,2,0⟩)) false false=true from rfl,if_true,Option.map_some,Bool.not_true]
  show (match binL cfg.P .neq 160 (.ptr (some ⟨i,2,0⟩)) (.ptr (some ⟨i,2,0⟩)) false false with |some x=>some [(LNext.value x,H)] |none=>none)=_;rw [hb]
structure Bld (H:LHeap) (i:Nat) (p a:Option LAddr) (n:Nat) (q:Cap) (s:List UInt8):Prop where
 lt:i<H.next
 get:H.get i=some (Slot.obj ⟨i,[.ptr p,.slice a n q],162⟩)
 row:RowAt H 5 1 a n q (bcs s)
 me:p=none\/p=some ⟨i,2,0⟩
 ne:∀ad,a=some ad->ad.id≠i
 pos:∀ad,a=some ad->0<n/\q=.free 1
theorem Bld.len{H:LHeap}{i:Nat}{p a:Option LAddr}{n:Nat}{q:Cap}{s:List UInt8}(h:Bld H i p a n q s):n=s.length:=by
 have:=h.row.len;rw [bcs_len] at this;omega
def idl:Option LAddr->List Nat
 |some ad=>[ad.id]
 |none=>[]
theorem Bld.on{H H':LHeap}{i:Nat}{p a:Option LAddr}{n:Nat}{q:Cap}{s:List UInt8}(h:Bld H i p a n q s){X:List Nat}(k:PresX X H H')(h1:i∉X)(h2:∀ad,a=some ad->ad.id∉X):Bld H' i p a n q s:=
 ⟨Nat.lt_of_lt_of_le h.lt k.next,by rw [(k.keep i h.lt h1).get];exact h.get,
  h.row.on k.next (fun ad e=>by subst e;exact k.keep _ h.row.id (h2 _ rfl)) (fun ad e _=>by subst e;exact (k.keep _ h.row.id (h2 _ rfl)).get),h.me,h.ne,h.pos⟩
def BldW(i:Nat)(a:Option LAddr)(t:List UInt8)(v:LV)(H:LHeap):LV->LHeap->Prop:=fun w H'=>w=v/\PresX (i::idl a) H H'/\∃a' n' q',Bld H' i (some ⟨i,2,0⟩) a' n' q' t/\∀ad',a'=some ad'->(∃ad,a=some ad/\ad.id=ad'.id)\/H.next<=ad'.id
theorem BldW.use{i:Nat}{a:Option LAddr}{t:List UInt8}{v:LV}{H:LHeap}{sh:Sh}(h:hasSh sh v):∀w H',BldW i a t v H w H'->PresX (i::idl a) H H'/\hasSh sh w/\∃cs,hasSh (.agg [.ptr,.slice]) (.agg cs)/\List.length cs=2/\H'.get i=some (Slot.obj ⟨i,cs,162⟩):=by
 rintro w H' ⟨rfl,hp,a',n',q',hb,_⟩;exact ⟨hp,h,_,⟨_,_,_,_,rfl⟩,rfl,hb.get⟩
theorem app_str{H:LHeap}{a:Option LAddr}{n:Nat}{q:Cap}{t:List UInt8}{r:LV}:appendL cfg.P H [155,9] [.slice a n q,.str t]=appendL cfg.P H [155,155] [.slice a n q,.str t]:=by
 unfold appendL;simp only [show isIntT cfg.P 9=false by kernel_rfl,show isIntT cfg.P 155=false by kernel_rfl,show (cfg.P.underlying 9).isNone=false by kernel_rfl,show (cfg.P.underlying 155).isNone=false by kernel_rfl]
theorem takeN_all{α:Type}(l:List α):takeN l.length l=some l:=by rw [takeN_of _ _ (Nat.le_refl _),List.take_length]
theorem app_nil{H:LHeap}{a:Option LAddr}{n:Nat}{q:Cap}:appendL cfg.P H [155,155] [.slice a n q,.str []]=some (.slice a n q,H):=by
 unfold appendL;simp only [rowTB.elem,rowTB.sized,rowTB.bytes,rowTB.noInt,rowTB.und,Bool.false_eq_true,if_false];rfl
theorem row_str{H:LHeap}{a:Option LAddr}{n:Nat}{q:Cap}{s:List UInt8}(h:RowAt H 5 1 a n q (bcs s))(hp:∀ad,a=some ad->0<n/\q=.free 1)(t:List UInt8)(hb:n+t.length<=100000):
  ∃Y a' q' H',appendL cfg.P H [155,155] [.slice a n q,.str t]=some (.slice a' (n+t.length) q',H')/\PresX Y H H'/\RowAt H' 5 1 a' (n+t.length) q' (bcs (s++t))/\(∀i∈Y,∃ad,a=some ad/\ad.id=i)/\
   (∀ad',a'=some ad'->(∃ad,a=some ad/\ad.id=ad'.id)\/H.next<=ad'.id)/\(∀ad',a'=some ad'->0<n+t.length/\q'=.free 1):=by
 cases t with
 |nil=>exact ⟨[],a,q,H,app_nil,.refl _ _,by simpa using h,(fun i hi=>by cases hi),fun ad' h=>.inl ⟨ad',h,rfl⟩,fun ad h=>hp ad h⟩
 |cons b t=>
  have hnc:∀l:List UInt8,allCells (bcs l)=true:=by
   intro l;unfold bcs;induction l with
   |nil=>rfl
   |cons b l ih=>exact ih
  obtain ⟨Y,a',q',H9,e9,p9,r9,hY,ha,hq⟩:=h.append2 rowTB (x:=.str (b::t)) (m:=(b::t).length) (new:=bcs (b::t)) rfl (by unfold firstCellsL;simp only [Nat.beq_refl,if_true,takeN_all,Option.map_some];rfl) (by rw [bcs_len];omega) (hnc _) (by omega);exact ⟨Y,a',q',H9,e9,p9,by rw [bcs_app];exact r9,hY,ha,fun _ _=>⟨by simp;omega,hq (by simp)⟩⟩
theorem s161(i:Nat){p a:Option LAddr}{n:Nat}{q:Cap}{s:List UInt8}(t:List UInt8)(H:LHeap)(h:Bld H i p a n q s)(hl:s.length+t.length<=100000):
  CallL cfg 161 [.ptr (some ⟨i,2,0⟩),.str t] H (BldW i a (s++t) (.tuple [.int .i64 ((t.length:Nat):Int),.nilIface]) H):=by
 refine e161t _ (i::idl a) i p a n q t H (inv_box h.lt h.get (by simp)) fun _=>⟨_,s244 i p a n q H h.lt h.get h.me,fun v H' ⟨h1,h2,h3⟩=>⟨h1,by rw [h2];exact rfl,_,⟨_,_,_,_,rfl⟩,rfl,h3⟩,fun p1 a2 l3 c4 H5 ⟨p5,_,g5⟩ g5' hI5=> ?_⟩;rw [g5'] at g5;simp only [Option.some.injEq,Slot.obj,LObj.cells.injEq,List.cons.injEq,LV.ptr.injEq,LV.slice.injEq,and_true] at g5;obtain ⟨⟨rfl,rfl,rfl,rfl⟩,_⟩:=g5;have r5:RowAt H5 5 1 a2 l3 c4 (bcs s):=h.row.on p5.next (fun ad e=>by subst e;exact p5.keep _ h.row.id (by simpa using h.ne _ rfl)) (fun ad e _=>by subst e;exact (p5.keep _ h.row.id (by simpa using h.ne _ rfl)).get);have hn:=h.len;obtain ⟨Y,a',q',H9,e9,p9,r9,hY,ha,hpos⟩:=row_str r5 h.pos t (by omega);have ne9:∀ad',a'=some ad'->ad'.id≠i:=by
  intro ad' e;rcases ha ad' e with ⟨ad,e1,e2⟩ |e1
  ·rw [<-e2];exact h.ne _ e1
  ·exact fun e=>Nat.lt_irrefl _ (Nat.lt_of_lt_of_le (by rw [e];exact Nat.lt_of_lt_of_le h.lt p5.next) e1)
 refine ⟨Y,a',l3+t.length,q',H9,⟨by rw [app_str (r:=.undef)];exact e9,p9,fun j hj=> ?_⟩,fun H10 p10 hI=>⟨rfl,hI.pres,a',l3+t.length,q',⟨Nat.lt_of_lt_of_le h.lt hI.pres.next,(hI.slot 0 _ rfl).2.1,?_,.inr rfl,ne9,hpos⟩,fun ad' e=> ?_⟩⟩
 ·obtain ⟨ad,e1,e2⟩:=hY j hj;subst e1;exact okId_box (.inl (by simp [idl,e2])) (by rw [<-e2];exact h.ne _ rfl)
 ·exact r9.on p10.next (fun ad e=>by subst e;exact p10.keep _ r9.id (by simpa using ne9 _ rfl)) (fun ad e _=>by subst e;exact (p10.keep _ r9.id (by simpa using ne9 _ rfl)).get)
 ·rcases ha ad' e with e1 |e1
  ·exact .inl e1
  ·exact .inr (Nat.le_trans p5.next e1)
theorem s160(i:Nat){p a:Option LAddr}{n:Nat}{q:Cap}{s:List UInt8}(c:UInt8)(H:LHeap)(h:Bld H i p a n q s)(hl:s.length<=100000):
  CallL cfg 160 [.ptr (some ⟨i,2,0⟩),.int .u8 (c.toNat:Int)] H (BldW i a (s++[c]) .nilIface H):=by
 refine e160t _ (i::idl a) i p a n q _ H (inv_box h.lt h.get (by simp)) fun _=>⟨_,s244 i p a n q H h.lt h.get h.me,fun v H' ⟨h1,h2,h3⟩=>⟨h1,by rw [h2];exact rfl,_,⟨_,_,_,_,rfl⟩,rfl,h3⟩,fun p1 a2 l3 c4 H5 ⟨p5,_,g5⟩ g5' H6 e6 hI6=> ?_⟩;rw [g5'] at g5;simp only [Option.some.injEq,Slot.obj,LObj.cells.injEq,List.cons.injEq,LV.ptr.injEq,LV.slice.injEq,and_true] at g5;obtain ⟨⟨rfl,rfl,rfl,rfl⟩,_⟩:=g5;have p6:PresX [] H5 H6:=by rw [e6];exact .push _ _ _
 have p56:PresX [i] H H6:=p5.trans p6 (fun j hj=>by cases hj);have r5:RowAt H6 5 1 a2 l3 c4 (bcs s):=h.row.on p56.next (fun ad e=>by subst e;exact p56.keep _ h.row.id (by simpa using h.ne _ rfl)) (fun ad e _=>by subst e;exact (p56.keep _ h.row.id (by simpa using h.ne _ rfl)).get);have hn:=h.len;have hload:loadN H6 ⟨H5.next,1,0⟩ 1=some [.int .u8 (c.toNat:Int)]:=by
  unfold loadN;rw [e6,LHeap.get_push,if_pos rfl];rfl
 obtain ⟨Y,a',q',H9,e9,p9,r9,hY,ha,hq⟩:=r5.append2 rowTB (x:=.slice (some ⟨H5.next,1,0⟩) 1 (.exact 1)) (m:=1) (new:=bcs [c]) rfl (by unfold firstCellsL;exact hload) rfl rfl (by omega);have ne9:∀ad',a'=some ad'->ad'.id≠i:=by
  intro ad' e;rcases ha ad' e with ⟨ad,e1,e2⟩ |e1
  ·rw [<-e2];exact h.ne _ e1
  ·exact fun e=>Nat.lt_irrefl _ (Nat.lt_of_lt_of_le (by rw [e];exact Nat.lt_of_lt_of_le h.lt (Nat.le_of_lt (by rw [e6];exact Nat.lt_of_le_of_lt p5.next (Nat.lt_succ_self _)))) e1)
 refine ⟨Y,a',l3+1,q',H9,⟨e9,p9,fun j hj=> ?_⟩,fun H10 p10 hI=>⟨rfl,hI.pres,a',l3+1,q',⟨Nat.lt_of_lt_of_le h.lt hI.pres.next,(hI.slot 0 _ rfl).2.1,?_,.inr rfl,ne9,fun _ _=>⟨by omega,hq (by omega)⟩⟩,fun ad' e=> ?_⟩⟩
 ·obtain ⟨ad,e1,e2⟩:=hY j hj;subst e1;exact okId_box (.inl (by simp [idl,e2])) (by rw [<-e2];exact h.ne _ rfl)
 ·rw [bcs_app];exact r9.on p10.next (fun ad e=>by subst e;exact p10.keep _ r9.id (by simpa using ne9 _ rfl)) (fun ad e _=>by subst e;exact (p10.keep _ r9.id (by simpa using ne9 _ rfl)).get)
 ·rcases ha ad' e with e1 |e1
  ·exact .inl e1
  ·exact .inr (Nat.le_trans p56.next e1)
theorem s112(i:Nat){p a:Option LAddr}{n:Nat}{q:Cap}{s:List UInt8}(H:LHeap)(h:Bld H i p a n q s)(hl:s.length<=100000):
  CallL cfg 112 [.ptr (some ⟨i,2,0⟩)] H (fun v H'=>PresX (idl a) H H'/\v=.str s):=by
 have hn:=h.len;have hg:=h.get;have hrow:=h.row;cases a with
 |none=>
  have h0:n=0/\q=.exact 0:=by
   generalize bcs s=cs at hrow;cases hrow;exact ⟨rfl,rfl⟩
  obtain ⟨rfl,rfl⟩:=h0;have hs:s=[]:=List.eq_nil_of_length_eq_zero (by omega);subst hs;refine e112n _ [i] i p H (inv_box h.lt hg (by simp)) fun _=>⟨none,[],H,⟨rfl,.refl _ _,fun j hj=>by cases hj⟩,rfl,fun _=>⟨[],[],H,⟨rfl,.refl _ _,fun j hj=>by cases hj⟩,fun hI=>⟨.refl _ _,rfl⟩⟩⟩
 |some ad=>
  obtain ⟨hpos,rfl⟩:=h.pos ad rfl;obtain ⟨k,rfl⟩:∃k,n=k+1:=⟨n-1,by omega⟩;have hload:loadN H ad (k+1)=some (bcs s):=by
   have:=hrow.loadAll;unfold firstCellsL at this;simpa using this
  have hobj:∃m,H.get ad.id=some (.cells (bcs s) 5 (k+1) m .none false false)/\ad.ver=k+1:=by
   generalize bcs s=cs at hrow;cases hrow with
   |free r n m cs hi h1 h2 h3 h4=>exact ⟨m,by simpa using h1,by simp⟩
  obtain ⟨m,hobj,hver⟩:=hobj;have hfz:freezeL H ad (k+1)=some (H.put ad.id (.cells (bcs s) 5 (k+1) m (.range ad.off (ad.off+(k+1))) false false)):=by
   unfold freezeL;simp only [hobj,hver,Nat.beq_refl,Bool.not_false,Bool.and_self,if_true]
  refine e112s _ [i,ad.id] i p ad k (.free 1) H (inv_box h.lt hg (by simp)) fun _=>⟨some ad,[],H,⟨rfl,.refl _ _,fun j hj=>by cases hj⟩,rfl,fun _=>⟨s,[ad.id],H.put ad.id (.cells (bcs s) 5 (k+1) m (.range ad.off (ad.off+(k+1))) false false),⟨?_,.put _ _ _,fun j hj=> ?_⟩,fun hI=>⟨.put _ _ _,rfl⟩⟩⟩
  ·show (match builtinL cfg H .unsafeString [250,3] [.ptr (some ad),.int .i64 (Int.ofNat (k+1))] with |some x=>some [x] |none=>none)=_;have hbr:byteRow cfg.P 5 [250,3]=true:=by kernel_rfl
   have hble:Nat.ble (k+1) 9223372036854775807=true:=by rw [Nat.ble_eq];omega
   have:builtinL cfg H .unsafeString [250,3] [.ptr (some ad),.int .i64 (Int.ofNat (k+1))]=some (.value (.str s),H.put ad.id (.cells (bcs s) 5 (k+1) m (.range ad.off (ad.off+(k+1))) false false)):=by
    unfold builtinL;simp only [hobj,hbr,hble,Bool.and_self,hload,bytes_bcs,hfz]
   rw [this]
  ·rw [List.mem_singleton.1 hj];exact okId_box (.inl (by simp)) (h.ne ad rfl)
def L148t_0(d:Nat->LV)(s0:List UInt8)(n1:Int):List SV:=[.lv (.str s0),.lv (d 1),.own 0 0,.lv (d 3),.own 1 0,.lv (I6 n1)]++dl d 6 35
abbrev qT8_1:List LV:=[I6 0,I6 0,.str [],.str [],.str [],I6 0,I6 0,.bool false,.bool false]
abbrev qT8_2(i2:Nat)(x3:TokC)(i4:Nat)(p5 a6:Option LAddr)(l7:Nat)(c8:Cap):List Slot:=[Sk i2 (TokC.cs x3) 124,Sk i4 [.ptr p5,.slice a6 l7 c8] 162]
abbrev qT8_3(H':LHeap)(i4:Nat):Prop:=∃cs,hasSh (.agg [.ptr,.slice]) (.agg cs)/\(List.length cs=2/\H'.get i4=some (Slot.obj ⟨i4,cs,162⟩))
theorem g148t_0(R:RR)(H0:LHeap)(d:Nat->LV)(s0:List UInt8)(n1:Int)(i2:Nat)(x3:TokC)(i4:Nat)(p5:Option LAddr)(a6:Option LAddr)(l7:Nat)(c8:Cap)(H:LHeap)
(h:Dc (n1<(s0.length:Int)) ((0<=n1/\(n1<=(s0.length:Int)/\(s0.length:Int)<=(s0.length:Int)))/\(Inv [] H0 (qT8_2 i2 x3 i4 p5 a6 l7 c8) H->Ki 231 [.str (subStr s0 n1 (s0.length:Int)),.str [34]] H fun s11 s12 b13 H14=>Cd (!b13) (PX [i2] H14 fun H15=>R0 H0 [Sk i2 qT8_1 124,Sk i4 [.ptr p5,.slice a6 l7 c8] 162] H15 R (.tuple [.agg qT8_1,I6 0])) (Inv [] H0 (qT8_2 i2 x3 i4 p5 a6 l7 c8) H14->∃S16 Y,CallL cfg 161 [.ptr (some (Lk i4 2 0)),.str s11] H14 S16/\((∀v H',S16 v H'->PresX (i4::Y) H14 H'/\(hasSh (.tuple [.int .i64,.any]) v/\ (qT8_3 H' i4)))/\((∀i∈Y,okId [] H0 (qT8_2 i2 x3 i4 p5 a6 l7 c8) i)/\(∀n17 v18 p19 a20 l21 c22 H23,S16 (.tuple [I6 n17,v18]) H23->H23.get i4=some (Slot.obj (Sk i4 [.ptr p19,.slice a20 l21 c22] 162))->Inv [] H0 (qT8_2 i2 x3 i4 p19 a20 l21 c22) H23->Ka 232 [.str s12,.str [34]] H23 fun b25 H26=>Cd (!b25) (Inv [] H0 (qT8_2 i2 x3 i4 p19 a20 l21 c22) H26->∃S27 Y,CallL cfg 112 [.ptr (some (Lk i4 2 0))] H26 S27/\((∀v H',S27 v H'->PresX Y H26 H'/\hasSh .str v)/\((∀i∈Y,okId [] H0 (qT8_2 i2 x3 i4 p19 a20 l21 c22) i)/\(∀s28 H29,S27 (.str s28) H29->PX [i2] H29 fun H30=>R0 H0 [Sk i2 [I6 2,I6 0,.str s28,.str [],.str [],I6 0,I6 0,.bool false,.bool false] 124,Sk i4 [.ptr p19,.slice a20 l21 c22] 162] H30 R (.tuple [.agg [I6 2,I6 0,.str s28,.str [],.str [],I6 0,I6 0,.bool false,.bool false],I6 (lwrap .i64 ((s0.length:Int)-(s12.length:Int)))]))))) (Inv [] H0 (qT8_2 i2 x3 i4 p19 a20 l21 c22) H26->∃S31 Y,CallL cfg 160 [.ptr (some (Lk i4 2 0)),.int .u8 34] H26 S31/\((∀v H',S31 v H'->PresX (i4::Y) H26 H'/\(hasSh .any v/\ (qT8_3 H' i4)))/\((∀i∈Y,okId [] H0 (qT8_2 i2 x3 i4 p19 a20 l21 c22) i)/\(∀v32 p33 a34 l35 c36 H37,S31 v32 H37->H37.get i4=some (Slot.obj (Sk i4 [.ptr p33,.slice a34 l35 c36] 162))->∀d38,GoesT cfg 148 R [] H0 (qT8_2 i2 x3 i4 p33 a34 l35 c36) (L148t_0 d38 s0 (lwrap .i64 ((lwrap .i64 ((s0.length:Int)-(s12.length:Int)))+1))) (loopAt cfg 148 0) H37)))))))))) (PX [i2] H fun H39=>R0 H0 [Sk i2 qT8_1 124,Sk i4 [.ptr p5,.slice a6 l7 c8] 162] H39 R (.tuple [.agg qT8_1,I6 0]))):
 GoesT cfg 148 R [] H0 [Sk i2 (TokC.cs x3) 124,Sk i4 [.ptr p5,.slice a6 l7 c8] 162] (L148t_0 d s0 n1) (loopAt cfg 148 0) H:=seg_wt (k:=(.go 8 (.cases 12 (.go 7 (.op .str (.facts (.call (.tuple [.str,.str,.bool]) (.go 14 (.cases 22 (.go 4 (.putP (.go 2 (.facts .ret)))) (.go 5 (.facts (.callOY 1 (.agg [.ptr,.slice]) (.tuple [.int .i64,.any]) (.go 14 (.facts (.call .bool (.go 2 (.cases 33 (.go 3 (.facts (.callY .str (.go 2 (.putP (.go 2 (.facts .ret))))))) (.go 4 (.facts (.callOY 1 (.agg [.ptr,.slice]) .any (.go 8 (.stop [2,4,0,5] 2))))))))))))))))))) (.go 5 (.putP (.go 2 (.facts .ret))))))) (by kernel_rfl) h
theorem e148t(R:RR)(s0:List UInt8)(H:LHeap)
(h:NX H fun i1 H2=>NX H2 fun i3 H4=>∀d5,GoesT cfg 148 R [] H [Sk i1 qT8_1 124,Sk i3 [.ptr none,.slice none 0 (.exact 0)] 162] (L148t_0 d5 s0 1) (loopAt cfg 148 0) H4):
 CallL cfg 148 [.str s0] H R:=call_wt0 (k:=(.go 2 (.boxP (.go 4 (.boxP (.go 8 (.stop [2,4,0,5] 2))))))) (by kernel_rfl) h
def qF:List UInt8->Option (List UInt8×Nat)
 |[]=>none
 |[b]=>if b==34 then some ([],1) else none
 |b::c::s=>if b==34 then (if c==34 then (qF s).map fun r=>(34::r.1,r.2+2) else some ([],1)) else (qF (c::s)).map fun r=>(b::r.1,r.2+1)
def strT(x:List UInt8):TokC:=⟨2,0,x,[],[],0,0,false,false⟩
def quotedF:List UInt8->Option (TokC×Nat)
 |[]=>none
 |_::t=>(qF t).map fun r=>(strT r.1,r.2+1)
theorem qF_no{b:UInt8}{s:List UInt8}(h:(b==34)=false):qF (b::s)=(qF s).map fun r=>(b::r.1,r.2+1):=by
 cases s with
 |nil=>unfold qF;rw [h];rfl
 |cons c s=>rw [qF,h];rfl
theorem qF_two{s:List UInt8}:qF (34::34::s)=(qF s).map fun r=>(34::r.1,r.2+2):=by rw [qF];rfl
theorem qF_end{s:List UInt8}(h:(s.take 1==[34])=false):qF (34::s)=some ([],1):=by
 cases s with
 |nil=>rfl
 |cons c s=>
  have:(c==34)=false:=by
   rw [beq_eq_false_iff_ne] at h |-;intro e;subst e;exact h rfl
  rw [qF,this];rfl
theorem qF_cut:∀{s p r:List UInt8},cutF 34 s=some (p,r)->qF s=(qF (34::r)).map fun x=>(p++x.1,p.length+x.2)
 |[],p,r,h=>by cases h
 |b::s,p,r,h=>by
  rw [cutF_cons] at h;cases hb:(b==34) with
  |true=>
   rw [hb,if_pos rfl] at h;cases h;rw [eq_of_beq hb];cases qF (34::s)<;>simp
  |false=>
   rw [hb,if_neg (by simp)] at h;rw [qF_no hb];cases hc:cutF 34 s with
   |none=>rw [hc] at h;cases h
   |some x=>
    obtain ⟨p',r'⟩:=x;rw [hc] at h;cases h;rw [qF_cut hc,Option.map_map];cases qF (34::r) with
    |none=>rfl
    |some x=>simp;omega
theorem qF_nocut:∀{s:List UInt8},cutF 34 s=none->qF s=none
 |[],h=>rfl
 |b::s,h=>by
  rw [cutF_cons] at h;cases hb:(b==34) with
  |true=>rw [hb,if_pos rfl] at h;cases h
  |false=>
   rw [hb,if_neg (by simp)] at h;rw [qF_no hb,qF_nocut (s:=s) (by
    cases hc:cutF 34 s with
    |none=>rfl
    |some x=>rw [hc] at h;cases h)]
   rfl
theorem BldW.elim{i:Nat}{a:Option LAddr}{t:List UInt8}{v:LV}{H:LHeap}{w:LV}{H':LHeap}(h:BldW i a t v H w H'){p b:Option LAddr}{n:Nat}{q:Cap}(hg:H'.get i=some (Slot.obj ⟨i,[.ptr p,.slice b n q],162⟩)):
  Bld H' i p b n q t/\(∀ad',b=some ad'->(∃ad,a=some ad/\ad.id=ad'.id)\/H.next<=ad'.id):=by
 obtain ⟨_,_,a',n',q',hb,ha⟩:=h;have h2:=hb.get;rw [hg] at h2;simp only [Option.some.injEq,Slot.obj,LObj.cells.injEq,List.cons.injEq,LV.ptr.injEq,LV.slice.injEq,and_true] at h2;obtain ⟨⟨rfl,rfl,rfl,rfl⟩,_⟩:=h2;exact ⟨hb,ha⟩
theorem idl_ok{X:List Nat}{H0:LHeap}{a:Option LAddr}{i2 i4:Nat}{c2 c4:List LV}{e2 e4:TypeId}(h:∀ad,a=some ad->H0.next<=ad.id/\ad.id≠i2)(h4:∀ad,a=some ad->ad.id≠i4):∀j∈idl a,okId X H0 [⟨i2,c2,e2⟩,⟨i4,c4,e4⟩] j:=by
 intro j hj;cases a with
 |none=>cases hj
 |some ad=>
  rw [List.mem_singleton.1 hj];refine ⟨.inr (h ad rfl).1,fun k s hs=> ?_⟩;cases k with
  |zero=>cases hs;exact fun e=>(h ad rfl).2 e.symm
  |succ k=>cases k with
   |zero=>cases hs;exact fun e=>h4 ad rfl e.symm
   |succ k=>simp [nth] at hs
def qL(B:List UInt8)(n:Nat)(o:Option (List UInt8×Nat)):LV:=tokL (o.map fun r=>(strT (B++r.1),n+r.2))
theorem loop148(s:List UInt8)(hs:s.length<=1000)(H0:LHeap)(i2 i4:Nat):∀(m:Nat) (C A B:List UInt8) (p a:Option LAddr) (l:Nat) (c:Cap) (d:Nat->LV) (H:LHeap),C.length<=m->A++C=s->B.length+C.length<=1000->
  Bld H i4 p a l c B->(∀ad,a=some ad->H0.next<=ad.id/\ad.id≠i2)->∀r:LV,r=qL B A.length (qF C)->
  GoesT cfg 148 (Ret r H0) [] H0 [⟨i2,zeroT.cs,124⟩,⟨i4,[.ptr p,.slice a l c],162⟩] (L148t_0 d s (A.length:Int)) (loopAt cfg 148 0) H:=by
 intro m;induction m with
 |zero=>
  intro C A B p a l c d H hm hA hB hb ha r hr hin hI;have hC:C=[]:=List.eq_nil_of_length_eq_zero (by omega);subst hC;rw [List.append_nil] at hA;subst hA;refine g148t_0 _ H0 d A A.length i2 zeroT i4 p a l c H ⟨fun h=>(by simp at h),fun _ H39 _ hI=>⟨?_,hI.pres⟩⟩ hin hI;rw [hr];rfl
 |succ m ih=>
  intro C A B p a l c d H hm hA hB hb ha r hr hin hI;have hlen:s.length=A.length+C.length:=by rw [<-hA];simp
  have hd:subStr s (A.length:Int) ((s.length:Nat):Int)=C:=by rw [sub_drop,<-hA];simp
  have hi2:i2<H.next:=(hI.slot 0 _ rfl).1;have c231:CallL cfg 231 [.str (subStr s (A.length:Int) ((s.length:Nat):Int)),.str [34]] H (Ret (cutL C 34) H):=by rw [hd];exact s231 C 34 H (by omega)
  refine g148t_0 _ H0 d s A.length i2 zeroT i4 p a l c H ⟨fun h=>⟨by omega,fun _=>⟨_,c231,Ret.use (cutL_sh _ _),fun s11 s12 b13 H14 ⟨e13,p14⟩=> ?_⟩⟩,fun h H39 _ hI=>⟨?_,hI.pres⟩⟩ hin hI
  ·have q1:=cut_inv e13;refine ⟨fun h13 H15 _ hI=>⟨?_,hI.pres⟩,fun h13 _=> ?_⟩
   ·have:b13=false:=by simpa using h13
    rw [this] at q1;rw [hr,qF_nocut q1];rfl
   ·have hb13:b13=true:=by simpa using h13
    rw [hb13,if_pos rfl] at q1;have hl1:=cutF_len q1;have b14:Bld H14 i4 p a l c B:=hb.on p14 (by simp) (fun _ _=>by simp);have hq:=qF_cut q1;refine ⟨_,idl a,s161 i4 s11 H14 b14 (by omega),BldW.use ⟨_,_,rfl⟩,idl_ok ha hb.ne,fun n17 v18 p19 a20 l21 c22 H23 w23 g23 _=> ?_⟩;obtain ⟨b23,n23⟩:=w23.elim g23;have p23:=w23.2.1;have ha23:∀ad,a20=some ad->H0.next<=ad.id/\ad.id≠i2:=by
     intro ad e;rcases n23 ad e with ⟨ad',e1,e2⟩ |e1
     ·rw [<-e2];exact ha ad' e1
     ·have h0:=hI.pres.next;have h1:=p14.next;exact ⟨by omega,by omega⟩
    refine ⟨_,s232 s12 [34] H23,Ret.use ⟨_,rfl⟩,fun b25 H26 ⟨e25,p26⟩=> ?_⟩;have b26:Bld H26 i4 p19 a20 l21 c22 (B++s11):=b23.on p26 (by simp) (fun _ _=>by simp);have w1:lwrap .i64 (((s.length:Nat):Int)-((s12.length:Nat):Int))=((A.length+(s11.length+1):Nat):Int):=by
     rw [lwrap_small (by omega) (by omega)];omega
    rw [w1];refine ⟨fun h25 _=>⟨_,idl a20,s112 i4 H26 b26 (by simp;omega),fun v H' ⟨k1,k2⟩=>⟨k1,by rw [k2];exact ⟨_,rfl⟩⟩,idl_ok ha23 b26.ne,fun s28 H29 ⟨_,e28⟩ H30 _ hI=>⟨?_,hI.pres⟩⟩,fun h25 _=>⟨_,idl a20,s160 i4 34 H26 b26 (by simp;omega),BldW.use ⟨_,rfl⟩,idl_ok ha23 b26.ne,fun v32 p33 a34 l35 c36 H37 w37 g37 d38=> ?_⟩⟩
    ·cases e28;have hb25:b25=false:=by simpa using h25
     have:(s12.take 1==[34])=false:=by
      rw [hb25] at e25;exact (LV.bool.inj e25).symm
     rw [hr,hq,qF_end this];simp [qL,tokL,strT];rfl
    ·have hb25:b25=true:=by simpa using h25
     obtain ⟨b37,n37⟩:=w37.elim g37;have:(s12.take 1==[34])=true:=by
      rw [hb25] at e25;exact (LV.bool.inj e25).symm
     obtain ⟨C',hC'⟩:∃C',s12=34::C':=by
      cases s12 with
      |nil=>cases this
      |cons x y=>simp at this;exact ⟨y,by rw [this]⟩
     subst hC';rw [lwrap_small (by omega) (by omega),show (((A.length+(s11.length+1):Nat):Int))+1=(((A++s11++[34,34]).length:Nat):Int) by simp;omega];have hCe:=cutF_eq q1;refine ih C' (A++s11++[34,34]) (B++s11++[34]) p33 a34 l35 c36 d38 H37 (by simp at hl1;omega) (by rw [<-hA,hCe];simp) (by simp at hl1 |-;omega) b37 ?_ r ?_
     ·intro ad e;rcases n37 ad e with ⟨ad',e1,e2⟩ |e1
      ·rw [<-e2];exact ha23 ad' e1
      ·have h0:=hI.pres.next;have h1:=p14.next;have h2:=p23.next;have h3:=p26.next;exact ⟨by omega,by omega⟩
     ·rw [hr,hq,qF_two];cases qF C' with
      |none=>rfl
      |some x=>
       simp [qL,tokL,strT];omega
  ·have hC:C=[]:=List.eq_nil_of_length_eq_zero (by simp at h;omega);rw [hr,hC];rfl
theorem s148(c:UInt8)(t:List UInt8)(hs:(c::t).length<=1000)(H:LHeap):CallL cfg 148 [.str (c::t)] H (Ret (tokL (quotedF (c::t))) H):=by
 refine e148t _ (c::t) H fun i1 H2 h2 p2 i3 H4 h4 p4 d5 hin hI=> ?_;have hs3:=hI.slot 1 _ rfl;have hb:Bld H4 i3 none none 0 (.exact 0) []:=⟨hs3.1,hs3.2.1,.nil,.inl rfl,(fun _ e=>by cases e),(fun _ e=>by cases e)⟩;refine loop148 (c::t) hs H i1 i3 t.length t [c] [] none none 0 (.exact 0) d5 H4 (Nat.le_refl _) rfl (by simp at hs |-;omega) hb (fun _ e=>by cases e) _ ?_ hin hI;rw [show quotedF (c::t)=(qF t).map fun r=>(strT r.1,r.2+1) from rfl];unfold qL;cases qF t with
 |none=>rfl
 |some x=>simp [Nat.add_comm]
def L74t_0(d:Nat->LV)(p0:Option LAddr):List SV:=[.own 0 0]++dl d 1 7++[.lv (.ptr p0)]++dl d 9 34
abbrev qT4_1(d:Nat->LV)(p0:Option LAddr):List SV:=[.own 0 0,.lv (d 1),.lv (d 2),.lv (d 3),.lv (d 4),.lv (d 5),.lv (d 6),.lv (d 7),.lv (.ptr p0),.lv (d 9),.lv (d 10),.lv (d 11),.lv (d 12),.lv (d 13),.lv (d 14),.lv (d 15),.lv (d 16),.lv (d 17),.lv (d 18),.lv (d 19),.lv (d 20),.lv (d 21),.lv (d 22),.lv (d 23),.lv (d 24),.lv (d 25),.lv (d 26),.lv (d 27),.lv (d 28),.lv (d 29),.lv (d 30),.lv (d 31),.lv (d 32),.lv (d 33),.lv (d 34),.lv (d 35),.lv (d 36),.lv (d 37),.lv (d 38),.lv (d 39),.lv (d 40),.lv (d 41),.lv (d 42)]
abbrev qT4_2(i1:Nat)(H14 H0:LHeap)(s2:List UInt8)(R:RR):Prop:=PX [i1] H14 fun H15=>RX [i1] H0 [Sk i1 [.str s2,.func (Fn.func 151) [] []] 121] H15 R (.tuple [])
theorem g74t_0(R:RR)(H0:LHeap)(d:Nat->LV)(p0:Option LAddr)(i1:Nat)(s2:List UInt8)(v3:LV)(H:LHeap)
(h:(Inv [i1] H0 [Sk i1 [.str s2,v3] 121] H->∃y4 Y H5,(opL cfg (fun (x:Operand)=>denF [Sk i1 [.str s2,v3] 121] (evalS cfg (qT4_1 d p0) x)) H (Oper.mk (some 9) (Op.next (Operand.tmp 8) true) 0 "token.go:53" (List.toArray []) none)=some [(.value (.tuple [.bool true,I6 (Prod.fst y4),.int .i32 (Prod.snd y4)]),H5)]/\(PresX Y H H5/\(∀i∈Y,okId [i1] H0 [Sk i1 [.str s2,v3] 121] i)))/\(Inv [i1] H0 [Sk i1 [.str s2,v3] 121] H5->Ka 146 [.int .i32 (Prod.snd y4)] H5 fun b7 H8=>Cd b7 (PX [i1] H8 fun H9=>RX [i1] H0 [Sk i1 [.str s2,.func (Fn.func 147) [] []] 121] H9 R (.tuple [])) (Cd ((Prod.snd y4)==34) (PX [i1] H8 fun H10=>RX [i1] H0 [Sk i1 [.str s2,.func (Fn.func 148) [] []] 121] H10 R (.tuple [])) (Cd ((Prod.snd y4)==35) (PX [i1] H8 fun H11=>RX [i1] H0 [Sk i1 [.str s2,.func (Fn.func 149) [] []] 121] H11 R (.tuple [])) (Inv [i1] H0 [Sk i1 [.str s2,v3] 121] H8->Ka 150 [.int .i32 (Prod.snd y4)] H8 fun b13 H14=>Cd b13 (qT4_2 i1 H14 H0 s2 R) (Cd ((Prod.snd y4)==91) (qT4_2 i1 H14 H0 s2 R) (Cd ((Prod.snd y4)==36) (qT4_2 i1 H14 H0 s2 R) (PX [i1] H14 fun H18=>RX [i1] H0 [Sk i1 [.str s2,.func (Fn.func 152) [] []] 121] H18 R (.tuple [])))))))))\/(Inv [i1] H0 [Sk i1 [.str s2,v3] 121] H->∃(y19:Unit) (Y:List Nat) (H20:LHeap),(opL cfg (fun (x:Operand)=>denF [Sk i1 [.str s2,v3] 121] (evalS cfg (qT4_1 d p0) x)) H (Oper.mk (some 9) (Op.next (Operand.tmp 8) true) 0 "token.go:53" (List.toArray []) none)=some [(.value (.tuple [.bool false]),H20)]/\(PresX Y H H20/\(∀i∈Y,okId [i1] H0 [Sk i1 [.str s2,v3] 121] i)))/\(RX [i1] H0 [Sk i1 [.str s2,v3] 121] H20 R (.tuple [])))):
 GoesT cfg 74 R [i1] H0 [Sk i1 [.str s2,v3] 121] (L74t_0 d p0) (loopAt cfg 74 0) H:=seg_wt (k:=(.go 2 (.alt (.facts (.any (.cust (Int×Int) (fun (p:Int×Int)=>(.tuple [.bool true,.int .i64 p.1,.int .i32 p.2]:LV))) (.go 16 (.facts (.call .bool (.go 2 (.cases 15 (.go 5 (.putP (.go 2 (.facts .ret)))) (.go 7 (.cases 21 (.go 5 (.putP (.go 2 (.facts .ret)))) (.go 7 (.cases 27 (.go 5 (.putP (.go 2 (.facts .ret)))) (.go 5 (.facts (.call .bool (.go 2 (.cases 33 (.go 7 (.putP (.go 2 (.facts .ret)))) (.go 7 (.cases 33 (.go 7 (.putP (.go 2 (.facts .ret)))) (.go 6 (.cases 33 (.go 5 (.putP (.go 2 (.facts .ret)))) (.go 5 (.putP (.go 2 (.facts .ret)))))))))))))))))))))))) (.facts (.any (.cust Unit (fun (_:Unit)=>(.tuple [.bool false]:LV))) (.go 5 (.facts .ret))))))) (by kernel_rfl) h
theorem e74t(R:RR)(s:(List UInt8))(v:Go.Lm.LV)(ii:Nat)(H:LHeap)(hI:Inv [ii] H [(Sk ii [(.str s),v] 121)] H)
(h:Inv [ii] H [Sk ii [.str s,v] 121] H->∃p0 Y H1,(opL cfg (fun (x:Operand)=>denF [Sk ii [.str s,v] 121] (evalS cfg [.own 0 0,.lv (.tuple []),.lv (.tuple []),.lv (.tuple []),.own 0 0,.own 0 0,.own 0 0,.lv (.str s),.lv (.tuple []),.lv (.tuple []),.lv (.tuple []),.lv (.tuple []),.lv (.tuple []),.lv (.tuple []),.lv (.tuple []),.lv (.tuple []),.lv (.tuple []),.lv (.tuple []),.lv (.tuple []),.lv (.tuple []),.lv (.tuple []),.lv (.tuple []),.lv (.tuple []),.lv (.tuple []),.lv (.tuple []),.lv (.tuple []),.lv (.tuple []),.lv (.tuple []),.lv (.tuple []),.lv (.tuple []),.lv (.tuple []),.lv (.tuple []),.lv (.tuple []),.lv (.tuple []),.lv (.tuple []),.lv (.tuple []),.lv (.tuple []),.lv (.tuple []),.lv (.tuple []),.lv (.tuple []),.lv (.tuple []),.lv (.tuple []),.lv (.tuple [])] x)) H (Oper.mk (some 8) (Op.range 9 (Operand.tmp 7)) 0 "token.go:53" (List.toArray [Edge.mk 3 Go.Ground.data]) none)=some [(.value (.ptr p0),H1)]/\(PresX Y H H1/\(∀i∈Y,okId [ii] H [Sk ii [.str s,v] 121] i)))/\(∀d2,GoesT cfg 74 R [ii] H [Sk ii [.str s,v] 121] (L74t_0 d2 p0) (loopAt cfg 74 0) H1)):
 CallL cfg 74 [.ptr (some (Lk ii 2 0))] H R:=call_wt (k:=(.go 6 (.facts (.any .ptr (.go 3 (.stop [0,8] 1)))))) (kn:=[Sk ii [.str s,v] 121]) (args:=[.own 0 0]) (by kernel_rfl) h hI (fun x hx=>List.all_eq_true.1 (show List.all [.own 0 0] (inR 1)=true from rfl) x hx)
abbrev qT6_1:List LV:=[.str [],.str [35,68,73,86,47,48,33],.str [35,86,65,76,85,69,33],.str [35,82,69,70,33],.str [35,78,65,77,69,63],.str [35,78,85,77,33],.str [35,78,47,65],.str [35,67,89,67,76,69,33],.str [35,76,73,78,75,33]]
theorem e261(R:RR)(H:LHeap)
(h:NX H fun i0 H1=>PX [i0] H1 fun H2=>R0 H [Sk i0 qT6_1 214] H2 R (.agg qT6_1)):
 CallL cfg 261 [] H R:=call_wt0 (k:=(.go 2 (.boxP (.go 4 (.putP (.go 1 (.facts .ret))))))) (by kernel_rfl) h
end Go.Proofs.YtjihhflffkoffaaGreatDoor.Z
