/- Contracts of functions of the program; no condition. -/
import Derived.Test.YtjihhflffkoffaaGreatDoorG6
import Derived.Test.YtjihhflffkoffaaGreatDoorG5
import Derived.Test.YtjihhflffkoffaaGreatDoorG0
import Derived.Test.YtjihhflffkoffaaGreatDoorLe
set_option linter.unusedSimpArgs false
set_option linter.unusedVariables false
set_option linter.unusedSectionVars false
set_option linter.unnecessarySimpa false
namespace Go.Proofs.YtjihhflffkoffaaGreatDoor.Z
open Go Go.Lm
set_option maxRecDepth 1000000
set_option maxHeartbeats 0
def opT(x:List UInt8):TokC:=⟨5,0,x,[],[],0,0,false,false⟩
def OPS:List UInt8:=[43,45,42,47,94,38,61,60,62,37,40,41,44,58]
def twoB(s:List UInt8):Bool:=s.take 2==[60,62]||(s.take 2==[60,61]||s.take 2==[62,61])
def opF:List UInt8->Option (TokC×Nat)
 |[]=>none
 |c::t=>if twoB (c::t) then some (opT ((c::t).take 2),2) else if (cutF c OPS).isSome then some (opT [c],1) else none
theorem two_ok{c:UInt8}{t:List UInt8}(h:twoB (c::t)=true):(cutF c OPS).isSome=true:=by
 unfold twoB at h;simp only [Bool.or_eq_true,beq_iff_eq] at h;have:c=60\/c=62:=by
  rcases h with h |h |h
  ·simp at h;exact .inl h.1
  ·simp at h;exact .inl h.1
  ·simp at h;exact .inr h.1
 rcases this with rfl |rfl<;>rfl
theorem s152(c:UInt8)(t:List UInt8)(hs:(c::t).length<=1000)(H:LHeap):CallL cfg 152 [.str (c::t)] H (Ret (tokL (opF (c::t))) H):=by
 have e1:subStr (c::t) 0 1=[c]:=by rw [show (1:Int)=((1:Nat):Int) from rfl,sub_take];rfl
 have e2:subStr (c::t) 0 2=(c::t).take 2:=by rw [show (2:Int)=((2:Nat):Int) from rfl,sub_take]
 have hop:opF (c::t)=if twoB (c::t) then some (opT ((c::t).take 2),2) else if (cutF c OPS).isSome then some (opT [c],1) else none:=rfl
 have htw:=two_ok (c:=c) (t:=t);have htd:twoB (c::t)=((c::t).take 2==[60,62]||((c::t).take 2==[60,61]||(c::t).take 2==[62,61])):=rfl;have hlen:(c::t).length=t.length+1:=rfl;have hsh:∀l:List UInt8,l.length=2->(c::t).length<=1->((c::t).take 2==l)=false:=by
  intro l hl h1;rw [beq_eq_false_iff_ne];intro e;have:=congrArg List.length e;rw [List.length_take] at this;omega
 refine e152t _ (c::t) H fun i1 H2 _ _=> ?_;dsimp only [qT1_1,qT1_10,qT1_4,qT1_7];rw [e1,e2];generalize c::t=s at*;have c237:∀H,CallL cfg 237 [.str OPS,.str [c]] H (Ret (.bool (cutF c OPS).isSome) H):=fun H=>s237 OPS c H;have bad:∀{H':LHeap},opF s=none->PresX [] H H'->Ret (tokL (opF s)) H (.tuple [.agg [.int .i64 0,.int .i64 0,.str [],.str [],.str [],.int .i64 0,.int .i64 0,.bool false,.bool false],.int .i64 0]) H':=fun h p=>⟨by rw [h];rfl,p⟩;have good:∀{H':LHeap} {t:TokC} {n:Nat},opF s=some (t,n)->PresX [] H H'->Ret (tokL (opF s)) H (.tuple [.agg t.cs,.int .i64 (n:Int)]) H':=fun h p=>⟨by rw [h];rfl,p⟩;have two:∀(H2:LHeap) (b6:Bool),Ret (.bool (cutF c OPS).isSome) H2 (.bool b6) H2->True:=fun _ _ _=>trivial;refine ⟨fun hl=> ?long,fun hl=> ?short⟩
 case long=>
  have hl2:(2:Int)<=((s.length:Nat):Int):=by simp at hl;omega
  refine ⟨by omega,fun h1=>⟨by omega,fun _=>⟨_,c237 H2,Ret.use ⟨_,rfl⟩,fun b6 H7 ⟨e6,_⟩=>⟨fun h6 H8 _ hI=> ?_,fun h6=>⟨by omega,fun H10 _ hI=>good (t:=opT (s.take 2)) (n:=2) ?_ hI.pres⟩⟩⟩⟩,fun h1=>⟨by omega,fun h2=>⟨by omega,fun _=>⟨_,c237 H2,Ret.use ⟨_,rfl⟩,fun b6 H7 ⟨e6,_⟩=>⟨fun h6 H8 _ hI=> ?_,fun h6=>⟨by omega,fun H10 _ hI=>good (t:=opT (s.take 2)) (n:=2) ?_ hI.pres⟩⟩⟩⟩,fun h2=>⟨by omega,fun h3=>⟨by omega,fun _=>⟨_,c237 H2,Ret.use ⟨_,rfl⟩,fun b6 H7 ⟨e6,_⟩=>⟨fun h6 H8 _ hI=> ?_,fun h6=>⟨by omega,fun H10 _ hI=>good (t:=opT (s.take 2)) (n:=2) ?_ hI.pres⟩⟩⟩⟩,fun h3=>⟨by omega,fun _=>⟨_,c237 H2,Ret.use ⟨_,rfl⟩,fun b6 H7 ⟨e6,_⟩=>⟨fun h6 H8 _ hI=>bad ?_ hI.pres,fun h6=>⟨by omega,fun H10 _ hI=>good (t:=opT [c]) (n:=1) ?_ hI.pres⟩⟩⟩⟩⟩⟩⟩
  ·have ht:twoB s=true:=by rw [htd,h1];rfl
   rw [LV.bool.inj e6,htw ht] at h6;cases h6
  ·have ht:twoB s=true:=by rw [htd,h1];rfl
   rw [hop,ht];rfl
  ·have ht:twoB s=true:=by rw [htd,h2,Bool.true_or,Bool.or_true]
   rw [LV.bool.inj e6,htw ht] at h6;cases h6
  ·have ht:twoB s=true:=by rw [htd,h2,Bool.true_or,Bool.or_true]
   rw [hop,ht];rfl
  ·have ht:twoB s=true:=by rw [htd,h3,Bool.or_true,Bool.or_true]
   rw [LV.bool.inj e6,htw ht] at h6;cases h6
  ·have ht:twoB s=true:=by rw [htd,h3,Bool.or_true,Bool.or_true]
   rw [hop,ht];rfl
  ·have ht:twoB s=false:=by rw [htd,h1,h2,h3];rfl
   have hb:(cutF c OPS).isSome=false:=by rw [<-LV.bool.inj e6];simpa using h6
   rw [hop,ht,hb];rfl
  ·have ht:twoB s=false:=by rw [htd,h1,h2,h3];rfl
   have hb:(cutF c OPS).isSome=true:=by rw [<-LV.bool.inj e6];simpa using h6
   rw [hop,ht,hb];rfl
 case short=>
  have hl1:s.length<=1:=by simp at hl;omega
  have ht:twoB s=false:=by rw [htd,hsh _ rfl hl1,hsh _ rfl hl1,hsh _ rfl hl1];rfl
  refine ⟨by omega,fun _=>⟨_,c237 H2,Ret.use ⟨_,rfl⟩,fun b6 H7 ⟨e6,_⟩=>⟨fun h6 H8 _ hI=>bad ?_ hI.pres,fun h6=>⟨by omega,fun H10 _ hI=>good (t:=opT [c]) (n:=1) ?_ hI.pres⟩⟩⟩⟩
  ·have hb:(cutF c OPS).isSome=false:=by rw [<-LV.bool.inj e6];simpa using h6
   rw [hop,ht,hb];rfl
  ·have hb:(cutF c OPS).isSome=true:=by rw [<-LV.bool.inj e6];simpa using h6
   rw [hop,ht,hb];rfl
def numT(v:Int):TokC:=⟨1,v,[],[],[],0,0,false,false⟩
def parseO(s:List UInt8):Option Int:=if parseOk s&&numF (parseV s) then some (parseV s) else none
def numTF(s:List UInt8):Option (TokC×Nat):=(parseO (s.take (spanF numB s))).map fun v=>(numT v,spanF numB s)
theorem parse_inv{s:List UInt8}{n:Int}{b:Bool}(h:LV.tuple [.int .i64 n,.bool b]=parseL s):parseO s=if b then some n else none:=by
 unfold parseL toldL at h;unfold parseO;cases h1:parseOk s with
 |false=>
  rw [h1] at h;simp at h;rw [h.2];rfl
 |true=>
  rw [h1,if_pos rfl] at h;cases h2:numF (parseV s) with
  |false=>
   rw [h2] at h;simp at h;rw [h.2];rfl
  |true=>
   rw [h2] at h;simp at h;rw [h.2,h.1];rfl
theorem span_head(s:List UInt8):(s.take (spanF numB s)).head?≠some 45:=by
 cases s with
 |nil=>simp [spanF]
 |cons b s=>
  unfold spanF;split
  ·rename_i h;simp;intro e;subst e;revert h;decide
  ·simp
theorem s147(s:List UInt8)(hs:s.length<=1000)(H:LHeap):CallL cfg 147 [.str s] H (Ret (tokL (numTF s)) H):=by
 have hle:=spanF_le numB s;refine e147t _ s H fun i1 H2 _ _ _=>⟨_,s228a s H2,Ret.use ⟨_,rfl⟩,fun n4 H5 ⟨e4,_⟩=> ?_⟩;cases e4;rw [sub_take];refine ⟨by omega,fun _=>⟨_,s230 _ (by rw [List.length_take];omega) (span_head s) H5,Ret.use (parseL_sh _),fun n8 b9 H10 ⟨e10,_⟩=>⟨fun h H11 _ hI=>⟨?_,hI.pres⟩,fun h H11 _ hI=>⟨?_,hI.pres⟩⟩⟩⟩
 ·have hb:b9=false:=by simpa using h
  unfold numTF;rw [parse_inv e10,hb];rfl
 ·have hb:b9=true:=by simpa using h
  unfold numTF;rw [parse_inv e10,hb];rfl
def badT(n:Nat):TokC:=⟨6,(n:Int),[],[],[],0,0,false,false⟩
def NAMES:List (List UInt8):=[[35,68,73,86,47,48,33],[35,86,65,76,85,69,33],[35,82,69,70,33],[35,78,65,77,69,63],[35,78,85,77,33],[35,78,47,65],[35,67,89,67,76,69,33],[35,76,73,78,75,33]]
def fltF:List (List UInt8)->Nat->List UInt8->Option (TokC×Nat)
 |[],_,_=>none
 |x::l,n,s=>if s.take x.length==x then some (badT n,x.length) else fltF l (n+1) s
def faultF(s:List UInt8):Option (TokC×Nat):=fltF NAMES 1 s
def NAG:LV:=.agg [.str [],.str [35,68,73,86,47,48,33],.str [35,86,65,76,85,69,33],.str [35,82,69,70,33],.str [35,78,65,77,69,63],.str [35,78,85,77,33],.str [35,78,47,65],.str [35,67,89,67,76,69,33],.str [35,76,73,78,75,33]]
theorem nag_0:indexL cfg.P 214 NAG (.int .i64 ((0:Nat):Int))=some (.str []):=by kernel_rfl
theorem nag_1:indexL cfg.P 214 NAG (.int .i64 ((1:Nat):Int))=some (.str [35,68,73,86,47,48,33]):=by kernel_rfl
theorem nag_2:indexL cfg.P 214 NAG (.int .i64 ((2:Nat):Int))=some (.str [35,86,65,76,85,69,33]):=by kernel_rfl
theorem nag_3:indexL cfg.P 214 NAG (.int .i64 ((3:Nat):Int))=some (.str [35,82,69,70,33]):=by kernel_rfl
theorem nag_4:indexL cfg.P 214 NAG (.int .i64 ((4:Nat):Int))=some (.str [35,78,65,77,69,63]):=by kernel_rfl
theorem nag_5:indexL cfg.P 214 NAG (.int .i64 ((5:Nat):Int))=some (.str [35,78,85,77,33]):=by kernel_rfl
theorem nag_6:indexL cfg.P 214 NAG (.int .i64 ((6:Nat):Int))=some (.str [35,78,47,65]):=by kernel_rfl
theorem nag_7:indexL cfg.P 214 NAG (.int .i64 ((7:Nat):Int))=some (.str [35,67,89,67,76,69,33]):=by kernel_rfl
theorem nag_8:indexL cfg.P 214 NAG (.int .i64 ((8:Nat):Int))=some (.str [35,76,73,78,75,33]):=by kernel_rfl
theorem nag_at(k:Nat)(x:List UInt8)(h:([]::NAMES)[k]? =some x):indexL cfg.P 214 NAG (.int .i64 (k:Int))=some (.str x):=by
 have:k<9:=by
  have:=(List.getElem?_eq_some_iff.1 h).1;simpa [NAMES] using this
 have hk:k=0\/k=1\/k=2\/k=3\/k=4\/k=5\/k=6\/k=7\/k=8:=by omega
 rcases hk with rfl |rfl |rfl |rfl |rfl |rfl |rfl |rfl |rfl
 ·rw [<-Option.some.inj h];exact nag_0
 ·rw [<-Option.some.inj h];exact nag_1
 ·rw [<-Option.some.inj h];exact nag_2
 ·rw [<-Option.some.inj h];exact nag_3
 ·rw [<-Option.some.inj h];exact nag_4
 ·rw [<-Option.some.inj h];exact nag_5
 ·rw [<-Option.some.inj h];exact nag_6
 ·rw [<-Option.some.inj h];exact nag_7
 ·rw [<-Option.some.inj h];exact nag_8
def ownW(v:ValC):LV:=
 if v.kind==0 then .iface 297 (.agg []) else if v.kind==1 then .iface 280 (.int .i64 v.n) else if v.kind==2 then .iface 281 (.str v.s) else if v.kind==3 then .iface 282 (.bool (v.n != 0)) else if v.kind==4 then .iface 283 (.int .i64 v.n) else .nilIface
theorem y260(v:ValC)(H:LHeap):CallL cfg 260 [v.lv] H (Ret (ownW v) H):=by
 refine e260t _ v H fun i1 H2 _ _=>⟨fun h0 hI=>⟨?_,hI.pres⟩,fun h0=>⟨fun h1 hI=>⟨?_,hI.pres⟩,fun h1=>⟨fun h2 hI=>⟨?_,hI.pres⟩,fun h2=>⟨fun h3 hI=>⟨?_,hI.pres⟩,fun h3=>⟨fun h4 hI=>⟨?_,hI.pres⟩,fun h4 hI=>⟨?_,hI.pres⟩⟩⟩⟩⟩⟩
 all_goals simp only [ownW, *,if_true,Bool.false_eq_true,if_false]
def badV(k:Nat):ValC:=⟨4,(k:Int),[]⟩
theorem s233(k:Nat)(hk:1<=k/\k<=8)(H:LHeap):CallL cfg 233 [.int .i64 (k:Int)] H (Ret (badV k).lv H):=
 e233t _ _ H fun i1 H2 _ _=>⟨fun h=>(by simp at h;omega),fun _=>⟨fun h=>(by simp at h;omega),fun _ H5 _ hI=>⟨rfl,hI.pres⟩⟩⟩
theorem s194b(k:Nat)(hk:1<=k/\k<=8)(x:List UInt8)(h:([]::NAMES)[k]? =some x)(H:LHeap):CallL cfg 194 [(badV k).lv] H (Ret (.str x) H):=by
 have c260:∀H,CallL cfg 260 [(badV k).lv] H (Ret (.iface 283 (.int .i64 (k:Int))) H):=fun H=>y260 (badV k) H;refine e194t _ (badV k) H fun i1 H2 _ _ _=>⟨_,c260 H2,Ret.use ⟨_,rfl⟩,fun y4 H5 ⟨e,_⟩=> ?_⟩;have:y4=(k:Int):=by cases e;rfl
 subst this;refine ⟨fun _=>⟨fun _ _=>⟨Ret NAG H5,e261 _ H5 fun i0 H1 _ _ H2 _ hI=>⟨rfl,hI.pres⟩,Ret.use ⟨_,_,_,_,_,_,_,_,_,rfl⟩,fun s7 s8 s9 s10 s11 s12 s13 s14 s15 H16 ⟨e16,_⟩=>⟨x,?_,fun hI=>⟨rfl,hI.pres⟩⟩⟩,fun h=>(by simp at h;omega)⟩,fun h=>(by simp at h;omega)⟩;rw [e16];exact nag_at k x h
theorem flt_cons{x:List UInt8}{l:List (List UInt8)}{n:Nat}{s:List UInt8}:fltF (x::l) n s=if s.take x.length==x then some (badT n,x.length) else fltF l (n+1) s:=rfl
theorem s149(s:List UInt8)(hs:s.length<=1000)(H:LHeap):CallL cfg 149 [.str s] H (Ret (tokL (faultF s)) H):=by
 have bad:∀{H':LHeap},faultF s=none->PresX [] H H'->Ret (tokL (faultF s)) H (.tuple [.agg [.int .i64 0,.int .i64 0,.str [],.str [],.str [],.int .i64 0,.int .i64 0,.bool false,.bool false],.int .i64 0]) H':=fun h p=>⟨by rw [h];rfl,p⟩;have good:∀{H':LHeap} {t:TokC} {n:Nat},faultF s=some (t,n)->PresX [] H H'->Ret (tokL (faultF s)) H (.tuple [.agg t.cs,.int .i64 (n:Int)]) H':=fun h p=>⟨by rw [h];rfl,p⟩;have F0:faultF s=fltF NAMES 1 s:=rfl;unfold NAMES at F0;refine e149t _ s H fun i1 H2 _ _ _=>⟨_,s233 1 (by omega) H2,Ret.use ⟨_,rfl⟩,fun x1 A1 ⟨e1,_⟩=> ?_⟩;dsimp only;rw [e1];refine fun _=>⟨_,s194b 1 (by omega) [35,68,73,86,47,48,33] rfl A1,Ret.use ⟨_,rfl⟩,fun s1 B1 ⟨f1,_⟩=> ?_⟩;cases f1;refine fun _=>⟨_,s232 s [35,68,73,86,47,48,33] B1,Ret.use ⟨_,rfl⟩,fun b1 K1 ⟨g1,_⟩=>⟨fun h1 _ _ hI=>good (t:=badT 1) ?_ hI.pres,fun h1=> ?_⟩⟩
 ·have:=LV.bool.inj g1;rw [F0,flt_cons,<-this,h1];rfl
 ·have G:=LV.bool.inj g1;rw [flt_cons,<-G,h1,if_neg (by simp)] at F0;refine fun _=>⟨_,s233 2 (by omega) K1,Ret.use ⟨_,rfl⟩,fun x2 A2 ⟨e2,_⟩=> ?_⟩;dsimp only;rw [e2];refine fun _=>⟨_,s194b 2 (by omega) [35,86,65,76,85,69,33] rfl A2,Ret.use ⟨_,rfl⟩,fun s2 B2 ⟨f2,_⟩=> ?_⟩;cases f2;refine fun _=>⟨_,s232 s [35,86,65,76,85,69,33] B2,Ret.use ⟨_,rfl⟩,fun b2 K2 ⟨g2,_⟩=>⟨fun h2 _ _ hI=>good (t:=badT 2) ?_ hI.pres,fun h2=> ?_⟩⟩
  ·have:=LV.bool.inj g2;rw [F0,flt_cons,<-this,h2];rfl
  ·have G:=LV.bool.inj g2;rw [flt_cons,<-G,h2,if_neg (by simp)] at F0;refine fun _=>⟨_,s233 3 (by omega) K2,Ret.use ⟨_,rfl⟩,fun x3 A3 ⟨e3,_⟩=> ?_⟩;dsimp only;rw [e3];refine fun _=>⟨_,s194b 3 (by omega) [35,82,69,70,33] rfl A3,Ret.use ⟨_,rfl⟩,fun s3 B3 ⟨f3,_⟩=> ?_⟩;cases f3;refine fun _=>⟨_,s232 s [35,82,69,70,33] B3,Ret.use ⟨_,rfl⟩,fun b3 K3 ⟨g3,_⟩=>⟨fun h3 _ _ hI=>good (t:=badT 3) ?_ hI.pres,fun h3=> ?_⟩⟩
   ·have:=LV.bool.inj g3;rw [F0,flt_cons,<-this,h3];rfl
   ·have G:=LV.bool.inj g3;rw [flt_cons,<-G,h3,if_neg (by simp)] at F0;refine fun _=>⟨_,s233 4 (by omega) K3,Ret.use ⟨_,rfl⟩,fun x4 A4 ⟨e4,_⟩=> ?_⟩;dsimp only;rw [e4];refine fun _=>⟨_,s194b 4 (by omega) [35,78,65,77,69,63] rfl A4,Ret.use ⟨_,rfl⟩,fun s4 B4 ⟨f4,_⟩=> ?_⟩;cases f4;refine fun _=>⟨_,s232 s [35,78,65,77,69,63] B4,Ret.use ⟨_,rfl⟩,fun b4 K4 ⟨g4,_⟩=>⟨fun h4 _ _ hI=>good (t:=badT 4) ?_ hI.pres,fun h4=> ?_⟩⟩
    ·have:=LV.bool.inj g4;rw [F0,flt_cons,<-this,h4];rfl
    ·have G:=LV.bool.inj g4;rw [flt_cons,<-G,h4,if_neg (by simp)] at F0;refine fun _=>⟨_,s233 5 (by omega) K4,Ret.use ⟨_,rfl⟩,fun x5 A5 ⟨e5,_⟩=> ?_⟩;dsimp only;rw [e5];refine fun _=>⟨_,s194b 5 (by omega) [35,78,85,77,33] rfl A5,Ret.use ⟨_,rfl⟩,fun s5 B5 ⟨f5,_⟩=> ?_⟩;cases f5;refine fun _=>⟨_,s232 s [35,78,85,77,33] B5,Ret.use ⟨_,rfl⟩,fun b5 K5 ⟨g5,_⟩=>⟨fun h5 _ _ hI=>good (t:=badT 5) ?_ hI.pres,fun h5=> ?_⟩⟩
     ·have:=LV.bool.inj g5;rw [F0,flt_cons,<-this,h5];rfl
     ·have G:=LV.bool.inj g5;rw [flt_cons,<-G,h5,if_neg (by simp)] at F0;refine fun _=>⟨_,s233 6 (by omega) K5,Ret.use ⟨_,rfl⟩,fun x6 A6 ⟨e6,_⟩=> ?_⟩;dsimp only;rw [e6];refine fun _=>⟨_,s194b 6 (by omega) [35,78,47,65] rfl A6,Ret.use ⟨_,rfl⟩,fun s6 B6 ⟨f6,_⟩=> ?_⟩;cases f6;refine fun _=>⟨_,s232 s [35,78,47,65] B6,Ret.use ⟨_,rfl⟩,fun b6 K6 ⟨g6,_⟩=>⟨fun h6 _ _ hI=>good (t:=badT 6) ?_ hI.pres,fun h6=> ?_⟩⟩
      ·have:=LV.bool.inj g6;rw [F0,flt_cons,<-this,h6];rfl
      ·have G:=LV.bool.inj g6;rw [flt_cons,<-G,h6,if_neg (by simp)] at F0;refine fun _=>⟨_,s233 7 (by omega) K6,Ret.use ⟨_,rfl⟩,fun x7 A7 ⟨e7,_⟩=> ?_⟩;dsimp only;rw [e7];refine fun _=>⟨_,s194b 7 (by omega) [35,67,89,67,76,69,33] rfl A7,Ret.use ⟨_,rfl⟩,fun s7 B7 ⟨f7,_⟩=> ?_⟩;cases f7;refine fun _=>⟨_,s232 s [35,67,89,67,76,69,33] B7,Ret.use ⟨_,rfl⟩,fun b7 K7 ⟨g7,_⟩=>⟨fun h7 _ _ hI=>good (t:=badT 7) ?_ hI.pres,fun h7=> ?_⟩⟩
       ·have:=LV.bool.inj g7;rw [F0,flt_cons,<-this,h7];rfl
       ·have G:=LV.bool.inj g7;rw [flt_cons,<-G,h7,if_neg (by simp)] at F0;refine fun _=>⟨_,s233 8 (by omega) K7,Ret.use ⟨_,rfl⟩,fun x8 A8 ⟨e8,_⟩=> ?_⟩;dsimp only;rw [e8];refine fun _=>⟨_,s194b 8 (by omega) [35,76,73,78,75,33] rfl A8,Ret.use ⟨_,rfl⟩,fun s8 B8 ⟨f8,_⟩=> ?_⟩;cases f8;refine fun _=>⟨_,s232 s [35,76,73,78,75,33] B8,Ret.use ⟨_,rfl⟩,fun b8 K8 ⟨g8,_⟩=>⟨fun h8 _ _ hI=>good (t:=badT 8) ?_ hI.pres,fun h8=> ?_⟩⟩
        ·have:=LV.bool.inj g8;rw [F0,flt_cons,<-this,h8];rfl
        ·have G:=LV.bool.inj g8;rw [flt_cons,<-G,h8,if_neg (by simp)] at F0;exact fun _ _ hI=>bad (by rw [F0];rfl) hI.pres
abbrev qT9_1:List LV:=[.bool false,.bool false,.bool false,.bool false,.bool false,.bool false,.bool false,.bool false,.bool false,.bool true,.bool false,.bool false,.bool false,.bool false,.bool false,.bool false,.bool false,.bool false,.bool false,.bool false,.bool false,.bool false,.bool false,.bool false,.bool false,.bool false,.bool false,.bool false,.bool false,.bool false,.bool false,.bool false,.bool true,.bool false,.bool false,.bool false,.bool false,.bool false,.bool false,.bool false,.bool false,.bool false,.bool false,.bool false,.bool false,.bool false,.bool false,.bool false,.bool false,.bool false,.bool false,.bool false,.bool false,.bool false,.bool false,.bool false,.bool false,.bool false,.bool false,.bool false,.bool false,.bool false,.bool false,.bool false,.bool false,.bool false,.bool false,.bool false,.bool false,.bool false,.bool false,.bool false,.bool false,.bool false,.bool false,.bool false,.bool false,.bool false,.bool false,.bool false,.bool false,.bool false,.bool false,.bool false,.bool false,.bool false,.bool false,.bool false,.bool false,.bool false,.bool false,.bool false,.bool false,.bool false,.bool false,.bool false,.bool false,.bool false,.bool false,.bool false,.bool false,.bool false,.bool false,.bool false,.bool false,.bool false,.bool false,.bool false,.bool false,.bool false,.bool false,.bool false,.bool false,.bool false,.bool false,.bool false,.bool false,.bool false,.bool false,.bool false,.bool false,.bool false,.bool false,.bool false,.bool false,.bool false,.bool false,.bool false,.bool false,.bool false,.bool false,.bool false,.bool false,.bool false,.bool false,.bool false,.bool false,.bool false,.bool false,.bool false,.bool false,.bool false,.bool false,.bool false,.bool false,.bool false,.bool false,.bool false,.bool false,.bool false,.bool false,.bool false,.bool false,.bool false,.bool false,.bool false,.bool false,.bool false,.bool false,.bool false,.bool false,.bool false,.bool false,.bool false,.bool false,.bool false,.bool false,.bool false,.bool false,.bool false,.bool false,.bool false,.bool false,.bool false,.bool false,.bool false,.bool false,.bool false,.bool false,.bool false,.bool false,.bool false,.bool false,.bool false,.bool false,.bool false,.bool false,.bool false,.bool false,.bool false,.bool false,.bool false,.bool false,.bool false,.bool false,.bool false,.bool false,.bool false,.bool false,.bool false,.bool false,.bool false,.bool false,.bool false,.bool false,.bool false,.bool false,.bool false,.bool false,.bool false,.bool false,.bool false,.bool false,.bool false,.bool false,.bool false,.bool false,.bool false,.bool false,.bool false,.bool false,.bool false,.bool false,.bool false,.bool false,.bool false,.bool false,.bool false,.bool false,.bool false,.bool false,.bool false,.bool false,.bool false,.bool false,.bool false,.bool false,.bool false,.bool false,.bool false,.bool false,.bool false,.bool false,.bool false,.bool false,.bool false,.bool false,.bool false,.bool false,.bool false,.bool false,.bool false,.bool false,.bool false,.bool false,.bool false]
theorem e73t(R:RR)(s:(List UInt8))(H:LHeap)
(h:Cd (s==[]) (R0 H [] H R (.str s)) (Inv [] H [] H->CL 143 [.str [32,9]] H (.cust Unit (fun (_:Unit)=>(.tuple [.agg ((List.replicate 9 (.bool false))++[.bool true]++List.replicate 22 (.bool false)++[.bool true]++List.replicate 223 (.bool false)),.bool true]:LV))) fun S0=>∀(y1:Unit) H2,S0 (.tuple [.agg (((((List.replicate 9 (.bool false))++[.bool true])++(List.replicate 22 (.bool false)))++[.bool true])++(List.replicate 223 (.bool false))),.bool true]) H2->NX H2 fun i3 H4=>PX [i3] H4 fun H5=>Inv [] H [Sk i3 qT9_1 207] H5->Kb 144 [.str s,.ptr (some (Lk i3 256 0))] H5 fun s7 H8=>R0 H [Sk i3 qT9_1 207] H8 R (.str s7))):
 CallL cfg 73 [.str s,.str [32,9]] H R:=call_wt0 (k:=(.go 10 (.cases 9 (.go 10 (.facts .ret)) (.go 24 (.facts (.call (.cust Unit (fun (_:Unit)=>(.tuple [.agg ((List.replicate 9 (.bool false))++[.bool true]++List.replicate 22 (.bool false)++[.bool true]++List.replicate 223 (.bool false)),.bool true]:LV))) (.go 3 (.boxP (.putP (.go 10 (.facts (.call .str (.go 2 (.facts .ret)))))))))))))) (by kernel_rfl) h
def oneF:List UInt8->Option (TokC×Nat)
 |[]=>none
 |c::t=>if digF (c.toNat:Int) then numTF (c::t) else if (c.toNat:Int)==34 then quotedF (c::t) else if (c.toNat:Int)==35 then faultF (c::t)
  else if (c.toNat:Int)==91||((c.toNat:Int)==36||letF (c.toNat:Int)) then namedF (c::t) else opF (c::t)
def L18a_0(d:Nat->LV)(a0:Option LAddr)(l1:Nat)(c2:Cap):List SV:=dl d 0 4++[.lv (.slice a0 l1 c2),.own 0 0]++dl d 6 51
def L18b_0(d:Nat->LV)(a0:Option LAddr)(l1:Nat)(c2:Cap):List SV:=dl d 0 4++[.lv (.slice a0 l1 c2),.own 0 0]++dl d 6 51
def L18c_0(d:Nat->LV)(a0:Option LAddr)(l1:Nat)(c2:Cap):List SV:=dl d 0 4++[.lv (.slice a0 l1 c2),.own 0 0]++dl d 6 51
def L18d_0(d:Nat->LV)(a0:Option LAddr)(l1:Nat)(c2:Cap):List SV:=dl d 0 4++[.lv (.slice a0 l1 c2),.own 0 0]++dl d 6 51
def L18e_0(d:Nat->LV)(a0:Option LAddr)(l1:Nat)(c2:Cap):List SV:=dl d 0 4++[.lv (.slice a0 l1 c2),.own 0 0]++dl d 6 51
abbrev qT5_1:List LV:=[I6 0,I6 0,.str [],.str [],.str [],I6 0,I6 0,.bool false,.bool false]
abbrev qT5_2(n18:Int)(y11:List UInt8):Prop:=0<=n18/\(n18<=(y11.length:Int)/\(y11.length:Int)<=(y11.length:Int))
abbrev qT5_3(a0:Option LAddr)(l1:Nat)(c2:Cap)(H21:LHeap):List LV:=[.slice a0 l1 c2,.slice (some (Lk (LHeap.next H21) 9 0)) 1 (.exact 1)]
abbrev qT5_4(cs:List LV)(H':LHeap)(i3:Nat):Prop:=List.length cs=2/\H'.get i3=some (Slot.obj ⟨i3,cs,121⟩)
theorem g18a_0(R:RR)(H0:LHeap)(d:Nat->LV)(a0:Option LAddr)(l1:Nat)(c2:Cap)(i3:Nat)(s4:List UInt8)(v5:LV)(H:LHeap)
(h:Inv [] H0 [Sk i3 [.str s4,v5] 121] H->Kb 73 [.str s4,.str [32,9]] H fun s7 H8=>PX [i3] H8 fun H9=>Cd (s7==[]) (R0 H0 [Sk i3 [.str s7,v5] 121] H9 R (.tuple [.slice a0 l1 c2,I6 0])) (Inv [] H0 [Sk i3 [.str s7,v5] 121] H9->∃S10,CallL cfg 74 [.ptr (some (Lk i3 2 0))] H9 S10/\((∀v H',S10 v H'->PresX [i3] H9 H'/\(hasSh (.tuple []) v/\(∃cs,hasSh (.cust (List UInt8) (fun (s:List UInt8)=>(.agg [.str s,.func (.func 147) [] []]:LV))) (.agg cs)/\ (qT5_4 cs H' i3))))/\(∀y11 H12,S10 (.tuple []) H12->H12.get i3=some (Slot.obj (Sk i3 [.str y11,.func (Fn.func 147) [] []] 121))->NX H12 fun i13 H14=>([.func (Fn.func 147) [] [],.str y11]:List LV)=[.func (Fn.func 147) [] [],.str y11]/\(Inv [] H0 [Sk i3 [.str y11,.func (Fn.func 147) [] []] 121,Sk i13 qT5_1 124] H14->Ke 147 [.str y11] H14 fun x17 n18 H19=>PX [i13] H19 fun H21=>Cd (n18==0) (R0 H0 [Sk i3 [.str y11,.func (Fn.func 147) [] []] 121,Sk i13 (TokC.cs x17) 124] H21 R (.tuple [.slice none 0 (.exact 0),I6 10])) (∀H23,H23=(LHeap.push H21 (LObj.cells (TokC.cs x17) 124 9 9 .none false true))->Inv [] H0 [Sk i3 [.str y11,.func (Fn.func 147) [] []] 121,Sk i13 (TokC.cs x17) 124] H23->∃Y a24 l25 c26 H27,(appendL cfg.P H23 [22,22] (qT5_3 a0 l1 c2 H21) =some ((.slice a24 l25 c26),H27)/\(PresX Y H23 H27/\(∀i∈Y,okId [] H0 [Sk i3 [.str y11,.func (Fn.func 147) [] []] 121,Sk i13 (TokC.cs x17) 124] i)))/\((qT5_2 n18 y11) /\(PX [i3] H27 fun H29=>∀d30,GoesT cfg 18 R [] H0 [Sk i3 [.str (subStr y11 n18 (y11.length:Int)),.func (Fn.func 147) [] []] 121] (L18a_0 d30 a24 l25 c26) (loopAt cfg 18 0) H29)))))))):
 GoesT cfg 18 R [] H0 [Sk i3 [.str s4,v5] 121] (L18a_0 d a0 l1 c2) (loopAt cfg 18 0) H:=seg_wt (k:=(.go 8 (.facts (.call .str (.go 2 (.putP (.go 10 (.cases 26 (.go 7 (.facts .ret)) (.go 5 (.facts (.callO 0 (.cust (List UInt8) (fun (s:List UInt8)=>(.agg [.str s,.func (.func 147) [] []]:LV))) (.tuple []) (.go 11 (.boxP (.check (.facts (.call (.tuple [.cust TokC TokC.lv,.int .i64]) (.go 3 (.check (.putP (.go 1 (.check (.go 7 (.cases 43 (.go 6 (.facts .ret)) (.go 6 (.row (.facts (.app (.go 9 (.op .str (.go 2 (.putP (.go 3 (.stop [4,5] 1))))))))))))))))))))))))))))))))) (by kernel_rfl) h
theorem e18a(R:RR)(s0:List UInt8)(H:LHeap)
(h:Dc ((s0.length:Int)>255) (R0 H [] H R (.tuple [.slice none 0 (.exact 0),I6 3])) (NX H fun i1 H2=>∀d3,GoesT cfg 18 R [] H [Sk i1 [.str s0,Go.Lm.LV.nilFunc] 121] (L18a_0 d3 none 0 (.exact 0)) (loopAt cfg 18 0) H2)):
 CallL cfg 18 [.str s0] H R:=call_wt0 (k:=(.go 12 (.cases 10 (.go 6 (.facts .ret)) (.go 10 (.boxP (.go 4 (.stop [4,5] 1))))))) (by kernel_rfl) h
theorem g18b_0(R:RR)(H0:LHeap)(d:Nat->LV)(a0:Option LAddr)(l1:Nat)(c2:Cap)(i3:Nat)(s4:List UInt8)(v5:LV)(H:LHeap)
(h:Inv [] H0 [Sk i3 [.str s4,v5] 121] H->Kb 73 [.str s4,.str [32,9]] H fun s7 H8=>PX [i3] H8 fun H9=>Cd (s7==[]) (R0 H0 [Sk i3 [.str s7,v5] 121] H9 R (.tuple [.slice a0 l1 c2,I6 0])) (Inv [] H0 [Sk i3 [.str s7,v5] 121] H9->∃S10,CallL cfg 74 [.ptr (some (Lk i3 2 0))] H9 S10/\((∀v H',S10 v H'->PresX [i3] H9 H'/\(hasSh (.tuple []) v/\(∃cs,hasSh (.cust (List UInt8) (fun (s:List UInt8)=>(.agg [.str s,.func (.func 148) [] []]:LV))) (.agg cs)/\ (qT5_4 cs H' i3))))/\(∀y11 H12,S10 (.tuple []) H12->H12.get i3=some (Slot.obj (Sk i3 [.str y11,.func (Fn.func 148) [] []] 121))->NX H12 fun i13 H14=>([.func (Fn.func 148) [] [],.str y11]:List LV)=[.func (Fn.func 148) [] [],.str y11]/\(Inv [] H0 [Sk i3 [.str y11,.func (Fn.func 148) [] []] 121,Sk i13 qT5_1 124] H14->Ke 148 [.str y11] H14 fun x17 n18 H19=>PX [i13] H19 fun H21=>Cd (n18==0) (R0 H0 [Sk i3 [.str y11,.func (Fn.func 148) [] []] 121,Sk i13 (TokC.cs x17) 124] H21 R (.tuple [.slice none 0 (.exact 0),I6 10])) (∀H23,H23=(LHeap.push H21 (LObj.cells (TokC.cs x17) 124 9 9 .none false true))->Inv [] H0 [Sk i3 [.str y11,.func (Fn.func 148) [] []] 121,Sk i13 (TokC.cs x17) 124] H23->∃Y a24 l25 c26 H27,(appendL cfg.P H23 [22,22] (qT5_3 a0 l1 c2 H21) =some ((.slice a24 l25 c26),H27)/\(PresX Y H23 H27/\(∀i∈Y,okId [] H0 [Sk i3 [.str y11,.func (Fn.func 148) [] []] 121,Sk i13 (TokC.cs x17) 124] i)))/\((qT5_2 n18 y11) /\(PX [i3] H27 fun H29=>∀d30,GoesT cfg 18 R [] H0 [Sk i3 [.str (subStr y11 n18 (y11.length:Int)),.func (Fn.func 148) [] []] 121] (L18b_0 d30 a24 l25 c26) (loopAt cfg 18 0) H29)))))))):
 GoesT cfg 18 R [] H0 [Sk i3 [.str s4,v5] 121] (L18b_0 d a0 l1 c2) (loopAt cfg 18 0) H:=seg_wt (k:=(.go 8 (.facts (.call .str (.go 2 (.putP (.go 10 (.cases 26 (.go 7 (.facts .ret)) (.go 5 (.facts (.callO 0 (.cust (List UInt8) (fun (s:List UInt8)=>(.agg [.str s,.func (.func 148) [] []]:LV))) (.tuple []) (.go 11 (.boxP (.check (.facts (.call (.tuple [.cust TokC TokC.lv,.int .i64]) (.go 3 (.check (.putP (.go 1 (.check (.go 7 (.cases 43 (.go 6 (.facts .ret)) (.go 6 (.row (.facts (.app (.go 9 (.op .str (.go 2 (.putP (.go 3 (.stop [4,5] 1))))))))))))))))))))))))))))))))) (by kernel_rfl) h
theorem g18c_0(R:RR)(H0:LHeap)(d:Nat->LV)(a0:Option LAddr)(l1:Nat)(c2:Cap)(i3:Nat)(s4:List UInt8)(v5:LV)(H:LHeap)
(h:Inv [] H0 [Sk i3 [.str s4,v5] 121] H->Kb 73 [.str s4,.str [32,9]] H fun s7 H8=>PX [i3] H8 fun H9=>Cd (s7==[]) (R0 H0 [Sk i3 [.str s7,v5] 121] H9 R (.tuple [.slice a0 l1 c2,I6 0])) (Inv [] H0 [Sk i3 [.str s7,v5] 121] H9->∃S10,CallL cfg 74 [.ptr (some (Lk i3 2 0))] H9 S10/\((∀v H',S10 v H'->PresX [i3] H9 H'/\(hasSh (.tuple []) v/\(∃cs,hasSh (.cust (List UInt8) (fun (s:List UInt8)=>(.agg [.str s,.func (.func 149) [] []]:LV))) (.agg cs)/\ (qT5_4 cs H' i3))))/\(∀y11 H12,S10 (.tuple []) H12->H12.get i3=some (Slot.obj (Sk i3 [.str y11,.func (Fn.func 149) [] []] 121))->NX H12 fun i13 H14=>([.func (Fn.func 149) [] [],.str y11]:List LV)=[.func (Fn.func 149) [] [],.str y11]/\(Inv [] H0 [Sk i3 [.str y11,.func (Fn.func 149) [] []] 121,Sk i13 qT5_1 124] H14->Ke 149 [.str y11] H14 fun x17 n18 H19=>PX [i13] H19 fun H21=>Cd (n18==0) (R0 H0 [Sk i3 [.str y11,.func (Fn.func 149) [] []] 121,Sk i13 (TokC.cs x17) 124] H21 R (.tuple [.slice none 0 (.exact 0),I6 10])) (∀H23,H23=(LHeap.push H21 (LObj.cells (TokC.cs x17) 124 9 9 .none false true))->Inv [] H0 [Sk i3 [.str y11,.func (Fn.func 149) [] []] 121,Sk i13 (TokC.cs x17) 124] H23->∃Y a24 l25 c26 H27,(appendL cfg.P H23 [22,22] (qT5_3 a0 l1 c2 H21) =some ((.slice a24 l25 c26),H27)/\(PresX Y H23 H27/\(∀i∈Y,okId [] H0 [Sk i3 [.str y11,.func (Fn.func 149) [] []] 121,Sk i13 (TokC.cs x17) 124] i)))/\((qT5_2 n18 y11) /\(PX [i3] H27 fun H29=>∀d30,GoesT cfg 18 R [] H0 [Sk i3 [.str (subStr y11 n18 (y11.length:Int)),.func (Fn.func 149) [] []] 121] (L18c_0 d30 a24 l25 c26) (loopAt cfg 18 0) H29)))))))):
 GoesT cfg 18 R [] H0 [Sk i3 [.str s4,v5] 121] (L18c_0 d a0 l1 c2) (loopAt cfg 18 0) H:=seg_wt (k:=(.go 8 (.facts (.call .str (.go 2 (.putP (.go 10 (.cases 26 (.go 7 (.facts .ret)) (.go 5 (.facts (.callO 0 (.cust (List UInt8) (fun (s:List UInt8)=>(.agg [.str s,.func (.func 149) [] []]:LV))) (.tuple []) (.go 11 (.boxP (.check (.facts (.call (.tuple [.cust TokC TokC.lv,.int .i64]) (.go 3 (.check (.putP (.go 1 (.check (.go 7 (.cases 43 (.go 6 (.facts .ret)) (.go 6 (.row (.facts (.app (.go 9 (.op .str (.go 2 (.putP (.go 3 (.stop [4,5] 1))))))))))))))))))))))))))))))))) (by kernel_rfl) h
theorem g18d_0(R:RR)(H0:LHeap)(d:Nat->LV)(a0:Option LAddr)(l1:Nat)(c2:Cap)(i3:Nat)(s4:List UInt8)(v5:LV)(H:LHeap)
(h:Inv [] H0 [Sk i3 [.str s4,v5] 121] H->Kb 73 [.str s4,.str [32,9]] H fun s7 H8=>PX [i3] H8 fun H9=>Cd (s7==[]) (R0 H0 [Sk i3 [.str s7,v5] 121] H9 R (.tuple [.slice a0 l1 c2,I6 0])) (Inv [] H0 [Sk i3 [.str s7,v5] 121] H9->∃S10,CallL cfg 74 [.ptr (some (Lk i3 2 0))] H9 S10/\((∀v H',S10 v H'->PresX [i3] H9 H'/\(hasSh (.tuple []) v/\(∃cs,hasSh (.cust (List UInt8) (fun (s:List UInt8)=>(.agg [.str s,.func (.func 151) [] []]:LV))) (.agg cs)/\ (qT5_4 cs H' i3))))/\(∀y11 H12,S10 (.tuple []) H12->H12.get i3=some (Slot.obj (Sk i3 [.str y11,.func (Fn.func 151) [] []] 121))->NX H12 fun i13 H14=>([.func (Fn.func 151) [] [],.str y11]:List LV)=[.func (Fn.func 151) [] [],.str y11]/\(Inv [] H0 [Sk i3 [.str y11,.func (Fn.func 151) [] []] 121,Sk i13 qT5_1 124] H14->Ke 151 [.str y11] H14 fun x17 n18 H19=>PX [i13] H19 fun H21=>Cd (n18==0) (R0 H0 [Sk i3 [.str y11,.func (Fn.func 151) [] []] 121,Sk i13 (TokC.cs x17) 124] H21 R (.tuple [.slice none 0 (.exact 0),I6 10])) (∀H23,H23=(LHeap.push H21 (LObj.cells (TokC.cs x17) 124 9 9 .none false true))->Inv [] H0 [Sk i3 [.str y11,.func (Fn.func 151) [] []] 121,Sk i13 (TokC.cs x17) 124] H23->∃Y a24 l25 c26 H27,(appendL cfg.P H23 [22,22] (qT5_3 a0 l1 c2 H21) =some ((.slice a24 l25 c26),H27)/\(PresX Y H23 H27/\(∀i∈Y,okId [] H0 [Sk i3 [.str y11,.func (Fn.func 151) [] []] 121,Sk i13 (TokC.cs x17) 124] i)))/\((qT5_2 n18 y11) /\(PX [i3] H27 fun H29=>∀d30,GoesT cfg 18 R [] H0 [Sk i3 [.str (subStr y11 n18 (y11.length:Int)),.func (Fn.func 151) [] []] 121] (L18d_0 d30 a24 l25 c26) (loopAt cfg 18 0) H29)))))))):
 GoesT cfg 18 R [] H0 [Sk i3 [.str s4,v5] 121] (L18d_0 d a0 l1 c2) (loopAt cfg 18 0) H:=seg_wt (k:=(.go 8 (.facts (.call .str (.go 2 (.putP (.go 10 (.cases 26 (.go 7 (.facts .ret)) (.go 5 (.facts (.callO 0 (.cust (List UInt8) (fun (s:List UInt8)=>(.agg [.str s,.func (.func 151) [] []]:LV))) (.tuple []) (.go 11 (.boxP (.check (.facts (.call (.tuple [.cust TokC TokC.lv,.int .i64]) (.go 3 (.check (.putP (.go 1 (.check (.go 7 (.cases 43 (.go 6 (.facts .ret)) (.go 6 (.row (.facts (.app (.go 9 (.op .str (.go 2 (.putP (.go 3 (.stop [4,5] 1))))))))))))))))))))))))))))))))) (by kernel_rfl) h
theorem g18e_0(R:RR)(H0:LHeap)(d:Nat->LV)(a0:Option LAddr)(l1:Nat)(c2:Cap)(i3:Nat)(s4:List UInt8)(v5:LV)(H:LHeap)
(h:Inv [] H0 [Sk i3 [.str s4,v5] 121] H->Kb 73 [.str s4,.str [32,9]] H fun s7 H8=>PX [i3] H8 fun H9=>Cd (s7==[]) (R0 H0 [Sk i3 [.str s7,v5] 121] H9 R (.tuple [.slice a0 l1 c2,I6 0])) (Inv [] H0 [Sk i3 [.str s7,v5] 121] H9->∃S10,CallL cfg 74 [.ptr (some (Lk i3 2 0))] H9 S10/\((∀v H',S10 v H'->PresX [i3] H9 H'/\(hasSh (.tuple []) v/\(∃cs,hasSh (.cust (List UInt8) (fun (s:List UInt8)=>(.agg [.str s,.func (.func 152) [] []]:LV))) (.agg cs)/\ (qT5_4 cs H' i3))))/\(∀y11 H12,S10 (.tuple []) H12->H12.get i3=some (Slot.obj (Sk i3 [.str y11,.func (Fn.func 152) [] []] 121))->NX H12 fun i13 H14=>([.func (Fn.func 152) [] [],.str y11]:List LV)=[.func (Fn.func 152) [] [],.str y11]/\(Inv [] H0 [Sk i3 [.str y11,.func (Fn.func 152) [] []] 121,Sk i13 qT5_1 124] H14->Ke 152 [.str y11] H14 fun x17 n18 H19=>PX [i13] H19 fun H21=>Cd (n18==0) (R0 H0 [Sk i3 [.str y11,.func (Fn.func 152) [] []] 121,Sk i13 (TokC.cs x17) 124] H21 R (.tuple [.slice none 0 (.exact 0),I6 10])) (∀H23,H23=(LHeap.push H21 (LObj.cells (TokC.cs x17) 124 9 9 .none false true))->Inv [] H0 [Sk i3 [.str y11,.func (Fn.func 152) [] []] 121,Sk i13 (TokC.cs x17) 124] H23->∃Y a24 l25 c26 H27,(appendL cfg.P H23 [22,22] (qT5_3 a0 l1 c2 H21) =some ((.slice a24 l25 c26),H27)/\(PresX Y H23 H27/\(∀i∈Y,okId [] H0 [Sk i3 [.str y11,.func (Fn.func 152) [] []] 121,Sk i13 (TokC.cs x17) 124] i)))/\((qT5_2 n18 y11) /\(PX [i3] H27 fun H29=>∀d30,GoesT cfg 18 R [] H0 [Sk i3 [.str (subStr y11 n18 (y11.length:Int)),.func (Fn.func 152) [] []] 121] (L18e_0 d30 a24 l25 c26) (loopAt cfg 18 0) H29)))))))):
 GoesT cfg 18 R [] H0 [Sk i3 [.str s4,v5] 121] (L18e_0 d a0 l1 c2) (loopAt cfg 18 0) H:=seg_wt (k:=(.go 8 (.facts (.call .str (.go 2 (.putP (.go 10 (.cases 26 (.go 7 (.facts .ret)) (.go 5 (.facts (.callO 0 (.cust (List UInt8) (fun (s:List UInt8)=>(.agg [.str s,.func (.func 152) [] []]:LV))) (.tuple []) (.go 11 (.boxP (.check (.facts (.call (.tuple [.cust TokC TokC.lv,.int .i64]) (.go 3 (.check (.putP (.go 1 (.check (.go 7 (.cases 43 (.go 6 (.facts .ret)) (.go 6 (.row (.facts (.app (.go 9 (.op .str (.go 2 (.putP (.go 3 (.stop [4,5] 1))))))))))))))))))))))))))))))))) (by kernel_rfl) h
def blankB(b:UInt8):Bool:=(b.toNat:Int)==32||(b.toNat:Int)==9
def dropB:List UInt8->List UInt8
 |[]=>[]
 |b::s=>if blankB b then dropB s else b::s
theorem dropB_le:∀s,(dropB s).length<=s.length
 |[]=>Nat.le_refl _
 |b::s=>by
  unfold dropB;split
  ·have:=dropB_le s;simp;omega
  ·exact Nat.le_refl _
theorem dropB_head:∀{s:List UInt8} {c:UInt8} {t:List UInt8},dropB s=c::t->blankB c=false
 |[],c,t,h=>by cases h
 |b::s,c,t,h=>by
  unfold dropB at h;split at h
  ·exact dropB_head h
  ·rename_i hb;cases h;simpa using hb
def asetB:List Bool:=List.replicate 9 false++[true]++List.replicate 22 false++[true]++List.replicate 223 false
def ASET:List LV:=asetB.map LV.bool
theorem aset_at(b:UInt8):nth ASET b.toNat=some (.bool (blankB b)):=by
 have key:∀n:Fin 256,asetB[n.val]? =some (((n.val:Nat):Int)==32||((n.val:Nat):Int)==9):=by decide +kernel
 rw [nth_eq];unfold ASET;rw [List.getElem?_map,key ⟨b.toNat,u8_lt256 b⟩];rfl
theorem aset_len:ASET.length=256:=by unfold ASET;rw [List.length_map];decide +kernel
theorem s143(H:LHeap):CallL cfg 143 [.str [32,9]] H (Ret (.tuple [.agg ASET,.bool true]) H):=
 e143t _ () H fun i0 H1 _ _ H2 _ H3 _ H4 _ hI=>⟨rfl,hI.pres⟩
theorem s225(i:Nat)(b:UInt8)(H:LHeap)(hg:H.get i=some (Slot.obj ⟨i,ASET,207⟩)):CallL cfg 225 [.ptr (some ⟨i,256,0⟩),.int .u8 (b.toNat:Int)] H (Ret (.bool (blankB b)) H):=by
 have h256:=u8_lt256 b;refine e225t _ (some ⟨i,256,0⟩) b.toNat H ⟨rfl,⟨by omega,by omega,rfl⟩,fun _=>⟨blankB b,?_,fun hI=>⟨rfl,hI.pres⟩⟩⟩;unfold loadT;rw [show isAggT cfg.P 4=some false by kernel_rfl];show load1 H ⟨i,256,0+(b.toNat:Int).toNat*1⟩=_;unfold load1;simp only [hg,Slot.obj,aset_len,Int.toNat_natCast,Nat.mul_one,Nat.zero_add];rw [if_pos (by simp only [Bool.and_eq_true,Nat.ble_eq];omega)];exact aset_at b
theorem loop144(i:Nat)(H0:LHeap)(r:LV):∀(s:List UInt8) (d:Nat->LV) (H:LHeap),i<H.next->H.get i=some (Slot.obj ⟨i,ASET,207⟩)->r=.str (dropB s)->
  GoesT cfg 144 (Ret r H0) [] H0 [] (L144t_0 d s (some ⟨i,256,0⟩)) (loopAt cfg 144 0) H
 |[],d,H,hi,hg,hr=>by
  intro hin hI;exact g144t_0 _ H0 d [] _ H ⟨fun h=>(by simp at h),fun _ hI=>⟨by rw [hr];rfl,hI.pres⟩⟩ hin hI
 |b::s,d,H,hi,hg,hr=>by
  intro hin hI;have hb:byteAt (b::s) 0=(b.toNat:Int):=byteAt_app [] b s;have c225:CallL cfg 225 [.ptr (some ⟨i,256,0⟩),.int .u8 (byteAt (b::s) 0)] H (Ret (.bool (blankB b)) H):=by rw [hb];exact s225 i b H hg
  refine g144t_0 _ H0 d (b::s) _ H ⟨fun _=>⟨⟨by omega,by simp⟩,fun _=>⟨_,c225,Ret.use ⟨_,rfl⟩,fun b4 H5 ⟨e4,p5⟩=>⟨fun h4 hI=>⟨?_,hI.pres⟩,fun h4=>⟨⟨by omega,by simp;omega,by omega⟩,fun d7=> ?_⟩⟩⟩⟩,fun h=>(by simp at h)⟩ hin hI
  ·cases e4;have:blankB b=false:=by simpa using h4
   rw [hr];unfold dropB;rw [this];rfl
  ·cases e4;have:blankB b=true:=by simpa using h4
   rw [sub_drop1];exact loop144 i H0 r s d7 H5 (Nat.lt_of_lt_of_le hi p5.next) (by rw [(p5.keep i hi (by simp)).get];exact hg) (by rw [hr];unfold dropB;rw [this,if_pos rfl];cases s<;>rfl)
theorem s73(s:List UInt8)(H:LHeap):CallL cfg 73 [.str s,.str [32,9]] H (Ret (.str (dropB s)) H):=by
 refine e73t _ s H ⟨fun h hI=>⟨by rw [eq_of_beq h];rfl,hI.pres⟩,fun h _=>⟨_,s143 H,Ret.use ⟨(),rfl⟩,fun y1 H2 _ i3 H4 _ _ H5 _ hI=> ?_⟩⟩;have hs:=hI.slot 0 _ rfl;exact ⟨Ret (.str (dropB s)) H5,e144t _ s _ H5 fun d=>loop144 i3 H5 _ s d H5 hs.1 hs.2.1 rfl,Ret.use ⟨_,rfl⟩,fun s7 H8 ⟨e,_⟩ hI=>⟨e,hI.pres⟩⟩
def stR(n:Int):Nat:=if digF n then 147 else if n==34 then 148 else if n==35 then 149 else if letF n||(n==91||n==36) then 151 else 152
def stN(c:UInt8):Nat:=stR (c.toNat:Int)
theorem stR_high{n:Int}(h:128<=n):stR n=152:=by
 have h1:digF n=false:=by unfold digF;rw [decide_eq_false (show ¬n<=57 by omega),Bool.and_false]
 have h2:letF n=false:=by unfold letF;rw [decide_eq_false (show ¬n<=122 by omega),decide_eq_false (show ¬n<=90 by omega)];simp
 have h3:(n==34)=false:=by rw [beq_eq_false_iff_ne];omega
 have h4:(n==35)=false:=by rw [beq_eq_false_iff_ne];omega
 have h5:(n==91)=false:=by rw [beq_eq_false_iff_ne];omega
 have h6:(n==36)=false:=by rw [beq_eq_false_iff_ne];omega
 unfold stR;rw [h1,h2,h3,h4,h5,h6];rfl
theorem stR_dec(b:UInt8)(l:List UInt8):stR (((decodeL (b::l)).1:Nat):Int)=stN b:=by
 unfold stN;by_cases hb:b.toNat<128
 ·rw [decL_ascii b l hb]
 ·have:=decL_high b l (by omega);rw [stR_high (by omega),stR_high (by omega)]
def StS(i:Nat)(s:List UInt8)(f:Nat)(H:LHeap):LV->LHeap->Prop:=fun v H'=>PresX [i] H H'/\v=.tuple []/\H'.get i=some (Slot.obj ⟨i,[.str s,.func (.func f) [] []],121⟩)
theorem s74(i:Nat)(c:UInt8)(t:List UInt8)(v:LV)(H:LHeap)(hi:i<H.next)(hg:H.get i=some (Slot.obj ⟨i,[.str (c::t),v],121⟩)):CallL cfg 74 [.ptr (some ⟨i,2,0⟩)] H (StS i (c::t) (stN c) H):=by
 obtain ⟨h1,h2⟩:=range_new (c::t) H;refine e74t _ (c::t) v i H (inv_box hi hg (by simp)) fun _=>⟨some ⟨H.next,0,0⟩,[],H.push (.stringIter (c::t) 0),⟨?_,.push _ _ _,fun j hj=>by cases hj⟩,fun d2=> ?_⟩
 ·show (match rangeL cfg.P H 9 (.str (c::t)) with |some (x,H')=>some [(LNext.value x,H')] |none=>none)=_;rw [h1]
 ·obtain ⟨q,H',eq,hn,pq,hit'⟩:=next_some h2 (show (c::t).drop 0=c::t from rfl);cases eq;have st:=stR_dec c t;generalize (((decodeL (c::t)).1:Nat):Int)=n at hn st;intro hin hI;refine g74t_0 _ H d2 _ i (c::t) v _ (.inl fun _=>⟨(0,n),[H.next],H',⟨?_,pq,fun j hj=> ?_⟩,fun _=>⟨_,s146 n H',Ret.use ⟨_,rfl⟩,fun b7 H8 ⟨e7,_⟩=>⟨fun h7 H9 _ hI=>⟨hI.pres,rfl,?_⟩,fun h7=>⟨fun h34 H10 _ hI=>⟨hI.pres,rfl,?_⟩,fun h34=>⟨fun h35 H11 _ hI=>⟨hI.pres,rfl,?_⟩,fun h35 _=>⟨_,s150 n H8,Ret.use ⟨_,rfl⟩,fun b13 H14 ⟨e13,_⟩=>⟨fun h13 H15 _ hI=>⟨hI.pres,rfl,?_⟩,fun h13=>⟨fun h91 H16 _ hI=>⟨hI.pres,rfl,?_⟩,fun h91=>⟨fun h36 H17 _ hI=>⟨hI.pres,rfl,?_⟩,fun h36 H18 _ hI=>⟨hI.pres,rfl,?_⟩⟩⟩⟩⟩⟩⟩⟩⟩⟩) hin hI
  ·show (match nextL (H.push (.stringIter (c::t) 0)) (.ptr (some ⟨H.next,0,0⟩)) true with |some l=>some (l.map fun ((x,H'):LV×LHeap)=>(LNext.value x,H')) |none=>none)=_;rw [hn];rfl
  ·rw [List.mem_singleton.1 hj];exact okId_box (.inr (Nat.le_refl _)) (fun e=>Nat.lt_irrefl _ (by rw [<-e] at hi;exact hi))
  all_goals
   rw [<-st];have hs:=(hI.slot 0 _ rfl).2.1;unfold stR
   (try cases e7)
   (try cases e13)
   simp only [h7,if_true,if_false,Bool.false_eq_true]
   (try simp only [h34,if_true,if_false,Bool.false_eq_true])
   (try simp only [h35,if_true,if_false,Bool.false_eq_true])
   (try simp only [h13,if_true,if_false,Bool.false_eq_true,Bool.true_or,Bool.false_or])
   (try simp only [h91,if_true,if_false,Bool.false_eq_true,Bool.true_or,Bool.false_or])
   (try simp only [h36,if_true,if_false,Bool.false_eq_true,Bool.true_or,Bool.false_or])
   exact hs
theorem st_call(c:UInt8)(t:List UInt8)(hs:(c::t).length<=1000)(H:LHeap):CallL cfg (stN c) [.str (c::t)] H (Ret (tokL (oneF (c::t))) H):=by
 have h1:oneF (c::t)=if digF (c.toNat:Int) then numTF (c::t) else if (c.toNat:Int)==34 then quotedF (c::t) else if (c.toNat:Int)==35 then faultF (c::t)
  else if (c.toNat:Int)==91||((c.toNat:Int)==36||letF (c.toNat:Int)) then namedF (c::t) else opF (c::t):=rfl
 have h2:stN c=if digF (c.toNat:Int) then 147 else if (c.toNat:Int)==34 then 148 else if (c.toNat:Int)==35 then 149 else if letF (c.toNat:Int)||((c.toNat:Int)==91||(c.toNat:Int)==36) then 151 else 152:=rfl
 rw [h1,h2];cases digF (c.toNat:Int) with
 |true=>exact s147 _ hs H
 |false=>cases ((c.toNat:Int)==34) with
  |true=>exact s148 c t hs H
  |false=>cases ((c.toNat:Int)==35) with
   |true=>exact s149 _ hs H
   |false=>cases letF (c.toNat:Int)<;>cases ((c.toNat:Int)==91)<;>cases ((c.toNat:Int)==36)<;>first |exact s151 c t hs H |exact s152 c t hs H
def cellsT:List TokC->List LV
 |[]=>[]
 |x::l=>x.cs++cellsT l
theorem cellsT_app:∀(l m:List TokC),cellsT (l++m)=cellsT l++cellsT m
 |[],m=>rfl
 |x::l,m=>by simp only [List.cons_append,cellsT,cellsT_app l m,List.append_assoc]
theorem tokc_len(x:TokC):x.cs.length=9:=rfl
theorem cellsT_drop:∀(l:List TokC) (i:Nat) (x:TokC),l[i]? =some x->((cellsT l).drop (i*9)).take 9=x.cs
 |[],i,x,h=>by simp at h
 |y::l,0,x,h=>by
  cases h;rw [Nat.zero_mul,List.drop_zero,cellsT,List.take_append_of_le_length (by rw [tokc_len];exact Nat.le_refl _),List.take_of_length_le (by rw [tokc_len];exact Nat.le_refl _)]
 |y::l,i+1,x,h=>by
  rw [cellsT,show (i+1)*9=y.cs.length+i*9 by rw [tokc_len];omega,<-List.drop_drop,List.drop_left];exact cellsT_drop l i x (by simpa using h)
def lexF(s:List UInt8):Option (List TokC):=
 match s with
 |[]=>some []
 |c::t=>if blankB c then lexF t else match oneF (c::t) with
  |none=>none
  |some (x,k)=>if h:k=0 then none else (lexF ((c::t).drop k)).map (x::·)
termination_by s.length
decreasing_by
 ·simp
 ·simp;omega
theorem lexF_nil:lexF []=some []:=by unfold lexF;rfl
theorem lexF_blank{c:UInt8}{t:List UInt8}(h:blankB c=true):lexF (c::t)=lexF t:=by
 conv=>lhs;unfold lexF
 simp only [h,if_true]
theorem lexF_none{c:UInt8}{t:List UInt8}(h:blankB c=false)(ho:oneF (c::t)=none):lexF (c::t)=none:=by
 unfold lexF;simp only [h,ho,Bool.false_eq_true,if_false]
theorem lexF_zero{c:UInt8}{t:List UInt8}{x:TokC}(h:blankB c=false)(ho:oneF (c::t)=some (x,0)):lexF (c::t)=none:=by
 unfold lexF;simp only [h,ho,Bool.false_eq_true,if_false];rfl
theorem lexF_some{c:UInt8}{t:List UInt8}{x:TokC}{k:Nat}(h:blankB c=false)(ho:oneF (c::t)=some (x,k))(hk:k≠0):lexF (c::t)=(lexF ((c::t).drop k)).map (x::·):=by
 conv=>lhs;unfold lexF
 simp only [h,ho,Bool.false_eq_true,if_false];rw [dif_neg hk]
theorem lexF_drop:∀s:List UInt8,lexF s=lexF (dropB s)
 |[]=>rfl
 |c::t=>by
  unfold dropB;split
  ·rename_i h;rw [lexF_blank h];exact lexF_drop t
  ·rfl
def resO(acc:List TokC):Option (List TokC)->List TokC×Int
 |some l=>(acc++l,0)
 |none=>([],10)
def lexO(s:List UInt8):List TokC×Int:=if s.length>255 then ([],3) else resO [] (lexF s)
theorem resO_cons(acc:List TokC)(x:TokC)(o:Option (List TokC)):resO acc (o.map (x::·))=resO (acc++[x]) o:=by
 cases o with
 |none=>rfl
 |some l=>simp [resO]
def LexS(ty:TypeId)(o:List TokC×Int)(H0:LHeap):LV->LHeap->Prop:=fun w H'=>PresX [] H0 H'/\∃a q,w=.tuple [.slice a o.1.length q,.int .i64 o.2]/\RowAt H' ty 9 a o.1.length q (cellsT o.1)
theorem qF_le:∀(s:List UInt8) (r:List UInt8×Nat),qF s=some r->r.2<=s.length
 |[],r,h=>by cases h
 |[b],r,h=>by
  unfold qF at h;split at h
  ·cases h;simp
  ·cases h
 |b::c::s,r,h=>by
  rw [qF] at h;split at h
  ·split at h
   ·cases hq:qF s with
    |none=>rw [hq] at h;cases h
    |some x=>
     rw [hq] at h;cases h;have:=qF_le s x hq;simp;omega
   ·cases h;simp
  ·cases hq:qF (c::s) with
   |none=>rw [hq] at h;cases h
   |some x=>
    rw [hq] at h;cases h;have:=qF_le (c::s) x hq;simp at this |-;omega
theorem take_le{s x:List UInt8}(h:(s.take x.length==x)=true):x.length<=s.length:=by
 have:=congrArg List.length (eq_of_beq h);rw [List.length_take] at this;omega
theorem flt_le:∀(l:List (List UInt8)) (n:Nat) (s:List UInt8) (r:TokC×Nat),fltF l n s=some r->r.2<=s.length
 |[],n,s,r,h=>by cases h
 |x::l,n,s,r,h=>by
  rw [flt_cons] at h;split at h
  ·rename_i hx;cases h;exact take_le hx
  ·exact flt_le l (n+1) s r h
theorem word_le{b w:List UInt8}{n:Nat}{r:TokC×Nat}(h:wordF b w n=some r):r.2=n:=by
 unfold wordF at h;split at h
 ·cases h;rfl
 ·split at h
  ·cases h;rfl
  ·cases h
theorem end_le{b:List UInt8}{k:Nat}{s:List UInt8}{r:TokC×Nat}(hk:k<=s.length)(h:endF b k s=some r):r.2<=s.length:=by
 unfold endF at h;split at h
 ·rename_i hb;cases hr:refTF (s.take (endM k s)) with
  |none=>rw [hr] at h;cases h
  |some x=>rw [hr] at h;cases h;exact (endM_le hk hb).2
 ·rw [word_le h];exact (endN_le hk).2
theorem named_le{c:UInt8}{t:List UInt8}{r:TokC×Nat}(h:namedF (c::t)=some r):r.2<=(c::t).length:=by
 have hnf:namedF (c::t)=if c==91 then (match cutF 93 t with
  |some (b,_)=>if nameF b then endF b (b.length+2) (c::t) else none
  |none=>none) else endF [] 0 (c::t):=rfl
 rw [hnf] at h;split at h
 ·cases hc:cutF 93 t with
  |none=>rw [hc] at h;cases h
  |some x=>
   obtain ⟨b,m⟩:=x;rw [hc] at h;simp only at h;split at h
   ·have:=cutF_len hc;exact end_le (by simp;omega) h
   ·cases h
 ·exact end_le (by simp) h
theorem op_le{c:UInt8}{t:List UInt8}{r:TokC×Nat}(h:opF (c::t)=some r):r.2<=(c::t).length:=by
 have hop:opF (c::t)=if twoB (c::t) then some (opT ((c::t).take 2),2) else if (cutF c OPS).isSome then some (opT [c],1) else none:=rfl
 rw [hop] at h;split at h
 ·rename_i ht;cases h;unfold twoB at ht;simp only [Bool.or_eq_true] at ht;rcases ht with h |h |h
  ·exact take_le (x:=[60,62]) h
  ·exact take_le (x:=[60,61]) h
  ·exact take_le (x:=[62,61]) h
 ·split at h
  ·cases h;simp
  ·cases h
theorem one_le{c:UInt8}{t:List UInt8}{x:TokC}{k:Nat}(h:oneF (c::t)=some (x,k)):k<=(c::t).length:=by
 have h1:oneF (c::t)=if digF (c.toNat:Int) then numTF (c::t) else if (c.toNat:Int)==34 then quotedF (c::t) else if (c.toNat:Int)==35 then faultF (c::t)
  else if (c.toNat:Int)==91||((c.toNat:Int)==36||letF (c.toNat:Int)) then namedF (c::t) else opF (c::t):=rfl
 rw [h1] at h;split at h
 ·unfold numTF at h;cases hp:parseO ((c::t).take (spanF numB (c::t))) with
  |none=>rw [hp] at h;cases h
  |some v=>rw [hp] at h;cases h;exact spanF_le _ _
 ·split at h
  ·rw [show quotedF (c::t)=(qF t).map fun r=>(strT r.1,r.2+1) from rfl] at h;cases hq:qF t with
   |none=>rw [hq] at h;cases h
   |some r=>
    rw [hq] at h;cases h;have:=qF_le t r hq;simp;omega
  ·split at h
   ·exact flt_le _ _ _ _ h
   ·split at h
    ·exact named_le h
    ·exact op_le h
theorem rowTk:RowT cfg.P 22 124 9 88:=⟨by kernel_rfl,by kernel_rfl,by decide,by kernel_rfl,by kernel_rfl,by kernel_rfl,⟨zeroT.lv,by kernel_rfl,rfl⟩⟩
theorem tok_cells(x:TokC):allCells x.cs=true:=rfl
theorem tok_inv{o:Option (TokC×Nat)}{x:TokC}{n:Int}(h:LV.tuple [x.lv,.int .i64 n]=tokL o):(o=none/\n=0)\/(∃k:Nat,o=some (x,k)/\n=(k:Int)):=by
 cases o with
 |none=>
  simp only [tokL,LV.tuple.injEq,List.cons.injEq,LV.int.injEq,and_true,true_and] at h;exact .inl ⟨rfl,h.2⟩
 |some r=>
  obtain ⟨y,k⟩:=r;simp only [tokL,LV.tuple.injEq,List.cons.injEq,LV.int.injEq,and_true,true_and] at h;refine .inr ⟨k,?_,h.2⟩;have:=h.1;cases x;cases y;simp only [TokC.lv,TokC.cs,LV.agg.injEq,List.cons.injEq,LV.str.injEq,LV.bool.injEq,LV.int.injEq,and_true,true_and] at this;obtain ⟨rfl,rfl,rfl,rfl,rfl,rfl,rfl,rfl,rfl⟩:=this;rfl
end Go.Proofs.YtjihhflffkoffaaGreatDoor.Z
