/- The run of octavolaw10.lives in four parts: it hands back true. -/
import Derived.Test.YtjihhflffkoffaaGreatDoorZ0
import Derived.Test.YtjihhflffkoffaaGreatDoorLe
set_option linter.unusedSimpArgs false
set_option linter.unusedVariables false
set_option linter.unusedSectionVars false
set_option linter.unnecessarySimpa false
namespace Go.Proofs.YtjihhflffkoffaaGreatDoor.Z
open Go Go.Lm Go.Lm.Fd
set_option maxRecDepth 1000000
def q43o1:List (Nat×LObj):=[(0,K [I 0,S [],I 0,I 0,S [],S [],S [],I 0,I 0,f,f,S [],S [],I 0,I 0,f,f,E] 72 18 18),
 (1,K [I 0] 23 1 1),
 (9,Kf [I 5,I 0,S [40],S [],S [],I 0,I 0,f,f,I 1,I 10000,S [],S [],S [],I 0,I 0,f,f,I 5,I 0,S [43],S [],S [],I 0,I 0,f,f,I 1,I 20000,S [],S [],S [],I 0,I 0,f,f,I 5,I 0,S [41],S [],S [],I 0,I 0,f,f,I 5,I 0,S [42],S [],S [],I 0,I 0,f,f,I 1,I 30000,S [],S [],S [],I 0,I 0,f,f] 124 63 9)]
noncomputable def q43k1:LState:=⟨⟨54,([L,U,P 0 18 0,P 1 1 0,.slice (some ⟨9,63,0⟩) 7 (.free 9),U,L,L,L,L,I 0,I 0,f,U,U,L]++R 19 U ([])),(regAt cfgB 54 5),[⟨.fn (.func 114) [P 0 18 0,P 1 1 0],[]⟩],.run,false,none⟩,
 [⟨43,([f]++R 38 U ([])),(inReg [0,1,2,3,4,5,6] (regAt cfgB 43 1)),[],.run,false,none⟩],⟨55,treeOf q43o1 .leaf⟩⟩
def q43o2:List (Nat×LObj):=[(79,K [I 1,S [],I 1,I 10000,S [],S [],S [],I 0,I 0,f,f,S [],S [],I 0,I 0,f,f,E,I 1,S [],I 1,I 20000,S [],S [],S [],I 0,I 0,f,f,S [],S [],I 0,I 0,f,f,E] 72 36 36),
 (94,K [I 6,S [43],I 0,I 0,S [],S [],S [],I 0,I 0,f,f,S [],S [],I 0,I 0,f,f,V 79 36 0 2 2,I 1,S [],I 1,I 30000,S [],S [],S [],I 0,I 0,f,f,S [],S [],I 0,I 0,f,f,E] 72 36 36),
 (104,K [I 6,S [42],I 0,I 0,S [],S [],S [],I 0,I 0,f,f,S [],S [],I 0,I 0,f,f,V 94 36 0 2 2] 72 18 18),
 (105,K [I 0,S [],I 0,I 0,S [],S [],S [],I 0,I 0,f,f,S [],S [],I 0,I 0,f,f,E] 72 18 18),
 (106,K [I 0] 23 1 1),
 (107,K [S [83,85,77,40,65,49,58,66,50,44,41],.func (.func 151) [] []] 121 2 2),
 (111,K [I 4,I 0,S [83,85,77],S [],S [],I 0,I 0,f,f] 124 9 9)]
noncomputable def q43k2:LState:=⟨⟨18,([L,U,E,I 0,E,P 107 2 0,P 111 9 0,I 3,L,I 11,f,L,L,L,P 107 2 0,P 107 2 0,P 107 2 0,P 107 2 0,S [83,85,77,40,65,49,58,66,50,44,41],S [83,85,77,40,65,49,58,66,50,44,41],P 107 2 0,P 107 2 0,P 107 2 0,P 107 2 0,P 107 2 0,S [83,85,77,40,65,49,58,66,50,44,41],f,U,P 107 2 0,U,T [A [I 4,I 0,S [83,85,77],S [],S [],I 0,I 0,f,f],I 3],P 107 2 0,P 107 2 0,P 107 2 1,.func (.func 151) [] [],P 107 2 0,P 107 2 0,P 107 2 0,S [83,85,77,40,65,49,58,66,50,44,41],T [A [I 4,I 0,S [83,85,77],S [],S [],I 0,I 0,f,f],I 3],A [I 4,I 0,S [83,85,77],S [],S [],I 0,I 0,f,f],I 3,I 3,f]++R 13 U ([])),(regAt cfgB 18 12),[],.run,false,none⟩,
 [⟨54,([S [83,85,77,40,65,49,58,66,50,44,41],U,P 105 18 0,P 106 1 0,U,U,U,S [83,85,77,40,65,49,58,66,50,44,41]]++R 27 U ([])),(inReg [1,2,3,4,5,6] (regAt cfgB 54 1)),[],.run,false,none⟩,
 ⟨43,([f,P 104 18 0,I 0,U,U,L,L,L,I 0]++R 30 U ([])),(inReg [0,1,2,3,4,5,6] (regAt cfgB 43 2)),[],.run,false,none⟩],⟨118,treeOf q43o2 .leaf⟩⟩
def q43o3:List (Nat×LObj):=[(79,K [I 1,S [],I 1,I 10000,S [],S [],S [],I 0,I 0,f,f,S [],S [],I 0,I 0,f,f,E,I 1,S [],I 1,I 20000,S [],S [],S [],I 0,I 0,f,f,S [],S [],I 0,I 0,f,f,E] 72 36 36),
 (94,K [I 6,S [43],I 0,I 0,S [],S [],S [],I 0,I 0,f,f,S [],S [],I 0,I 0,f,f,V 79 36 0 2 2,I 1,S [],I 1,I 30000,S [],S [],S [],I 0,I 0,f,f,S [],S [],I 0,I 0,f,f,E] 72 36 36),
 (104,K [I 6,S [42],I 0,I 0,S [],S [],S [],I 0,I 0,f,f,S [],S [],I 0,I 0,f,f,V 94 36 0 2 2] 72 18 18)]
noncomputable def q43k3:LState:=⟨⟨43,([f,P 104 18 0,I 0,L,I 10,L,L,L,I 0,L,L,L,I 10]++R 26 U ([])),(regAt cfgB 43 3),[],.run,false,none⟩,
 [],⟨198,treeOf q43o3 .leaf⟩⟩
theorem q43c1:lrunF cfgB 5391 (q43o1.map Prod.fst) [0,6,7,8,9,15] [[]] (st 43)=some q43k1:=by kernel_rfl
theorem q43c2:lrunF cfgB 4187 (q43o2.map Prod.fst) [0,8,11,12,13] [[],[5,6,7]] q43k1=some q43k2:=by kernel_rfl
theorem q43c3:lrunF cfgB 6121 (q43o3.map Prod.fst) [3,9,10,11] [] q43k2=some q43k3:=by kernel_rfl
theorem q43e:lgo cfgB (fun s=>isTrueL (finalL cfgB 43 s)) 5106 q43k3=true:=by kernel_rfl
theorem ends43:EndsF cfgB (fun s=>isTrueL (finalL cfgB 43 s)=true) (st 43):=
 lrunF_ends q43c1 (lrunF_ends q43c2 (lrunF_ends q43c3 (EndsF.of (lgo_ends _ _ q43e))))
theorem lives43(W:World):Calls Tryz.prog 43 #[] W fun e X=>e=.returned (.bool true)/\Go.RowKit.Below W.heap.size W X:=
 calls_trueF (C:=cfgB) (okB W.heap.size) mix rfl (s:=st 43) (by kernel_rfl) ends43 W trivial (Nat.le_refl _)
end Go.Proofs.YtjihhflffkoffaaGreatDoor.Z
