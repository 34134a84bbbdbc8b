/- The program as it is reckoned with: closed calls as oracles. -/
import Derived.Test.YtjihhflffkoffaaGreatDoorZl
set_option linter.unusedSimpArgs false
set_option linter.unusedVariables false
set_option linter.unusedSectionVars false
set_option linter.unnecessarySimpa false
namespace Go.Proofs.YtjihhflffkoffaaGreatDoor.Z
open Go Go.Lm
open Go.RowKit (Below)
set_option maxRecDepth 1000000
theorem allC:cfgAll cfg Tryz.prog.funcs.toList 0=true:=by kernel_rfl
theorem okC(n0:Nat):CfgOK cfg n0 (fun _=>True):=by
 refine cfg_ok (fun _ _ _ _=>trivial) allC (fun f e _ he hne=>tab_ext tabOK he hne) (fun f o h=> ?_);have h':(if Nat.beq f 31 then some livesL else none)=some o:=h;split at h'
 ·rename_i hf;cases h';have hf':f=31:=by simpa [or_assoc] using hf
  have key:∀(g:FuncId) (fn:Func),Tryz.prog.funcs[g]? =some fn->fn.body.isNone=false->(∀W:World,Calls Tryz.prog g #[] W fun e X=>e=.returned (.bool true)/\Below W.heap.size W X)->
    (∃fn:Func,cfg.P.funcs[g]? =some fn/\fn.body.isNone=false)/\∀(ι:Gh) (H:LHeap) (W:World) (x:List LV) (a:Array Value) (r:LV),HRel ι H W n0->True->VRels ι x a.toList->livesL x=some r->
      Calls cfg.P g a W fun e X=>∃v,e=.returned v/\VRel ι r v/\Below W.heap.size W X:=by
   intro g fn h1 h2 h3;refine ⟨⟨fn,h1,h2⟩,fun ι H W x a r _ _ hx hr=> ?_⟩;unfold livesL at hr;split at hr
   ·cases hr;obtain rfl:a=#[]:=by
     generalize hal:a.toList=al at hx;cases hx;cases a;simp_all
    exact (h3 W).mono fun e X ⟨he,hb⟩=>⟨_,he,.bool true,hb⟩
   ·cases hr
  subst hf';exact key 31 Tryz.prog.funcs[31]! (by kernel_rfl) (by kernel_rfl) lives31
 ·cases h'
end Go.Proofs.YtjihhflffkoffaaGreatDoor.Z
