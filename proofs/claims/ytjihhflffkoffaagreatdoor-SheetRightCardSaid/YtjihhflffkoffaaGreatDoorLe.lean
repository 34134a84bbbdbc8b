/- Contracts of functions by reckoning along hints; the claim data in this memory; no condition. -/
import Derived.Test.YtjihhflffkoffaaGreatDoorLd
import Derived.ChangeArms
import Derived.OpenShut
set_option linter.unusedSimpArgs false
set_option linter.unusedVariables false
set_option linter.unusedSectionVars false
set_option linter.unnecessarySimpa false
/- What a program must be for this machine: by reckoning. -/
namespace Go.Lm
open Go.RowKit (Below)
def cfgAt(C:Cfg)(f:FuncId)(fn:Func):Bool:=
 !(fn.name== "runtime.NumGoroutine")&&(match C.orc f,C.ext f with
  |none,none=> !fn.body.isNone
  |_,_=>true)
def cfgAll(C:Cfg):List Func->Nat->Bool
 |[],_=>true
 |fn::l,f=>match cfgAt C f fn with
  |true=>cfgAll C l (f+1)
  |false=>false
theorem cfgAll_spec{C:Cfg}:∀{l:List Func} {k:Nat},cfgAll C l k=true->∀(i:Nat) (fn:Func),l[i]? =some fn->cfgAt C (k+i) fn=true
 |[],_,_,i,fn,h=>by simp at h
 |g::l,k,hc,i,fn,h=>by
  unfold cfgAll at hc;split at hc
  ·rename_i hg;cases i with
   |zero=>simp at h;subst h;exact hg
   |succ i=>
    have:=cfgAll_spec hc i fn (by simpa using h);rw [show k+(i+1)=k+1+i by omega];exact this
  ·cases hc
theorem cfg_ok{C:Cfg}{n0:Nat}{Kw:World->Prop}(hk:∀W X:World,Kw W->Below n0 W X->Kw X)(h:cfgAll C C.P.funcs.toList 0=true)
  (hext:∀(f:FuncId) (e:Ext),C.orc f=none->C.ext f=some e->e≠.sub64->∃(fn:Func) (g:Array Value->Sem Value),C.P.funcs[f]? =some fn/\fn.body.isNone=true/\Extern.findNext fn=none/\Extern.find fn=some g/\ExtSem e g)
  (horc:∀(f:FuncId) (o:List LV->Option LV),C.orc f=some o->(∃fn:Func,C.P.funcs[f]? =some fn/\fn.body.isNone=false)/\∀(ι:Gh) (H:LHeap) (W:World) (x:List LV) (a:Array Value) (r:LV),HRel ι H W n0->Kw W->VRels ι x a.toList->o x=some r->
    Calls C.P f a W fun e X=>∃v,e=.returned v/\VRel ι r v/\Go.RowKit.Below W.heap.size W X):CfgOK C n0 Kw where
 keep:=hk
 name:=fun f fn hf=>by
  have:=cfgAll_spec h f fn (by simpa using hf);rw [Nat.zero_add] at this;simp only [cfgAt,Bool.and_eq_true,Bool.not_eq_true'] at this;exact this.1
 body:=fun f fn ho he hf=>by
  have:=cfgAll_spec h f fn (by simpa using hf);rw [Nat.zero_add] at this;simp only [cfgAt,ho,he,Bool.and_eq_true,Bool.not_eq_true'] at this;exact this.2
 ext:=hext
 orc:=horc
def noGh:Gh:=fun _ _=>none
theorem noGh_heap(H:LHeap){W:World}{n0:Nat}(h:n0<=W.heap.size):HRel noGh H W n0:=
 ⟨(by intro _ _ _ h;cases h),(by intro _ _ _ _ _ _ h;cases h),(by intro _ _ _ h;cases h),h⟩
theorem noGlob{C:Cfg}(h:C.glob=fun _=>.lost)(ι:Gh):GlobOK C ι:=fun g=>by rw [h];exact .lost _
theorem Ends.mono{C:Cfg}{p q:LState->Prop}(hpq:∀s,p s->q s){s:LState}(h:Ends C p s):Ends C q s:=by
 induction h with
 |done h=>exact .done (hpq _ h)
 |step hs _ ih=>exact .step hs ih
 |learn h1 h2 h3 h5 _ ih=>exact .learn h1 h2 h3 h5 ih
def startL(C:Cfg)(f:FuncId):Option LState:=match enterF C f [] false with
 |some fr=>some ⟨fr,[],⟨0,.leaf⟩⟩
 |none=>none
def isTrueL:Option LV->Bool
 |some (.bool b)=>b
 |_=>false
theorem calls_true{C:Cfg}{n0:Nat}{Kw:World->Prop}(hC:CfgOK C n0 Kw)(hmix:C.P.follows .mixedOrders=true)(hg:C.glob=fun _=>.lost){f:FuncId}{s:LState}(hs:startL C f=some s)(h:Ends C (fun s=>isTrueL (finalL C f s)=true) s)(W:World)(hKw:Kw W)(hn:n0<=W.heap.size):
  Calls C.P f #[] W fun e X=>e=.returned (.bool true)/\Below n0 W X:=by
 unfold startL at hs;split at hs
 ·rename_i fr he;cases hs;have hends:Ends C (fun s=>∃v,finalL C f s=some v/\v=.bool true) ⟨fr,[],⟨0,.leaf⟩⟩:=by
   refine Ends.mono (fun s hs=> ?_) h;unfold isTrueL at hs;split at hs
   ·rename_i b hb;subst hs;exact ⟨_,hb,rfl⟩
   ·cases hs
  refine (calls_of_ends hC hmix (noGh_heap ⟨0,.leaf⟩ hn) hKw (noGlob hg noGh) (x:=[]) (a:=#[]) .nil he hends).mono fun e X hq=> ?_;obtain ⟨v,u,κ,K,rfl,rfl,hv,_,hb⟩:=hq;cases hv;exact ⟨rfl,hb⟩
 ·cases hs
end Go.Lm

/- The functions without a body, by a table. -/
namespace Go.Lm
def lookE:List (Nat×Nat×Ext)->Nat->Option Ext
 |[],_=>none
 |(a,b,e)::l,f=>if Nat.ble a f&&Nat.ble f b then some e else lookE l f
theorem lookE_mem:∀{l:List (Nat×Nat×Ext)} {f:Nat} {e:Ext},lookE l f=some e->∃a b,(a,b,e)∈l/\a<=f/\f<=b
 |[],_,_,h=>by simp [lookE] at h
 |(a,b,x)::l,f,e,h=>by
  unfold lookE at h;split at h
  ·rename_i hc;simp only [Bool.and_eq_true,Nat.ble_eq] at hc;cases h;exact ⟨a,b,List.mem_cons_self,hc.1,hc.2⟩
  ·obtain ⟨a',b',h1,h2⟩:=lookE_mem h;exact ⟨a',b',List.mem_cons_of_mem _ h1,h2⟩
def ExtFact(P:Program)(f:FuncId)(e:Ext):Prop:=
 ∃(fn:Func) (g:Array Value->Sem Value),P.funcs[f]? =some fn/\fn.body.isNone=true/\Extern.findNext fn=none/\Extern.find fn=some g/\ExtSem e g
def TabOK(P:Program):List (Nat×Nat×Ext)->Prop
 |[]=>True
 |(a,b,e)::l=>(e=.sub64\/(a=b/\ExtFact P a e))/\TabOK P l
theorem TabOK.mem{P:Program}:∀{l:List (Nat×Nat×Ext)},TabOK P l->∀{a b:Nat} {e:Ext},(a,b,e)∈l->e=.sub64\/(a=b/\ExtFact P a e)
 |(a',b',e')::l,h,a,b,e,hm=>by
  rcases List.mem_cons.1 hm with hm |hm
  ·cases hm;exact h.1
  ·exact TabOK.mem h.2 hm
theorem tab_ext{P:Program}{l:List (Nat×Nat×Ext)}(h:TabOK P l){f:FuncId}{e:Ext}(he:lookE l f=some e)(hne:e≠.sub64):ExtFact P f e:=by
 obtain ⟨a,b,hm,h1,h2⟩:=lookE_mem he;rcases h.mem hm with h |⟨rfl,h⟩
 ·exact absurd h hne
 ·have:f=a:=Nat.le_antisymm h2 h1;rw [this];exact h
end Go.Lm

/- What is no more reached is forgotten: a run of this machine may drop it, and goes on beside the model. -/
namespace Go.Lm
open Go.RowKit (Below)
mutual
def LV.inK(k:Nat->Bool):LV->Bool
 | .ptr (some a)=>k a.id
 | .slice (some a) _ _=>k a.id
 | .map (some i)=>k i
 | .func (.yield i) x c=>k i&&(insK k x&&insK k c)
 | .func (.func _) x c=>insK k x&&insK k c
 | .iface _ v=>v.inK k
 | .agg l=>insK k l
 | .tuple l=>insK k l
 |_=>true
def insK(k:Nat->Bool):List LV->Bool
 |[]=>true
 |v::l=>v.inK k&&insK k l
end
def Gh.cut(ι:Gh)(k:Nat->Bool):Gh:=fun i u=>if k i=true then ι i u else none
theorem Gh.cut_of{ι:Gh}{k:Nat->Bool}{i u:Nat}{l:Loc}(hk:k i=true)(h:ι i u=some l):ι.cut k i u=some l:=by
 unfold Gh.cut;rw [if_pos hk];exact h
theorem Gh.cut_eq{ι:Gh}{k:Nat->Bool}{i:Nat}(hk:k i=true)(u:Nat):ι.cut k i u=ι i u:=by
 unfold Gh.cut;rw [if_pos hk]
theorem Gh.cut_some{ι:Gh}{k:Nat->Bool}{i u:Nat}{l:Loc}(h:ι.cut k i u=some l):k i=true/\ι i u=some l:=by
 unfold Gh.cut at h;split at h
 ·rename_i hk;exact ⟨hk,h⟩
 ·cases h
mutual
theorem VRel.cut{ι:Gh}{k:Nat->Bool}:∀{x:LV} {v:Value},VRel ι x v->x.inK k=true->VRel (ι.cut k) x v
 |_,_,.junk e,_=>.junk e
 |_,_,.lost v,_=>.lost v
 |_,_,.bool b,_=>.bool b
 |_,_,.int k n,_=>.int k n
 |_,_,.str s e,_=>.str s e
 |_,_,.nilptr,_=>.nilptr
 |_,_,.ptr e,h=>.ptr (by
  obtain ⟨l,h1,h2⟩:=e;exact ⟨l,Gh.cut_of (by simpa [LV.inK] using h) h1,h2⟩)
 |_,_,.nilslice,_=>.nilslice
 |_,_,.slice e hd hn,h=>.slice (fun hc=>by
  obtain ⟨l,h1,h2⟩:=e hc;exact ⟨l,Gh.cut_of (by simpa [LV.inK] using h) h1,h2⟩) (hd.imp fun _ x=>Gh.cut_of (by simpa [LV.inK] using h) x) hn
 |_,_,.free e,h=>.free (by
  obtain ⟨l,h1,h2⟩:=e;exact ⟨l,Gh.cut_of (by simpa [LV.inK] using h) h1,h2⟩)
 |_,_,.nilmap,_=>.nilmap
 |_,_,.map e,h=>.map (Gh.cut_of (by simpa [LV.inK] using h) e)
 |_,_,.func e hx hc,h=>by
  cases e with
  |func f=>
   simp only [LV.inK,Bool.and_eq_true] at h;exact .func (.func f) (VRels.cut hx h.1) (VRels.cut hc h.2)
  |yield e=>
   simp only [LV.inK,Bool.and_eq_true] at h;exact .func (.yield (Gh.cut_of h.1 e)) (VRels.cut hx h.2.1) (VRels.cut hc h.2.2)
 |_,_,.nilFunc,_=>.nilFunc
 |_,_,.iface t e,h=>by
  simp only [LV.inK] at h;exact .iface t (VRel.cut e h)
 |_,_,.nilIface,_=>.nilIface
 |_,_,.agg e,h=>by
  simp only [LV.inK] at h;exact .agg (VRels.cut e h)
 |_,_,.tuple e,h=>by
  simp only [LV.inK] at h;exact .tuple (VRels.cut e h)
theorem VRels.cut{ι:Gh}{k:Nat->Bool}:∀{x:List LV} {v:List Value},VRels ι x v->insK k x=true->VRels (ι.cut k) x v
 |_,_,.nil,_=>.nil
 |_,_,.cons e t,h=>by
  simp only [insK,Bool.and_eq_true] at h;exact .cons (VRel.cut e h.1) (VRels.cut t h.2)
end
theorem insK_mem{k:Nat->Bool}:∀{l:List LV},insK k l=true->∀v∈l,v.inK k=true
 |[],_,v,h=>by cases h
 |a::l,h,v,hv=>by
  simp only [insK,Bool.and_eq_true] at h;rcases List.mem_cons.1 hv with rfl |hv
  ·exact h.1
  ·exact insK_mem h.2 v hv
def LTarget.inK(k:Nat->Bool):LTarget->Bool
 | .fn (.func _) c=>insK k c
 | .fn (.yield i) c=>k i&&insK k c
 | .fn _ _=>false
 | .collected i=>k i
def LDef.inK(k:Nat->Bool)(d:LDef):Bool:=d.target.inK k&&insK k d.args
def defsK(k:Nat->Bool):List LDef->Bool
 |[]=>true
 |d::l=>d.inK k&&defsK k l
def entsK(k:Nat->Bool):List LEntry->Bool
 |[]=>true
 |e::l=>e.key.inK k&&(e.val.inK k&&entsK k l)
def LObj.inK(k:Nat->Bool):LObj->Bool
 | .cells cs _ _ _ _ _ _=>insK k cs
 | .map es _=>entsK k es
 | .stringIter _ _=>true
 | .mapIter none _ _ _=>true
 | .mapIter (some i) _ _ _=>k i
 | .loop l=>insK k l.tmps&&k l.defers
 | .deferred none=>true
 | .deferred (some ds)=>defsK k ds
theorem DefRel.cut{ι:Gh}{k:Nat->Bool}{d:LDef}{e:Deferred}(h:d.inK k=true)(r:DefRel ι d e):DefRel (ι.cut k) d e:=by
 simp only [LDef.inK,Bool.and_eq_true] at h;refine ⟨?_,r.args.cut h.2⟩;have h1:=h.1;have r1:=r.target;generalize d.target=t at h1 r1 |-;generalize e.target=u at r1 |-;cases r1 with
 |fn hf hc=>
  cases hf with
  |func f=>exact .fn (.func f) (hc.cut (by simpa [LTarget.inK] using h1))
  |yield e=>
   simp only [LTarget.inK,Bool.and_eq_true] at h1;exact .fn (.yield (Gh.cut_of h1.1 e)) (hc.cut h1.2)
 |collected e=>exact .collected (Gh.cut_of (by simpa [LTarget.inK] using h1) e)
theorem defs_cut{ι:Gh}{k:Nat->Bool}:∀{l:List LDef} {m:List Deferred},defsK k l=true->Rels (DefRel ι) l m->Rels (DefRel (ι.cut k)) l m
 |_,_,_,.nil=>.nil
 |_,_,h,.cons e t=>by
  simp only [defsK,Bool.and_eq_true] at h;exact .cons (e.cut h.1) (defs_cut h.2 t)
theorem ents_cut{ι:Gh}{k:Nat->Bool}:∀{l:List LEntry} {m:List MapEntry},entsK k l=true->Rels (ERel ι) l m->Rels (ERel (ι.cut k)) l m
 |_,_,_,.nil=>.nil
 |_,_,h,.cons e t=>by
  simp only [entsK,Bool.and_eq_true] at h;exact .cons ⟨e.key.cut h.1,e.val.cut h.2.1,e.born⟩ (ents_cut h.2.2 t)
theorem PlainRel.cut{ι:Gh}{k:Nat->Bool}{a:LObj}{b:Obj}(hk:a.inK k=true)(r:PlainRel ι a b):PlainRel (ι.cut k) a b:=by
 cases r with
 |map c e=>exact .map c (ents_cut (by simpa [LObj.inK] using hk) e)
 |stringIter s p e=>exact .stringIter s p e
 |mapIterNone a b c=>exact .mapIterNone a b c
 |mapIter e a b c=>exact .mapIter (Gh.cut_of (by simpa [LObj.inK] using hk) e) a b c
 |loop e=>
  simp only [LObj.inK,Bool.and_eq_true] at hk;exact .loop ⟨e.state,e.pending,e.fn,e.tmps.cut hk.1,e.params,e.assign,e.body,e.defers.imp fun _ x=>⟨Gh.cut_of hk.2 x.1,x.2⟩⟩
 |deferredNone=>exact .deferredNone
 |deferred e=>exact .deferred (defs_cut (by simpa [LObj.inK] using hk) e)
theorem ORel.cut{ι:Gh}{k:Nat->Bool}{W:World}{i:Nat}{o:LObj}(hi:k i=true)(hk:o.inK k=true)(r:ORel ι W i o):ORel (ι.cut k) W i o:=by
 cases o with
 |cells cs e ver minv fz ro wh=>
  obtain ⟨h1,h2,h3,h4,h5,h6,h7⟩:=r;have he:=Gh.cut_eq (ι:=ι) hi;refine ⟨h1,h2,h3,h4.imp fun l x=>(he _).trans x,fun hw=>⟨(h5 hw).1,fun l hl=>(h5 hw).2 l ((he _).symm.trans hl)⟩,fun u l hu=> ?_,
   fun u u' l l' hu hu'=>h7 u u' l l' ((he u).symm.trans hu) ((he u').symm.trans hu')⟩
  have hu':ι i u=some l:=(he u).symm.trans hu;refine ⟨(h6 u l hu').1,fun hm=> ?_⟩;obtain ⟨c,fr,hc⟩:=(h6 u l hu').2 hm;have hin:insK k cs=true:=by simpa [LObj.inK] using hk
  exact ⟨c,fr,hc.here,hc.tot,hc.fits,hc.fz,hc.one,fun j x hx hj h0=>(hc.cell j x hx hj h0).imp fun v hv=>⟨hv.1,hv.2.cut (insK_mem hin x (List.mem_of_getElem? hx))⟩⟩
 |_=>
  obtain ⟨l,b,h1,h2,h3,h4,h5⟩:=r;exact ⟨l,b,Gh.cut_of hi h1,h2,fun u hu=>by rw [Gh.cut_eq hi];exact h3 u hu,h4,h5.cut hk⟩
theorem HRel.cut{ι:Gh}{H K:LHeap}{W:World}{n0:Nat}{k:Nat->Bool}(h:HRel ι H W n0)(hn:K.next=H.next)(hk:∀i,k i=true->K.get i=H.get i)
  (hin:∀i o,k i=true->K.get i=some o->o.inK k=true):HRel (ι.cut k) K W n0:=by
 have hro:∀i,k i=true->(isRo K i↔isRo H i):=fun i hi=>by unfold isRo;rw [hk i hi]
 refine ⟨fun i u l hu=> ?_,fun i u l j v m hu hv hb hne=> ?_,fun i u l hu=> ?_,h.size⟩
 ·obtain ⟨hi,hu⟩:=Gh.cut_some hu;obtain ⟨h1,h2,o,h3,h4⟩:=h.dom i u l hu;exact ⟨by rw [hn];exact h1,h2,o,(hk i hi).trans h3,h4.cut hi (hin i o hi ((hk i hi).trans h3))⟩
 ·obtain ⟨hi,hu⟩:=Gh.cut_some hu;obtain ⟨hj,hv⟩:=Gh.cut_some hv;rw [hro i hi,hro j hj];exact h.sep i u l j v m hu hv hb hne
 ·obtain ⟨hi,hu⟩:=Gh.cut_some hu;rw [hro i hi];exact h.base i u l hu
def itemK(k:Nat->Bool):LItem->Bool
 | .inRangeFunc l=>k l
 | .endRangeFunc l=>k l
 | .drawn .. =>false
 |_=>true
def itemsK(k:Nat->Bool):List LItem->Bool
 |[]=>true
 |i::l=>itemK k i&&itemsK k l
def noA(ops:Array Oper):List Nat->Bool
 |[]=>true
 |i::l=>(match ops[i]? with
  |some o=> !(isA o.op)
  |none=>true)&&noA ops l
def todoK(k:Nat->Bool)(top:Bool):List LItem->Bool
 | .drawn ops _ tm0 done _ _::l=> !top&&(insK k tm0&&(noA ops done&&itemsK k l))
 |l=>itemsK k l
def isRun:LMode->Bool
 | .run=>true
 |_=>false
def frameK(k:Nat->Bool)(top:Bool)(f:LFrame):Bool:=
 isRun f.mode&&(insK k f.tmps&&(todoK k top f.todo&&(defsK k f.defers&&(match f.roundOf with
  |none=>true
  |some l=>k l))))
def framesK(k:Nat->Bool):List LFrame->Bool
 |[]=>true
 |f::l=>frameK k false f&&framesK k l
theorem item_cut{ι:Gh}{k:Nat->Bool}{a:LItem}{b:Item}(h:itemK k a=true)(r:ItemRel ι a b):ItemRel (ι.cut k) a b:=by
 cases r with
 |code c=>exact .code c
 |inBlock i=>exact .inBlock i
 |inLoop c=>exact .inLoop c
 |inScope c=>exact .inScope c
 |inRegion o l=>exact .inRegion o l
 |inRangeFunc e=>exact .inRangeFunc (Gh.cut_of h e)
 |endRangeFunc e=>exact .endRangeFunc (Gh.cut_of h e)
 |beginRound=>exact .beginRound
theorem items_cut{ι:Gh}{k:Nat->Bool}:∀{l:List LItem} {m:List Item},itemsK k l=true->Rels (ItemRel ι) l m->Rels (ItemRel (ι.cut k)) l m
 |_,_,_,.nil=>.nil
 |_,_,h,.cons e t=>by
  simp only [itemsK,Bool.and_eq_true] at h;exact .cons (item_cut h.1 e) (items_cut h.2 t)
theorem noA_mem{ops:Array Oper}:∀{l:List Nat},noA ops l=true->∀i∈l,∀o,ops[i]? =some o->isA o.op=false
 |[],_,i,h,_,_=>by cases h
 |j::l,h,i,hi,o,ho=>by
  simp only [noA,Bool.and_eq_true] at h;rcases List.mem_cons.1 hi with rfl |hi
  ·have:=h.1;rw [ho] at this;simpa using this
  ·exact noA_mem h.2 i hi o ho
theorem vrel_at{ι:Gh}{k:Nat->Bool}{l:List LV}(h:insK k l=true){t:Nat}{x:LV}{v:Value}(hx:l[t]? =some x)(r:VRel ι x v):VRel (ι.cut k) x v:=
 r.cut (insK_mem h x (List.mem_of_getElem? hx))
theorem todo_cut{C:Cfg}{ι:Gh}{H K:LHeap}{us:List (Nat×Nat)}{top:Bool}{tmps:List LV}{td:List LItem}{ct:List Value}{td':List Item}{k:Nat->Bool}
  (ht:insK k tmps=true) (hd:todoK k top td=true) (r:Todo C ι H us top tmps td ct td'):Todo C (ι.cut k) K [] top tmps td ct td':=by
 cases r with
 |plain h1 h2=>
  refine .plain (h1.cut ht) (items_cut ?_ h2);cases h2 with
  |nil=>rfl
  |cons e t=>
   cases e<;>exact hd
 |drawn d h2 hc hp=>
  simp only [todoK,Bool.and_eq_true] at hd;obtain ⟨h3,h4,h5,h6⟩:=hd;obtain rfl:top=false:=by simpa using h3
  refine .drawn ?_ (items_cut h6 h2) (fun e=>by cases e) hp;exact { d with
   old:=fun t x v q1 q2 q3=>vrel_at h4 q2 (d.old t x v q1 q2 q3)
   new:=fun t j y v q1 q2 q3 q4=>vrel_at ht q3 (d.new t j y v q1 q2 q3 q4)
   waits:=fun i q1 q2 o q3 q4 q5=>by
    rw [noA_mem h5 i q1 o q3] at q4;cases q4
   ids:=List.nodup_nil }
theorem frame_cut{C:Cfg}{ι:Gh}{H K:LHeap}{us:List (Nat×Nat)}{top:Bool}{f:LFrame}{g:Frame}{k:Nat->Bool}(h:frameK k top f=true)(r:FRel C ι H us top f g):
  FRel C (ι.cut k) K [] top f g:=by
 simp only [frameK,Bool.and_eq_true] at h;obtain ⟨h1,h2,h3,h4,h5⟩:=h;refine ⟨r.fn,r.func,defs_cut h4 r.defers,r.kind,?_,?_⟩
 ·have hr:=r.round;split at hr
  ·exact hr
  ·rename_i l hl;rw [hl] at h5;obtain ⟨lo,q1,q2⟩:=hr;exact ⟨lo,Gh.cut_of h5 q1,q2⟩
 ·cases r.mode with
  |run q1 q2 t=>exact .run q1 q2 (todo_cut h2 h3 t)
  |returning q1=>rw [q1] at h1;cases h1
  |panicking q1=>rw [q1] at h1;cases h1
theorem stack_cut{C:Cfg}{ι:Gh}{H K:LHeap}{k:Nat->Bool}:∀{us:List (Nat×Nat)} {fs:List LFrame} {gs:List Frame},framesK k fs=true->Stack C ι H us fs gs->Stack C (ι.cut k) K [] fs gs
 |_,_,_,_,.nil=>.nil
 |_,_,_,h,.cons e t=>by
  simp only [framesK,Bool.and_eq_true] at h;exact .cons (us:=[]) (vs:=[]) (frame_cut h.1 e) (stack_cut h.2 t)
def loseAt:List Nat->List LV->List LV
 |[],l=>l
 |n::ns,l=>loseAt ns (setNth l n .lost)
theorem VRels.lose1{ι:Gh}:∀{l:List LV} {m:List Value} (n:Nat),VRels ι l m->VRels ι (setNth l n .lost) m
 |_,_,_,.nil=>by simp [setNth];exact .nil
 |_,_,0,.cons _ t=>.cons (.lost _) t
 |_,_,n+1,.cons e t=>.cons e (VRels.lose1 n t)
theorem VRels.lose{ι:Gh}:∀(ns:List Nat) {l:List LV} {m:List Value},VRels ι l m->VRels ι (loseAt ns l) m
 |[],_,_,h=>h
 |n::ns,_,_,h=>VRels.lose ns (h.lose1 n)
def loseF(ns:List Nat)(f:LFrame):LFrame:=
 match f.todo with
 | .drawn .. ::_=>f
 |_=>{ f with tmps:=loseAt ns f.tmps }
def loseFs:List (List Nat)->List LFrame->List LFrame
 |ns::l,f::fs=>loseF ns f::loseFs l fs
 |_,fs=>fs
theorem loseF_rel{C:Cfg}{ι:Gh}{H:LHeap}{us:List (Nat×Nat)}{top:Bool}{f:LFrame}{g:Frame}(ns:List Nat)(r:FRel C ι H us top f g):FRel C ι H us top (loseF ns f) g:=by
 unfold loseF;split
 ·exact r
 ·rename_i hd;refine ⟨r.fn,r.func,r.defers,r.kind,r.round,?_⟩;cases r.mode with
  |run q1 q2 t=>
   refine .run q1 q2 ?_;show Todo C ι H us top (loseAt ns f.tmps) f.todo g.tmps.toList g.todo
   generalize hft:f.todo=ft at t hd;generalize f.tmps=tm at t;generalize g.tmps.toList=gt at t;generalize g.todo=gd at t;cases t with
   |plain h1 h2=>exact .plain (h1.lose ns) h2
   |drawn d h2 hc hp=>exact absurd rfl (hd _ _ _ _ _ _ _)
  |returning q1 q2 h hu=>exact .returning q1 q2 (h.lose ns) hu
  |panicking q1 q2 hc h hu=>exact .panicking q1 q2 hc (h.lose ns) hu
theorem loseFs_rel{C:Cfg}{ι:Gh}{H:LHeap}:∀{us:List (Nat×Nat)} (nss:List (List Nat)) {fs:List LFrame} {gs:List Frame},Stack C ι H us fs gs->Stack C ι H us (loseFs nss fs) gs
 |_,[],_,_,h=>by
  cases h with
  |nil=>exact .nil
  |cons e t=>exact .cons e t
 |_,_::_,_,_,.nil=>.nil
 |_,ns::l,_,_,.cons e t=>.cons (loseF_rel ns e) (loseFs_rel l t)
def pickT(H:LHeap):List Nat->Tree LObj->Tree LObj
 |[],t=>t
 |i::l,t=>match H.get i with
  |some o=>pickT H l (Tree.set (i+1) t i o)
  |none=>pickT H l t
theorem pickT_get{H:LHeap}:∀{l:List Nat} {t:Tree LObj} {i:Nat} {o:LObj},(pickT H l t).get i=some o->t.get i=some o\/(i∈l/\H.get i=some o)
 |[],t,i,o,h=>.inl h
 |j::l,t,i,o,h=>by
  unfold pickT at h;split at h
  ·rename_i o' ho;rcases pickT_get h with h |h
   ·rw [Tree.get_set _ _ _ _ _ (by omega)] at h;split at h
    ·rename_i e;cases h;subst e;exact .inr ⟨List.mem_cons_self,ho⟩
    ·exact .inl h
   ·exact .inr ⟨List.mem_cons_of_mem _ h.1,h.2⟩
  ·rcases pickT_get h with h |h
   ·exact .inl h
   ·exact .inr ⟨List.mem_cons_of_mem _ h.1,h.2⟩
def keepB(t:Tree LObj)(i:Nat):Bool:=match t.get i with
 |some _=>true
 |none=>false
def objsK(t:Tree LObj):List Nat->Bool
 |[]=>true
 |i::l=>(match t.get i with
  |some o=>o.inK (keepB t)
  |none=>true)&&objsK t l
theorem objsK_mem{t:Tree LObj}:∀{l:List Nat},objsK t l=true->∀i∈l,∀o,t.get i=some o->o.inK (keepB t)=true
 |[],_,i,h,_,_=>by cases h
 |j::l,h,i,hi,o,ho=>by
  simp only [objsK,Bool.and_eq_true] at h;rcases List.mem_cons.1 hi with rfl |hi
  ·have:=h.1;rw [ho] at this;exact this
  ·exact objsK_mem h.2 i hi o ho
def closedS(ids:List Nat)(s:LState):Bool:=
 objsK s.H.tree ids&&(frameK (keepB s.H.tree) true s.fr&&framesK (keepB s.H.tree) s.cs)
def fadeS(ids:List Nat)(ns:List Nat)(nss:List (List Nat))(s:LState):LState:=
 ⟨loseF ns s.fr,loseFs nss s.cs,⟨s.H.next,pickT s.H ids .leaf⟩⟩
theorem fade_sim{C:Cfg}{n0:Nat}{tail:List Frame}{ι:Gh}{s:LState}{g:Frame}{cs:List Frame}{W:World}(hg:C.glob=fun _=>.lost){ids ns:List Nat}{nss:List (List Nat)}
  (hc:closedS ids (fadeS ids ns nss s)=true) (h:MSim C n0 tail ι s g cs W):∃κ,MSim C n0 tail κ (fadeS ids ns nss s) g cs W:=by
 simp only [closedS,Bool.and_eq_true] at hc;obtain ⟨h1,h2,h3⟩:=hc;obtain ⟨us,vs,gs,rfl,hF,hst,_,_⟩:=h.all;refine ⟨ι.cut (keepB (fadeS ids ns nss s).H.tree),?_,fun x=>by rw [hg];exact .lost _,[],[],gs,rfl,frame_cut h2 (loseF_rel ns hF),stack_cut h3 (loseFs_rel nss hst),List.nodup_nil,fun p hp=>by cases hp⟩;have key:∀i o,(fadeS ids ns nss s).H.tree.get i=some o->i∈ids/\s.H.get i=some o:=fun i o ho=>by
  rcases pickT_get ho with e |e
  ·cases i<;>simp [Tree.get] at e
  ·exact e
 have hk:∀i,keepB (fadeS ids ns nss s).H.tree i=true->∃o,(fadeS ids ns nss s).H.tree.get i=some o:=fun i hi=>by
  unfold keepB at hi;split at hi
  ·rename_i o ho;exact ⟨o,ho⟩
  ·cases hi
 refine h.heap.cut rfl (fun i hi=> ?_) (fun i o hi ho=> ?_)
 ·obtain ⟨o,ho⟩:=hk i hi;exact Eq.trans ho (key i o ho).2.symm
 ·exact objsK_mem h1 i (key i o ho).1 o ho
inductive EndsF (C:Cfg) (p:LState->Prop):LState->Prop
 |done {s:LState} (h:p s):EndsF C p s
 |step {s:LState} {l:List LState} (hs:lstep C s=some l) (h:∀s'∈l,EndsF C p s'):EndsF C p s
 |fade {s:LState} (ids ns:List Nat) (nss:List (List Nat)) (hc:closedS ids (fadeS ids ns nss s)=true) (h:EndsF C p (fadeS ids ns nss s)):EndsF C p s
theorem EndsF.sim{C:Cfg}{n0:Nat}{Kw:World->Prop}(hC:CfgOK C n0 Kw)(hmix:C.P.follows .mixedOrders=true)(hg:C.glob=fun _=>.lost){tail:List Frame}{p:LState->Prop}{s:LState}(h:EndsF C p s):∀{ι:Gh} {g:Frame} {cs:List Frame} {W:World},Kw W->MSim C n0 tail ι s g cs W->
  ∃s' κ g' cs' X,p s'/\Steps C.P (lone g cs W) (lone g' cs' X)/\MSim C n0 tail κ s' g' cs' X/\Below n0 W X:=by
 induction h with
 |@done s h=>
  intro ι g cs W hKw hm;exact ⟨s,ι,g,cs,W,h,.refl _ _,hm,.refl _ _⟩
 |step hs _ ih=>
  intro ι g cs W hKw hm;obtain ⟨s1,hs1,κ,g1,cs1,W1,a1,a2,a3⟩:=sim_step hC hmix hKw hm hs;obtain ⟨s2,μ,g2,cs2,W2,b1,b2,b3,b4⟩:=ih s1 hs1 (hC.keep _ _ hKw a3) a2;exact ⟨s2,μ,g2,cs2,W2,b1,a1.trans b2,b3,a3.trans b4⟩
 |fade ids ns nss hc _ ih=>
  intro ι g cs W hKw hm;obtain ⟨κ,hm'⟩:=fade_sim hg hc hm;exact ih hKw hm'
theorem EndsF.mono{C:Cfg}{p q:LState->Prop}(hpq:∀s,p s->q s){s:LState}(h:EndsF C p s):EndsF C q s:=by
 induction h with
 |done h=>exact .done (hpq _ h)
 |step hs _ ih=>exact .step hs ih
 |fade ids ns nss hc _ ih=>exact .fade ids ns nss hc ih
def regGo:Code->List LItem->Nat->Option (List LItem)
 | .region id ops d,k,n=>if Nat.beq id n then some (.code (.region id ops d)::k) else none
 | .seq a b,k,n=>match regGo a (.code b::k) n with
  |some x=>some x
  |none=>regGo b k n
 | .cond _ a b,k,n=>match regGo a k n with
  |some x=>some x
  |none=>regGo b k n
 | .block id b,k,n=>regGo b (.inBlock id::k) n
 | .loop b,k,n=>regGo b (.inLoop b::k) n
 | .scope b,k,n=>regGo b (.inScope b::k) n
 |_,_,_=>none
def regAt(C:Cfg)(f:FuncId)(n:Nat):List LItem:=
 match C.P.funcs[f]? with
 |some fn=>match fn.body with
  |some c=>(regGo c [] n).getD []
  |none=>[]
 |none=>[]
end Go.Lm
namespace Go.Lm.Fd
open Go Go.Lm
def I(n:Nat):LV:=.int .i64 (.ofNat n)
def J(n:Nat):LV:=.int .i64 (.negSucc n)
def S(l:List Nat):LV:=.str (l.map UInt8.ofNat)
def L:LV:=.lost
def A(l:List LV):LV:=.agg l
def T(l:List LV):LV:=.tuple l
def P(i v o:Nat):LV:=.ptr (some ⟨i,v,o⟩)
def V(i v o n c:Nat):LV:=.slice (some ⟨i,v,o⟩) n (.exact c)
def E:LV:=.slice none 0 (.exact 0)
def t:LV:=.bool true
def f:LV:=.bool false
def Y(n:Nat):LV:=.int .u8 (.ofNat n)
def K(cs:List LV)(e v m:Nat):LObj:=.cells cs e v m .none false true
def Kf(cs:List LV)(e v m:Nat):LObj:=.cells cs e v m .none false false
def R(n:Nat)(v:LV)(l:List LV):List LV:=match n with
 |0=>l
 |n+1=>v::R n v l
end Go.Lm.Fd

/- A step of the running frame alone; contracts of functions. -/
namespace Go.Lm
open Go.RowKit (Below)
def lstepF(C:Cfg)(fr:LFrame)(H:LHeap):Option (LFrame×LHeap):=
 match lstep C ⟨fr,[],H⟩ with
 |some [⟨fr',[],H'⟩]=>some (fr',H')
 |_=>none
theorem lstepF_iff{C:Cfg}{fr fr':LFrame}{H H':LHeap}:lstepF C fr H=some (fr',H')↔lstep C ⟨fr,[],H⟩=some [⟨fr',[],H'⟩]:=by
 unfold lstepF;constructor
 ·intro h;split at h
  ·rename_i hl;cases h;exact hl
  ·cases h
 ·intro h;rw [h]
theorem afterL_cs{C:Cfg}{fr fr':LFrame}{x:LNext×LHeap}{H':LHeap}(cs:List LFrame)(h:afterL C fr [] x=some ⟨fr',[],H'⟩):afterL C fr cs x=some ⟨fr',cs,H'⟩:=by
 obtain ⟨n,H⟩:=x;cases n with
 |value v=>simp only [afterL,Option.map_eq_some_iff] at h |-;obtain ⟨a,h1,h2⟩:=h;cases h2;exact ⟨_,h1,rfl⟩
 |enter f a=>simp only [afterL,Option.map_eq_some_iff] at h;obtain ⟨a,h1,h2⟩:=h;cases h2
 |defer d=>
  simp only [afterL] at h |-;split at h
  ·cases h
  ·rename_i hr;rw [if_neg hr];simp only [Option.map_eq_some_iff] at h |-;obtain ⟨a,h1,h2⟩:=h;cases h2;exact ⟨_,h1,rfl⟩
 |recover=>
  simp only [afterL] at h |-;split at h
  ·cases h
  ·rename_i hr;rw [if_neg hr];cases hd:fr.deferred with
   |true=>simp [tryRecoverL,hd] at h
   |false=>
    simp only [tryRecoverL,hd,Option.map_eq_some_iff] at h |-;obtain ⟨a,h1,h2⟩:=h;cases h2;exact ⟨_,h1,rfl⟩
 |panic v=>simp only [afterL] at h |-;cases h;rfl
 |round l f t a b=>simp only [afterL] at h;cases h
theorem leaveL_cs{fr fr':LFrame}{H H':LHeap}{j:Option Code}(cs:List LFrame)(h:leaveL fr [] H j=some ⟨fr',[],H'⟩):leaveL fr cs H j=some ⟨fr',cs,H'⟩:=by
 unfold leaveL at h |-;split at h
 ·rename_i hr;split at h
  ·cases h;rfl
  ·cases h;rfl
  ·cases h
 ·split at h
  ·cases h
  ·split at h
   ·cases h
   ·cases h
theorem mapO_one{α β:Type}{f:α->Option β}{l:List α}{b:β}(h:mapO f l=some [b]):∃a,l=[a]/\f a=some b:=by
 cases l with
 |nil=>simp [mapO] at h
 |cons a l=>
  unfold mapO at h;split at h
  ·cases h
  ·rename_i b' hb;split at h
   ·cases h
   ·rename_i bs hbs;cases h;cases l with
    |nil=>exact ⟨a,rfl,hb⟩
    |cons c l=>
     unfold mapO at hbs;split at hbs
     ·cases hbs
     ·split at hbs<;>cases hbs
theorem stepRegion_cs{C:Cfg}{fr0 fr fr':LFrame}{H H':LHeap}{ops:Array Oper}{ρ:Operand->LV}{i:Nat}(cs:List LFrame)(h:stepRegion C ⟨fr0,[],H⟩ ops ρ i fr=some [⟨fr',[],H'⟩]):stepRegion C ⟨fr0,cs,H⟩ ops ρ i fr=some [⟨fr',cs,H'⟩]:=by
 unfold stepRegion at h |-;split at h
 ·cases h
 ·rename_i o ho;split at h
  ·rename_i hw;split at h
   ·rename_i l hl;obtain ⟨a,rfl,ha⟩:=mapO_one h;simp only at hl ha;simp only [hl,mapO,afterL_cs cs ha]
   ·cases h
  ·rename_i hw;split at h
   ·cases h;rfl
   ·cases h
  ·cases h
theorem unwindL_cs{C:Cfg}{fr fr':LFrame}{H H':LHeap}(cs:List LFrame)(h:unwindL C ⟨fr,[],H⟩=some [⟨fr',[],H'⟩]):unwindL C ⟨fr,cs,H⟩=some [⟨fr',cs,H'⟩]:=by
 unfold unwindL at h |-;simp only at h |-;split at h
 ·rename_i d ds hd;split at h
  ·rename_i r hr;split at h
   ·cases h;rfl
   ·cases h
  ·split at h
   ·split at h<;>cases h
   ·cases h
 ·cases h
theorem oneL{r:Option LState}{s:LState}(h:(match r with |some x=>some [x] |none=>none)=some [s]):r=some s:=by
 split at h<;>simp_all
theorem lstepF_ok{C:Cfg}{fr fr':LFrame}{H H':LHeap}(cs:List LFrame)(h:lstepF C fr H=some (fr',H')):lstep C ⟨fr,cs,H⟩=some [⟨fr',cs,H'⟩]:=by
 rw [lstepF_iff] at h;unfold lstep at h |-;simp only at h |-;split at h
 ·rename_i hm;split at h
  ·rename_i ht;have:=leaveL_cs cs (oneL h);simp only [this]
  ·rename_i it k ht;split at h
   ·rename_i c;split at h
    all_goals try (first |(cases h;done) |(cases h;rfl))
    ·split at h<;>first |(cases h;done) |(cases h;rfl)
    ·rename_i id;split at h
     ·cases h;rfl
     ·have:=leaveL_cs cs (oneL h);simp only [this]
    ·rename_i id;split at h
     ·cases h;rfl
     ·have:=leaveL_cs cs (oneL h);simp only [this]
    ·have:=leaveL_cs cs (oneL h);simp only [this]
    ·rename_i ops draw;split at h
     ·rename_i hd;split at h
      ·rename_i hk;cases h;simp [hd,hk]
      ·cases h
     ·rename_i hd;cases h;simp [hd]
    ·split at h
     ·cases h
     ·split at h
      ·split at h
       ·rename_i x hx;have:=afterL_cs cs (oneL h);simp only [this]
       ·cases h
      ·cases h
   all_goals try (first |(cases h;done) |(cases h;rfl))
   ·split at h
    ·cases h;rfl
    ·exact stepRegion_cs cs h
   ·split at h
    ·exact stepRegion_cs cs h
    ·rename_i hp;split at h
     ·rename_i hs;split at h
      ·rename_i hk;cases h;rw [if_pos hs,if_pos hk]
      ·cases h
     ·rename_i hs;rw [if_neg hs];split at h
      ·cases h;rfl
      ·split at h
       ·split at h
        ·rename_i hd;simp only [hd,if_true];exact stepRegion_cs cs h
        ·cases h
       ·cases h
   ·split at h
    ·split at h
     ·split at h
      ·cases h;rfl
      ·cases h
     ·cases h
    ·cases h
   ·split at h
    ·split at h
     ·cases h
     ·cases h;rfl
    ·cases h
 ·exact unwindL_cs cs h
structure Retd (C:Cfg) (f:FuncId) (fr:LFrame) (v:LV) (H:LHeap):Prop where
 fn:fr.fn=f
 mode:fr.mode=.returning
 deferred:fr.deferred=false
 defers:fr.defers=[]
 round:fr.roundOf=none
 res:∃fn vs,C.P.funcs[f]? =some fn/\mapO (resL C H fr.tmps) fn.results.toList=some vs/\v=resV vs
def EndsR(C:Cfg)(f:FuncId)(R:LV->LHeap->Prop)(fr:LFrame)(H:LHeap):Prop:=
 ∀cs p,(∀fr' v H',Retd C f fr' v H'->R v H'->Ends C p ⟨fr',cs,H'⟩)->Ends C p ⟨fr,cs,H⟩
def CallL(C:Cfg)(f:FuncId)(args:List LV)(H:LHeap)(R:LV->LHeap->Prop):Prop:=
 ∃g,enterF C f args false=some g/\EndsR C f R g H
theorem EndsR.mono{C:Cfg}{f:FuncId}{R S:LV->LHeap->Prop}{fr:LFrame}{H:LHeap}(h:EndsR C f R fr H)(hs:∀v H',R v H'->S v H'):EndsR C f S fr H:=
 fun cs p k=>h cs p fun fr' v H' a b=>k fr' v H' a (hs _ _ b)
theorem CallL.mono{C:Cfg}{f:FuncId}{R S:LV->LHeap->Prop}{a:List LV}{H:LHeap}(h:CallL C f a H R)(hs:∀v H',R v H'->S v H'):CallL C f a H S:=by
 obtain ⟨g,h1,h2⟩:=h;exact ⟨g,h1,h2.mono hs⟩
theorem EndsR.stepF{C:Cfg}{f:FuncId}{R:LV->LHeap->Prop}{fr fr':LFrame}{H H':LHeap}(hs:lstepF C fr H=some (fr',H'))(h:EndsR C f R fr' H'):EndsR C f R fr H:=
 fun cs p k=>.step (lstepF_ok cs hs) fun s hm=>by rw [List.mem_singleton.1 hm];exact h cs p k
theorem ret_step{C:Cfg}{f:FuncId}{fr' fr c:LFrame}{v:LV}{H:LHeap}{cs:List LFrame}(h:Retd C f fr' v H)(hf:finishL fr v=some c):lstep C ⟨fr',fr::cs,H⟩=some [⟨c,cs,H⟩]:=by
 obtain ⟨hfn,hm,hdd,hd,hr,fn,vs,h1,h2,rfl⟩:=h;unfold lstep;simp only [hm];unfold unwindL;simp only [hd,hm,hfn,h1,hr,hdd];simp [h2,hf]
theorem CallL.ends{C:Cfg}{f:FuncId}{args:List LV}{H:LHeap}{R:LV->LHeap->Prop}(h:CallL C f args H R){fr:LFrame}{cs:List LFrame}{p:LState->Prop}
  (hk:∀v H',R v H'->∃c,finishL fr v=some c/\Ends C p ⟨c,cs,H'⟩):∃g,enterF C f args false=some g/\Ends C p ⟨g,fr::cs,H⟩:=by
 obtain ⟨g,h1,h2⟩:=h;refine ⟨g,h1,h2 (fr::cs) p fun fr' v H' hr hR=> ?_⟩;obtain ⟨c,hc,he⟩:=hk v H' hR;exact .step (ret_step hr hc) fun s hm=>by rw [List.mem_singleton.1 hm];exact he
def CallP(C:Cfg)(f:FuncId)(args:List LV)(H:LHeap)(R Pn:LV->LHeap->Prop):Prop:=
 ∃g,enterF C f args false=some g/\∀cs p,(∀fr' v H',Retd C f fr' v H'->R v H'->Ends C p ⟨fr',cs,H'⟩)->
  (∀tmps todo v H',Pn v H'->Ends C p ⟨⟨f,tmps,todo,[],.panicking [⟨v,false⟩],false,none⟩,cs,H'⟩)->Ends C p ⟨g,cs,H⟩
theorem CallP.mono{C:Cfg}{f:FuncId}{R S Pn Qn:LV->LHeap->Prop}{a:List LV}{H:LHeap}(h:CallP C f a H R Pn)(hs:∀v H',R v H'->S v H')(hn:∀v H',Pn v H'->Qn v H'):CallP C f a H S Qn:=by
 obtain ⟨g,h1,h2⟩:=h;exact ⟨g,h1,fun cs p k k'=>h2 cs p (fun fr' v H' a b=>k fr' v H' a (hs _ _ b)) fun t d v H' b=>k' t d v H' (hn _ _ b)⟩
theorem pan_step{C:Cfg}{f:FuncId}{tmps:List LV}{todo:List LItem}{c:LFrame}{v:LV}{H:LHeap}{cs:List LFrame}:
 lstep C ⟨⟨f,tmps,todo,[],.panicking [⟨v,false⟩],false,none⟩,c::cs,H⟩=some [⟨raiseL c [⟨v,false⟩],cs,H⟩]:=rfl
theorem CallP.ends{C:Cfg}{f:FuncId}{args:List LV}{H:LHeap}{R Pn:LV->LHeap->Prop}(h:CallP C f args H R Pn){fr:LFrame}{cs:List LFrame}{p:LState->Prop}
  (hk:∀v H',R v H'->∃c,finishL fr v=some c/\Ends C p ⟨c,cs,H'⟩) (hn:∀v H',Pn v H'->Ends C p ⟨raiseL fr [⟨v,false⟩],cs,H'⟩):∃g,enterF C f args false=some g/\Ends C p ⟨g,fr::cs,H⟩:=by
 obtain ⟨g,h1,h2⟩:=h;refine ⟨g,h1,h2 (fr::cs) p (fun fr' v H' hr hR=> ?_) fun t d v H' hv=> ?_⟩
 ·obtain ⟨c,hc,he⟩:=hk v H' hR;exact .step (ret_step hr hc) fun s hm=>by rw [List.mem_singleton.1 hm];exact he
 ·exact .step pan_step fun s hm=>by rw [List.mem_singleton.1 hm];exact hn v H' hv
theorem CallL.top{C:Cfg}{f:FuncId}{args:List LV}{H:LHeap}{R:LV->LHeap->Prop}{Q:LV->Prop}(h:CallL C f args H R)(hQ:∀v H',R v H'->Q v):
  ∃g,enterF C f args false=some g/\Ends C (fun s=>∃v,finalL C f s=some v/\Q v) ⟨g,[],H⟩:=by
 obtain ⟨g,h1,h2⟩:=h;refine ⟨g,h1,h2 [] _ fun fr' v H' hr hR=>.done ⟨v,?_,hQ _ _ hR⟩⟩;obtain ⟨hfn,hm,hdd,hd,hrr,fn,vs,h3,h4,rfl⟩:=hr;unfold finalL;simp only [hm,hd,hdd,hrr,hfn,h3,h4];simp
end Go.Lm

/- What is to be shown of a run with unknown parts: by reckoning. -/
namespace Go.Lm
inductive Sh:Type 1 where
 |any |bool |int (k:IntKind) |str |ptr |slice |agg (l:List Sh) |tuple (l:List Sh)
 |cust (α:Type) (f:α->LV)
mutual
def exSh:Sh->(LV->Prop)->Prop
 | .any,K=>∃v,K v
 | .bool,K=>∃b,K (.bool b)
 | .int k,K=>∃n,K (.int k n)
 | .str,K=>∃s,K (.str s)
 | .ptr,K=>∃a,K (.ptr a)
 | .slice,K=>∃a n c,K (.slice a n c)
 | .agg l,K=>exShs l fun vs=>K (.agg vs)
 | .tuple l,K=>exShs l fun vs=>K (.tuple vs)
 | .cust α f,K=>∃x:α,K (f x)
def exShs:List Sh->(List LV->Prop)->Prop
 |[],K=>K []
 |s::l,K=>exSh s fun v=>exShs l fun vs=>K (v::vs)
end
mutual
def allSh:Sh->(LV->Prop)->Prop
 | .any,K=>∀v,K v
 | .bool,K=>∀b,K (.bool b)
 | .int k,K=>∀n,K (.int k n)
 | .str,K=>∀s,K (.str s)
 | .ptr,K=>∀a,K (.ptr a)
 | .slice,K=>∀a n c,K (.slice a n c)
 | .agg l,K=>allShs l fun vs=>K (.agg vs)
 | .tuple l,K=>allShs l fun vs=>K (.tuple vs)
 | .cust α f,K=>∀x:α,K (f x)
def allShs:List Sh->(List LV->Prop)->Prop
 |[],K=>K []
 |s::l,K=>allSh s fun v=>allShs l fun vs=>K (v::vs)
end
def hasSh(s:Sh)(v:LV):Prop:=exSh s fun w=>v=w
mutual
theorem exSh_some:∀(s:Sh) {K:LV->Prop},exSh s K->∃v,K v
 | .any,_,h=>h
 | .bool,_,⟨b,h⟩=>⟨_,h⟩
 | .int _,_,⟨b,h⟩=>⟨_,h⟩
 | .str,_,⟨b,h⟩=>⟨_,h⟩
 | .ptr,_,⟨b,h⟩=>⟨_,h⟩
 | .slice,_,⟨_,_,_,h⟩=>⟨_,h⟩
 | .agg l,_,h=>by obtain ⟨vs,h⟩:=exShs_some l h;exact ⟨_,h⟩
 | .tuple l,_,h=>by obtain ⟨vs,h⟩:=exShs_some l h;exact ⟨_,h⟩
 | .cust _ _,_,⟨b,h⟩=>⟨_,h⟩
theorem exShs_some:∀(s:List Sh) {K:List LV->Prop},exShs s K->∃v,K v
 |[],_,h=>⟨_,h⟩
 |s::l,_,h=>by obtain ⟨v,h⟩:=exSh_some s h;obtain ⟨vs,h⟩:=exShs_some l h;exact ⟨_,h⟩
end
mutual
theorem allSh_has:∀(s:Sh) {K:LV->Prop} {L:LV->Prop},allSh s K->exSh s L->∃v,K v/\L v
 | .any,_,_,h,⟨v,hl⟩=>⟨v,h v,hl⟩
 | .bool,_,_,h,⟨v,hl⟩=>⟨_,h v,hl⟩
 | .int _,_,_,h,⟨v,hl⟩=>⟨_,h v,hl⟩
 | .str,_,_,h,⟨v,hl⟩=>⟨_,h v,hl⟩
 | .ptr,_,_,h,⟨v,hl⟩=>⟨_,h v,hl⟩
 | .slice,_,_,h,⟨_,_,_,hl⟩=>⟨_,h _ _ _,hl⟩
 | .agg l,_,_,h,hl=>by obtain ⟨vs,h⟩:=allShs_has l h hl;exact ⟨_,h⟩
 | .tuple l,_,_,h,hl=>by obtain ⟨vs,h⟩:=allShs_has l h hl;exact ⟨_,h⟩
 | .cust _ _,_,_,h,⟨v,hl⟩=>⟨_,h v,hl⟩
theorem allShs_has:∀(s:List Sh) {K:List LV->Prop} {L:List LV->Prop},allShs s K->exShs s L->∃v,K v/\L v
 |[],_,_,h,hl=>⟨_,h,hl⟩
 |s::l,_,_,h,hl=>by
  obtain ⟨v,h1,h2⟩:=allSh_has s h hl;obtain ⟨vs,h3,h4⟩:=allShs_has l h1 h2;exact ⟨_,h3,h4⟩
end
theorem allSh_of{s:Sh}{K:LV->Prop}(h:allSh s K){v:LV}(hv:hasSh s v):K v:=by
 obtain ⟨w,h1,rfl⟩:=allSh_has s h hv;exact h1
def adr:Option LAddr->LAddr
 |some a=>a
 |none=>⟨0,0,0⟩
def loadP(P:Program)(H:LHeap)(t:TypeId)(a:Option LAddr)(v:LV):Prop:=
 match a with
 |some a=>loadT P H t a=some v
 |none=>False
def storeP(P:Program)(H:LHeap)(t:TypeId)(a:Option LAddr)(v:LV)(H':LHeap):Prop:=
 match a with
 |some a=>storeT P H t a v=some H'
 |none=>False
def byteAt(s:List UInt8)(n:Int):Int:=((s[n.toNat]?).getD 0).toNat
def subStr(s:List UInt8)(l h:Int):List UInt8:=(s.drop l.toNat).take (h.toNat-l.toNat)
def intO(d:Int):Option LV->Option Int
 |none=>some d
 |some (.int _ n)=>some n
 |some _=>none
def eqW(P:Program):Nat->TypeId->LV->LV->Option Bool
 |0,_,_,_=>none
 |n+1,t,x,y=>
  match P.underlying t with
  |none=>none
  |some d=>match d,x,y with
   | .struct fs,.agg xs,.agg ys=>
    if P.stoodInHeld t then none else go n (fun f u v=>eqW P n f u v) fs.toList xs ys
   | .slice _,.slice a _ _,.slice none _ _=>some a.isNone
   |_,_,_=>eqL P (n+1) t x y
where
 go (n:Nat) (f:TypeId->LV->LV->Option Bool):List Field->List LV->List LV->Option Bool
 |[],_,_=>some true
 |[fd],xs,ys=>
  if fd.name== "_" then none else
  match partT P fd.type xs fd.offset,partT P fd.type ys fd.offset with
  |some x,some y=>f fd.type x y
  |_,_=>none
 |fd::fs,xs,ys=>
  if fd.name== "_" then none else
  match partT P fd.type xs fd.offset,partT P fd.type ys fd.offset with
  |some x,some y=>match f fd.type x y,go n f fs xs ys with
   |some b,some c=>some (b&&c)
   |_,_=>none
  |_,_=>none
def opD(C:Cfg)(ρ:Operand->LV)(H:LHeap)(o:Oper)(K:LV->LHeap->Prop):Prop:=
 match opL C ρ H o with
 |some [(.value v,H')]=>K v H'
 |_=>False
def callW(C:Cfg)(ρ:Operand->LV)(H:LHeap)(c:Call)(sh:Sh)(K:LV->LHeap->Prop):Prop:=
 match resolveL ρ c with
 |some ⟨.fn (.func f) cap,args⟩=>match C.orc f with
  |some r=>exSh sh fun v=>r (args++cap)=some v/\K v H
  |none=>match C.ext f with
   |some e=>exSh sh fun v=>∃H',extL C.P H e (args++cap)=some (v,H')/\K v H'
   |none=>False
 |_=>False
def opW(C:Cfg)(ρ:Operand->LV)(H:LHeap)(o:Oper)(sh:Sh)(K:LV->LHeap->Prop):Prop:=
 match o.op with
 | .pick c a b=>match ρ c,ρ a,ρ b with
  | .bool c,.bool a,.bool b=>K (.bool (cond c a b)) H
  | .bool c,.int k a,.int j b=>match k==j with
   |true=>K (.int k (cond c a b)) H
   |false=>False
  | .bool c,.str a,.str b=>K (.str (cond c a b)) H
  |_,_,_=>opD C ρ H o K
 | .load t a=>match ρ a with
  | .ptr x=>exSh sh fun v=>loadP C.P H t x v/\K v H
  |_=>False
 | .store t a x=>match ρ a with
  | .ptr p=>∃H',storeP C.P H t p (ρ x) H'/\K .undef H'
  |_=>False
 | .nilCheck x=>match ρ x with
  | .ptr a=>a.isSome=true/\K (.ptr (some (adr a))) H
  |_=>opD C ρ H o K
 | .binOp op t x y _=>match ρ x,ρ y with
  | .str a,.str b=>match op with
   | .add=>a.length+b.length<=4611686018427387904/\K (.str (a++b)) H
   |_=>opD C ρ H o K
  | .int k a,.int j b=>match op,k==j with
   | .quo,true=>b≠0/\K (.int k (lwrap k (a.tdiv b))) H
   | .rem,true=>b≠0/\K (.int k (a.tmod b)) H
   |_,_=>opD C ρ H o K
  |u,v=>match op,aggOk C.P t u v (isConstO x) (isConstO y),eqW C.P 50 t u v with
   | .eql,true,some b=>K (.bool b) H
   | .neq,true,some b=>K (.bool (!b)) H
   |_,_,_=>False
 | .indexAddr t x i=>match ρ i with
  | .int _ n=>match C.P.underlying t,ρ x with
   |some (.slice e),.slice a len _=>match sizeOfT C.P e with
    |some z=>(0<=n/\n<len/\a.isSome=true)/\K (.ptr (some ⟨(adr a).id,(adr a).ver,(adr a).off+n.toNat*z⟩)) H
    |none=>False
   |some (.array m e),.ptr a=>match sizeOfT C.P e with
    |some z=>(0<=n/\n<m/\a.isSome=true)/\K (.ptr (some ⟨(adr a).id,(adr a).ver,(adr a).off+n.toNat*z⟩)) H
    |none=>False
   |_,_=>False
  |_=>False
 | .index t x i=>match ρ i,ρ x,C.P.underlying t with
  | .int _ n,.str s,some .string=>(0<=n/\n<s.length)/\K (.int .u8 (byteAt s n)) H
  |_,_,_=>exSh sh fun v=>indexL C.P t (ρ x) (ρ i)=some v/\K v H
 | .slice t x lo hi mx=>match ρ x with
  | .str s=>match C.P.underlying t,intO 0 (optL ρ lo),intO s.length (optL ρ hi),mx with
   |some .string,some l,some h,none=>(0<=l/\l<=h/\h<=s.length)/\K (.str (subStr s l h)) H
   |_,_,_,_=>False
  |_=>exSh sh fun v=>sliceL C.P t (ρ x) (optL ρ lo) (optL ρ hi) (optL ρ mx)=some v/\K v H
 | .convert s d x=>exSh sh fun v=>∃H',convertL C.P H s d (ρ x)=some (v,H')/\K v H'
 | .lookup t x k ok=>exSh sh fun v=>lookupL C.P H t (ρ x) (ρ k) ok=some v/\K v H
 | .mapUpdate t m k x=>∃H',mapUpdateL C.P H t (ρ m) (ρ k) (ρ x)=some H'/\K .undef H'
 | .makeSlice .. =>exSh sh fun v=>∃H',opL C ρ H o=some [(.value v,H')]/\K v H'
 | .next it true=>match ρ it with
  | .ptr (some ⟨r,0,0⟩)=>∃s pos,H.get r=some (.stringIter s pos)/\
   (s.length<=pos->K (.tuple [.bool false]) H)/\
   (pos<s.length->K (.tuple [.bool true,.int .i64 pos,.int .i32 (decodeL (s.drop pos)).1]) (H.put r (.stringIter s (pos+(decodeL (s.drop pos)).2))))
  |_=>False
 | .call c=>match c.callee with
  | .builtin .append=>∃a n k H',appendL C.P H c.argTypes.toList (c.args.toList.map ρ)=some (.slice a n k,H')/\K (.slice a n k) H'
  | .builtin .copy=>∃n H',copyL C.P H c.argTypes.toList (c.args.toList.map ρ)=some (.int .i64 n,H')/\K (.int .i64 n) H'
  | .builtin _=>exSh sh fun v=>∃H',opL C ρ H o=some [(.value v,H')]/\K v H'
  |_=>callW C ρ H c sh K
 |_=>opD C ρ H o K
theorem opD_sound{C:Cfg}{ρ:Operand->LV}{H:LHeap}{o:Oper}{K:LV->LHeap->Prop}(h:opD C ρ H o K):∃v H',opL C ρ H o=some [(.value v,H')]/\K v H':=by
 unfold opD at h;split at h
 ·rename_i v H' hv;exact ⟨_,_,hv,h⟩
 ·exact h.elim
theorem eqGo_spec{P:Program}{n:Nat}{f g:TypeId->LV->LV->Option Bool}(hfg:∀t x y b,f t x y=some b->g t x y=some b):
  ∀{fs:List Field} {xs ys:List LV} {b:Bool},eqW.go P n f fs xs ys=some b->eqL.eqFields P n g fs xs ys=some b
 |[],_,_,b,h=>by simpa [eqW.go,eqL.eqFields] using h
 |[fd],xs,ys,b,h=>by
  simp only [eqW.go] at h;simp only [eqL.eqFields];split at h
  ·cases h
  ·rename_i hn;rw [if_neg hn];split at h
   ·rename_i x y hx hy;simp only [hx,hy];rw [hfg _ _ _ _ h];cases b<;>rfl
   ·cases h
 |fd::fd2::fs,xs,ys,b,h=>by
  unfold eqW.go at h;unfold eqL.eqFields;split at h
  ·cases h
  ·rename_i hn;rw [if_neg hn];split at h
   ·rename_i x y hx hy;simp only [hx,hy];split at h
    ·rename_i c d hc hd;cases h;rw [hfg _ _ _ _ hc];cases c with
     |true=>simpa using eqGo_spec hfg hd
     |false=>rfl
    ·cases h
   ·cases h
theorem eqW_spec{P:Program}:∀(n:Nat) (t:TypeId) (x y:LV) (b:Bool),eqW P n t x y=some b->eqL P n t x y=some b
 |0,_,_,_,_,h=>by simp [eqW] at h
 |n+1,t,x,y,b,h=>by
  unfold eqW at h;split at h
  ·cases h
  ·rename_i d hd;split at h
   ·rename_i fs xs ys;split at h
    ·cases h
    ·rename_i hs;unfold eqL;simp only [hd,hs];simpa using eqGo_spec (fun t x y b=>eqW_spec n t x y b) h
   ·rename_i a _ _ _ _;cases h;unfold eqL;simp only [hd];cases a<;>rfl
   ·exact h
theorem subStr_spec{s:List UInt8}{lo hi:Option LV}{l h:Int}(hl:intO 0 lo=some l)(hh:intO s.length hi=some h)(h1:0<=l)(h2:l<=h)(h3:h<=s.length):sliceStr s lo hi=some (.str (subStr s l h)):=by
 have b1:boundO hi s.length s.length=some h.toNat:=by
  unfold intO at hh;split at hh
  ·cases hh;simp [boundO]
  ·rename_i k n;cases hh;simp only [boundO,bound];cases h with
   |ofNat m=>simp only [Nat.ble_eq];rw [if_pos (by simpa using h3)];rfl
   |negSucc m=>omega
  ·cases hh
 have b2:boundO lo h.toNat 0=some l.toNat:=by
  unfold intO at hl;split at hl
  ·cases hl;simp [boundO]
  ·rename_i k n;cases hl;simp only [boundO,bound];cases l with
   |ofNat m=>simp only [Nat.ble_eq];rw [if_pos (by have h2':(m:Int)<=h:=h2;omega)];rfl
   |negSucc m=>omega
  ·cases hl
 unfold sliceStr;simp only [b1,b2];rw [takeN_of _ _ (by rw [dropN_eq];simp;omega),dropN_eq];rfl
theorem callW_sound{C:Cfg}{ρ:Operand->LV}{H:LHeap}{c:Call}{sh:Sh}{K:LV->LHeap->Prop}(h:callW C ρ H c sh K):
  ∃d v H',resolveL ρ c=some d/\invokeL C H d.target d.args=some (.value v,H')/\K v H':=by
 unfold callW at h;split at h
 ·rename_i f cap args hr;split at h
  ·rename_i r ho;obtain ⟨v,h1,h2⟩:=exSh_some _ h;exact ⟨_,v,H,hr,by simp only [invokeL,enterL,ho,h1],h2⟩
  ·rename_i ho;split at h
   ·rename_i e he;obtain ⟨v,H',h1,h2⟩:=exSh_some _ h;exact ⟨_,v,H',hr,by simp only [invokeL,enterL,ho,he,h1],h2⟩
   ·exact h.elim
 ·exact h.elim
theorem binL_other{P:Program}{op:BinOp}{t:TypeId}{x y:LV}{cx cy:Bool}(n1:∀(s t:List UInt8),x=.str s->y=.str t->False)(n2:∀(k:IntKind) (a:Int) (j:IntKind) (b:Int),x=.int k a->y=.int j b->False):
  binL P op t x y cx cy=match op with
   | .eql=>if aggOk P t x y cx cy then (eqL P 50 t x y).map .bool else none
   | .neq=>if aggOk P t x y cx cy then (eqL P 50 t x y).map fun b=>.bool (!b) else none
   |_=>none:=by
 cases x<;>cases y<;>first |rfl |exact (n1 _ _ rfl rfl).elim |exact (n2 _ _ _ _ rfl rfl).elim
theorem opW_sound{C:Cfg}{ρ:Operand->LV}{H:LHeap}{o:Oper}{sh:Sh}{K:LV->LHeap->Prop}(h:opW C ρ H o sh K):∃v H',opL C ρ H o=some [(.value v,H')]/\K v H':=by
 unfold opW at h;split at h
 ·rename_i c a b ho;split at h
  ·rename_i c a b hc ha hb;refine ⟨_,_,?_,h⟩;simp only [opL,ho,hc,ha,hb];cases c<;>rfl
  ·rename_i c k a j b hc ha hb;split at h
   ·rename_i hk
    replace hk:=eq_of_beq hk
    subst hk;refine ⟨_,_,?_,h⟩;simp only [opL,ho,hc,ha,hb];cases c<;>rfl
   ·exact h.elim
  ·rename_i c a b hc ha hb;refine ⟨_,_,?_,h⟩;simp only [opL,ho,hc,ha,hb];cases c<;>rfl
  ·exact opD_sound h
 ·rename_i t a ho;split at h
  ·rename_i x hx;obtain ⟨v,h1,h2⟩:=exSh_some _ h;unfold loadP at h1;split at h1
   ·exact ⟨v,H,by simp only [opL,ho,hx,h1],h2⟩
   ·exact h1.elim
  ·exact h.elim
 ·rename_i t a x ho;split at h
  ·rename_i p hp;obtain ⟨H',h1,h2⟩:=h;unfold storeP at h1;split at h1
   ·exact ⟨_,H',by simp only [opL,ho,hp,h1],h2⟩
   ·exact h1.elim
  ·exact h.elim
 ·rename_i x ho;split at h
  ·rename_i a ha;obtain ⟨h1,h2⟩:=h;cases a with
   |none=>cases h1
   |some a=>exact ⟨_,_,by simp only [opL,ho,ha];rfl,h2⟩
  ·exact opD_sound h
 ·rename_i op t x y ty ho;split at h
  ·rename_i a b ha hb;split at h
   ·obtain ⟨h1,h2⟩:=h;refine ⟨_,_,?_,h2⟩;simp only [opL,ho,binL,ha,hb,strBin,Nat.ble_eq];rw [if_pos h1]
   ·exact opD_sound h
  ·rename_i k a j b ha hb;split at h
   ·rename_i hk
    replace hk:=eq_of_beq hk
    subst hk;obtain ⟨h1,h2⟩:=h;refine ⟨_,_,?_,h2⟩;simp only [opL,ho,binL,ha,hb,intBin];simp [h1]
   ·rename_i hk
    replace hk:=eq_of_beq hk
    subst hk;obtain ⟨h1,h2⟩:=h;refine ⟨_,_,?_,h2⟩;simp only [opL,ho,binL,ha,hb,intBin];simp [h1]
   ·exact opD_sound h
  ·rename_i n1 n2;split at h
   ·rename_i hg hw;have hq:=eqW_spec _ _ _ _ _ hw;refine ⟨_,_,?_,h⟩;simp only [opL,ho];rw [binL_other n1 n2];simp only [hg,hq];rfl
   ·rename_i hg hw;have hq:=eqW_spec _ _ _ _ _ hw;refine ⟨_,_,?_,h⟩;simp only [opL,ho];rw [binL_other n1 n2];simp only [hg,hq];rfl
   ·exact h.elim
 ·rename_i t x i ho;split at h
  ·rename_i k n hi;split at h
   ·rename_i e a len cp hu hx;split at h
    ·rename_i z hz;obtain ⟨⟨h1,h2,h3⟩,h4⟩:=h;cases a with
     |none=>cases h3
     |some a=>
      refine ⟨_,_,?_,h4⟩;cases n with
      |ofNat m=>
       simp only [opL,ho,hi,hx,indexAddrL,hu,hz,Nat.ble_eq];rw [if_pos (by simp at h2;omega)];rfl
      |negSucc m=>omega
    ·exact h.elim
   ·rename_i m e a hu hx;split at h
    ·rename_i z hz;obtain ⟨⟨h1,h2,h3⟩,h4⟩:=h;cases a with
     |none=>cases h3
     |some a=>
      refine ⟨_,_,?_,h4⟩;cases n with
      |ofNat m=>
       simp only [opL,ho,hi,hx,indexAddrL,hu,hz,Nat.ble_eq];rw [if_pos (by simp at h2;omega)];rfl
      |negSucc m=>omega
    ·exact h.elim
   ·exact h.elim
  ·exact h.elim
 ·rename_i t x i ho;split at h
  ·rename_i k n s hi hx hu;obtain ⟨⟨h1,h2⟩,h4⟩:=h;refine ⟨_,_,?_,h4⟩;cases n with
   |ofNat m=>
    have hm:m<s.length:=by simp at h2;omega
    simp only [opL,ho,hi,hx,indexL,hu,nth_eq,List.getElem?_eq_getElem hm];simp [byteAt,List.getElem?_eq_getElem hm]
   |negSucc m=>omega
  ·obtain ⟨v,h1,h2⟩:=exSh_some _ h;exact ⟨v,H,by simp only [opL,ho,h1],h2⟩
 ·rename_i t x lo hi mx ho;split at h
  ·rename_i s hs;split at h
   ·rename_i l hh hu h1 h2;obtain ⟨⟨a1,a2,a3⟩,h4⟩:=h;refine ⟨_,_,?_,h4⟩;have hn:optL ρ none=none:=rfl;simp only [opL,ho,sliceL,hu,hs,hn,subStr_spec h1 h2 a1 a2 a3];rfl
   ·exact h.elim
  ·obtain ⟨v,h1,h2⟩:=exSh_some _ h;exact ⟨v,H,by simp only [opL,ho,h1],h2⟩
 ·rename_i s d x ho;obtain ⟨v,H',h1,h2⟩:=exSh_some _ h;exact ⟨v,H',by simp only [opL,ho,h1],h2⟩
 ·rename_i t x k ok ho;obtain ⟨v,h1,h2⟩:=exSh_some _ h;exact ⟨v,H,by simp only [opL,ho,h1],h2⟩
 ·rename_i t m k x ho;obtain ⟨H',h1,h2⟩:=h;exact ⟨_,H',by simp only [opL,ho,h1],h2⟩
 ·obtain ⟨v,H',h1,h2⟩:=exSh_some _ h;exact ⟨v,H',h1,h2⟩
 ·rename_i it ho;split at h
  ·rename_i r hr;obtain ⟨s,pos,h1,h2,h3⟩:=h;by_cases hp:pos<s.length
   ·refine ⟨_,_,?_,h3 hp⟩;have hd:s.drop pos≠[]:=by simp;omega
    simp only [opL,ho,hr,nextL,h1,dropN_eq];cases hl:s.drop pos with
    |nil=>exact (hd hl).elim
    |cons a l=>simp
   ·refine ⟨_,_,?_,h2 (by omega)⟩;have hd:s.drop pos=[]:=by simp;omega
    simp only [opL,ho,hr,nextL,h1,dropN_eq,hd];rfl
  ·exact h.elim
 ·rename_i c ho;split at h
  ·rename_i hb;obtain ⟨a,n,k,H',h1,h2⟩:=h;exact ⟨_,H',by simp only [opL,ho,hb,builtinL,h1],h2⟩
  ·rename_i hb;obtain ⟨n,H',h1,h2⟩:=h;exact ⟨_,H',by simp only [opL,ho,hb,builtinL,h1],h2⟩
  ·obtain ⟨v,H',h1,h2⟩:=exSh_some _ h;exact ⟨v,H',h1,h2⟩
  ·rename_i n1 n2 n3;obtain ⟨d,v,H',h1,h2,h3⟩:=callW_sound h;refine ⟨v,H',?_,h3⟩;cases hcal:c.callee with
   |builtin b=>exact (n3 b hcal).elim
   |value f=>simp only [opL,ho,hcal,h1,h2]
   |invoke f m=>simp only [opL,ho,hcal,h1,h2]
 ·exact opD_sound h
end Go.Lm

/- What is to be shown of a frame's run: by reckoning along hints. -/
namespace Go.Lm
def regionNow(C:Cfg)(fr:LFrame):Option (Array Oper×Nat×(Operand->LV)×LFrame):=
 match fr.mode with
 | .run=>match fr.todo with
  | .inRegion ops (i::_)::_=>some (ops,i,evalL C fr.tmps,fr)
  | .drawn ops b tm0 done pend stale::k=>match pickNext C.P ops done pend with
   |some j=>some (ops,j,viewL C ops b j tm0 fr.tmps,{ fr with todo:=.drawn ops b tm0 done (j::dropI j pend) true::k })
   |none=>match stale with
    |true=>none
    |false=>match pend with
     |[]=>none
     |i::rest=>match ops[i]? with
      |some o=>match depsIn o done with
       |true=>some (ops,i,viewL C ops b i tm0 fr.tmps,{ fr with todo:=.drawn ops b tm0 done (i::rest) true::k })
       |false=>none
      |none=>none
  |_=>none
 |_=>none
theorem regionNow_step{C:Cfg}{fr fr':LFrame}{ops:Array Oper}{i:Nat}{ρ:Operand->LV}(h:regionNow C fr=some (ops,i,ρ,fr'))(cs:List LFrame)(H:LHeap):
  lstep C ⟨fr,cs,H⟩=stepRegion C ⟨fr,cs,H⟩ ops ρ i fr':=by
 unfold regionNow at h;split at h
 ·rename_i hm;split at h
  ·rename_i ht;cases h;unfold lstep;simp only [hm,ht]
  ·rename_i ht;split at h
   ·rename_i j hp;cases h;unfold lstep;simp only [hm,ht,hp]
   ·rename_i hp;split at h
    ·cases h
    ·split at h
     ·cases h
     ·split at h
      ·rename_i o ho;split at h
       ·rename_i hd;cases h;unfold lstep;simp only [hm,ht,hp,ho,hd];simp
       ·cases h
      ·cases h
  ·cases h
 ·cases h
theorem set_same{α:Type}{l:List α}{t:Nat}{a:α}(h:nth l t=some a):setNth l t a=l:=by
 rw [setNth_eq];rw [nth_eq] at h;obtain ⟨h1,rfl⟩:=List.getElem?_eq_some_iff.1 h;exact List.set_getElem_self h1
end Go.Lm

/- The memory of a call's beginning as this machine's: every place is an object of its own that is never written. -/
namespace Go.Lm
def mkTree(g:Nat->Option LObj):Nat->Tree LObj
 |0=>.leaf
 |n+1=>match g n with
  |some o=>Tree.set (n+1) (mkTree g n) n o
  |none=>mkTree g n
theorem Tree.get_leaf{α:Type}(n:Nat):(Tree.leaf:Tree α).get n=none:=by unfold Tree.get;rfl
theorem mkTree_get(g:Nat->Option LObj):∀(n j:Nat),(mkTree g n).get j=if j<n then g j else none
 |0,j=>by simp [mkTree,Tree.get_leaf]
 |n+1,j=>by
  unfold mkTree;split
  ·rename_i o ho;rw [Tree.get_set _ _ _ _ _ (Nat.lt_succ_self n),mkTree_get g n j];by_cases hj:j=n
   ·subst hj;simp [ho]
   ·rw [if_neg hj];by_cases hl:j<n
    ·rw [if_pos hl,if_pos (by omega)]
    ·rw [if_neg hl,if_neg (by omega)]
  ·rename_i ho;rw [mkTree_get g n j];by_cases hj:j=n
   ·subst hj;simp [ho]
   ·by_cases hl:j<n
    ·rw [if_pos hl,if_pos (by omega)]
    ·rw [if_neg hl,if_neg (by omega)]
def runOf(c:Array Value)(off:Nat):List Value:=(c.toList.drop off).takeWhile (·.oneCell')
def embA(W:World)(a:Addr):Option LAddr:=
 match a.spot with
 |some _=>none
 |none=>match W.heap[a.block]? with
  |some (.cells c _ _)=>if a.off<=c.size then some ⟨a.off*W.heap.size+a.block,(runOf c a.off).length,0⟩ else none
  |_=>none
def embC(W:World)(dm:LAddr):Value->LV
 | .bool b=>.bool b
 | .int k n=>.int k n
 | .string s=>.str s.data.toList
 | .pointer none=>.ptr none
 | .pointer (some a)=>match embA W a with
  |some b=>.ptr (some b)
  |none=>.junk
 | .slice none 0 0=>.slice none 0 (.exact 0)
 | .slice (some a) n c=>match c with
  |0=>match n with
   |0=>.slice (some ⟨dm.id,dm.ver,0⟩) 0 (.exact 0)
   |_=>.junk
  |c+1=>match embA W a with
   |some b=>if n<=c+1 then .slice (some b) n (.exact (c+1)) else .junk
   |none=>.junk
 | .map none=>.map none
 | .nilFunc=>.nilFunc
 | .nilIface=>.nilIface
 | .agg _=>.lost
 | .tuple _=>.lost
 |_=>.junk
def embV(W:World)(dm:LAddr):Value->LV
 | .agg cs=>.agg (cs.toList.map (embC W dm))
 |v=>embC W dm v
def objAt(W:World)(dm:LAddr)(i:Nat):Option LObj:=
 match W.heap[i%W.heap.size]? with
 |some (.cells c e _)=>if i / W.heap.size<=c.size then
   some (.cells ((runOf c (i / W.heap.size)).map (embC W dm)) e (runOf c (i / W.heap.size)).length (runOf c (i / W.heap.size)).length .none true false)
  else none
 |_=>none
def ghOf(W:World):Gh:=fun i u=>
 match W.heap[i%W.heap.size]? with
 |some (.cells c _ _)=>if i / W.heap.size<=c.size/\u=(runOf c (i / W.heap.size)).length/\i%W.heap.size<W.heap.size then some ⟨i%W.heap.size,(i / W.heap.size:Nat),c.size⟩ else none
 |_=>none
def topOf(W:World):Nat:=W.heap.size*((W.heap.toList.map fun o=>match o with | .cells c _ _=>c.size+1 |_=>0).foldl (·+·) 1)
def heapOf(W:World)(dm:LAddr):LHeap:=⟨topOf W,mkTree (objAt W dm) (topOf W)⟩
theorem foldl_ge:∀(l:List Nat) (k:Nat),k<=l.foldl (·+·) k
 |[],k=>Nat.le_refl _
 |a::l,k=>Nat.le_trans (Nat.le_add_right k a) (foldl_ge l (k+a))
theorem foldl_mem:∀(l:List Nat) (k x:Nat),x∈l->x+k<=l.foldl (·+·) k
 |a::l,k,x,h=>by
  rcases List.mem_cons.1 h with rfl |h
  ·have:=foldl_ge l (k+x);simp only [List.foldl_cons];omega
  ·have:=foldl_mem l (k+a) x h;simp only [List.foldl_cons];omega
theorem id_lt{W:World}{b off:Nat}{c:Array Value}{e:TypeId}{fr:Nat×Nat}(h:W.heap[b]? =some (.cells c e fr))(ho:off<=c.size):
  off*W.heap.size+b<topOf W/\(off*W.heap.size+b)%W.heap.size=b/\(off*W.heap.size+b) / W.heap.size=off:=by
 have hb:b<W.heap.size:=by
  have:=(Array.getElem?_eq_some_iff.1 h).1;exact this
 refine ⟨?_,?_,?_⟩
 ·unfold topOf;have hm:c.size+1∈W.heap.toList.map fun o=>match o with | .cells c _ _=>c.size+1 |_=>0:=by
   rw [List.mem_map];refine ⟨.cells c e fr,?_,rfl⟩;rw [<-Array.getElem?_toList] at h;exact List.mem_of_getElem? h
  have:=foldl_mem _ 1 _ hm;generalize (W.heap.toList.map fun o=>match o with | .cells c _ _=>c.size+1 |_=>0).foldl (·+·) 1=T at this;have h1:W.heap.size*(off+1)<=W.heap.size*T:=Nat.mul_le_mul_left _ (by omega);have h2:W.heap.size*(off+1)=off*W.heap.size+W.heap.size:=by rw [Nat.mul_add,Nat.mul_one,Nat.mul_comm]
  omega
 ·rw [Nat.mul_comm,Nat.mul_add_mod,Nat.mod_eq_of_lt hb]
 ·rw [Nat.mul_comm,Nat.mul_add_div (by omega),Nat.div_eq_of_lt hb];omega
theorem embA_spec{W:World}{a:Addr}{b:LAddr}(h:embA W a=some b):PRel (ghOf W) b a/\ghOf W b.id b.ver≠none:=by
 unfold embA at h;split at h
 ·cases h
 ·rename_i hs;split at h
  ·rename_i c e fr hc;split at h
   ·rename_i ho;cases h;obtain ⟨_,h2,h3⟩:=id_lt hc ho;have hb:a.block<W.heap.size:=(Array.getElem?_eq_some_iff.1 hc).1;have hg:ghOf W (a.off*W.heap.size+a.block) (runOf c a.off).length=some ⟨a.block,(a.off:Nat),c.size⟩:=by
     unfold ghOf;rw [h2,h3];simp only [hc];exact if_pos ⟨ho,trivial,hb⟩
    refine ⟨⟨_,hg,by simp,?_⟩,by simp only;rw [hg];simp⟩;obtain ⟨ab,ao,as⟩:=a;simp only at hs;subst hs;simp
   ·cases h
  ·cases h
theorem embC_rel{W:World}{dm:LAddr}(hd:ghOf W dm.id dm.ver≠none)(v:Value):VRel (ghOf W) (embC W dm v) v:=by
 cases v with
 |bool b=>exact .bool b
 |int _ n=>exact .int _ n
 |string s=>exact .str s rfl
 |pointer a=>cases a with
  |none=>exact .nilptr
  |some a=>
   simp only [embC];split
   ·rename_i b hb;exact .ptr (embA_spec hb).1
   ·exact .junk rfl
 |slice a n c=>cases a with
  |none=>
   cases n<;>cases c<;>first |exact .nilslice |exact .junk rfl
  |some a=>
   cases c with
   |zero=>
    cases n with
    |zero=>
     refine .slice (fun h=>absurd h (by omega)) ?_ (Nat.le_refl _);exact Option.ne_none_iff_exists'.1 hd
    |succ n=>exact .junk rfl
   |succ c=>
    simp only [embC];split
    ·rename_i b hb;split
     ·rename_i hn;exact .slice (fun _=>(embA_spec hb).1) (Option.ne_none_iff_exists'.1 (embA_spec hb).2) hn
     ·exact .junk rfl
    ·exact .junk rfl
 |map r=>cases r with
  |none=>exact .nilmap
  |some r=>exact .junk rfl
 |nilFunc=>exact .nilFunc
 |nilIface=>exact .nilIface
 |agg cs=>exact .lost _
 |tuple cs=>exact .lost _
 |_=>exact .junk rfl
theorem embV_rel{W:World}{dm:LAddr}(hd:ghOf W dm.id dm.ver≠none)(v:Value):VRel (ghOf W) (embV W dm v) v:=by
 cases v with
 |agg cs=>
  refine .agg ?_;have:=VRels.map (ι:=ghOf W) (f:=embC W dm) (g:=fun v:Value=>v) (l:=cs.toList) fun a _=>embC_rel hd a;simpa using this
 |_=>simpa only [embV] using embC_rel hd _
theorem embC_cell{W:World}{dm:LAddr}{v:Value}(h:v.oneCell'=true):(embC W dm v).isCell=true:=by
 cases v with
 |pointer a=>cases a with
  |none=>rfl
  |some a=>simp only [embC];split<;>rfl
 |slice a n c=>cases a with
  |none=>cases n<;>cases c<;>rfl
  |some a=>cases c with
   |zero=>cases n<;>rfl
   |succ c=>
    simp only [embC];split
    ·split<;>rfl
    ·rfl
 |map r=>cases r<;>rfl
 |agg cs=>cases h
 |tuple cs=>cases h
 |_=>rfl
theorem runOf_get{c:Array Value}{off j:Nat}{v:Value}(h:(runOf c off)[j]? =some v):c[off+j]? =some v/\v.oneCell'=true:=by
 unfold runOf at h;have hp:(c.toList.drop off).takeWhile (·.oneCell') <+:c.toList.drop off:=List.takeWhile_prefix _;have hm:=List.mem_of_getElem? h;refine ⟨?_,?_⟩
 ·obtain ⟨t,ht⟩:=hp;have:(c.toList.drop off)[j]? =some v:=by
   rw [<-ht,List.getElem?_append_left (List.getElem?_eq_some_iff.1 h).1];exact h
  rw [List.getElem?_drop] at this;rw [<-Array.getElem?_toList];exact this
 ·have:=List.all_takeWhile (p:=(·.oneCell')) (l:=c.toList.drop off);rw [List.all_eq_true] at this;exact this v hm
theorem runOf_len(c:Array Value)(off:Nat)(ho:off<=c.size):off+(runOf c off).length<=c.size:=by
 unfold runOf;have:=(List.takeWhile_prefix (p:=(·.oneCell')) (l:=c.toList.drop off)).length_le;simp only [List.length_drop,Array.length_toList] at this;omega
theorem heapOf_get{W:World}{dm:LAddr}{i:Nat}(hi:i<topOf W):(heapOf W dm).get i=objAt W dm i:=by
 unfold heapOf LHeap.get;rw [mkTree_get,if_pos hi]
theorem load_zero{W:World}{dm:LAddr}(hd:ghOf W dm.id dm.ver≠none):loadN (heapOf W dm) ⟨dm.id,dm.ver,0⟩ 0=some []:=by
 unfold ghOf at hd;split at hd
 ·rename_i c e fr hc;split at hd
  ·rename_i hh;obtain ⟨h1,h2,h3⟩:=hh;have hi:dm.id=dm.id / W.heap.size*W.heap.size+dm.id%W.heap.size:=(Nat.div_add_mod' dm.id W.heap.size).symm;have ht:dm.id<topOf W:=by
    have:=(id_lt hc h1).1;rw [<-hi] at this;exact this
   unfold loadN;simp only [heapOf_get ht];unfold objAt;simp only [hc,h1,if_true];rw [if_pos (by simp only [Bool.and_eq_true,Nat.ble_eq];exact ⟨by rw [<-h2];exact Nat.le_refl _,Nat.zero_le _⟩)];rfl
  ·exact absurd rfl hd
 ·exact absurd rfl hd
theorem open_heap{W:World}{dm:LAddr}(hd:ghOf W dm.id dm.ver≠none):HRel (ghOf W) (heapOf W dm) W W.heap.size:=by
 have key:∀i u l,ghOf W i u=some l->∃c e fr,W.heap[i%W.heap.size]? =some (.cells c e fr)/\i / W.heap.size<=c.size/\u=(runOf c (i / W.heap.size)).length/\l=⟨i%W.heap.size,(i / W.heap.size:Nat),c.size⟩/\
   (heapOf W dm).get i=some (.cells ((runOf c (i / W.heap.size)).map (embC W dm)) e (runOf c (i / W.heap.size)).length (runOf c (i / W.heap.size)).length .none true false)/\i<topOf W/\i%W.heap.size<W.heap.size:=by
  intro i u l h;unfold ghOf at h;split at h
  ·rename_i c e fr hc;split at h
   ·rename_i hh;obtain ⟨h1,h2,h3⟩:=hh;cases h;have hi:i=i / W.heap.size*W.heap.size+i%W.heap.size:=(Nat.div_add_mod' i W.heap.size).symm;have ht:i<topOf W:=by
     have:=(id_lt hc h1).1;rw [<-hi] at this;exact this
    refine ⟨c,e,fr,hc,h1,h2,rfl,?_,ht,h3⟩;rw [heapOf_get ht];unfold objAt;simp only [hc];rw [if_pos h1]
   ·cases h
  ·cases h
 refine ⟨?_,?_,?_,Nat.le_refl _⟩
 ·intro i u l h;obtain ⟨c,e,fr,h1,h2,h3,rfl,h5,h6,h7⟩:=key i u l h;refine ⟨h6,h7,_,h5,by simp,Nat.le_refl _,?_,⟨_,h3▸h⟩,(fun h=>by cases h),?_,?_⟩
  ·rw [allCells_iff];intro v hv;obtain ⟨w,hw,rfl⟩:=List.mem_map.1 hv;obtain ⟨j,hj,rfl⟩:=List.mem_iff_getElem.1 hw;exact embC_cell (runOf_get (List.getElem?_eq_getElem hj)).2
  ·intro u' l' h';obtain ⟨c',e',fr',k1,k2,k3,rfl,_⟩:=key i u' l' h';rw [h1] at k1;cases k1;refine ⟨by omega,fun _=>⟨c,fr,h1,rfl,?_,(fun h=>by cases h),(fun h=>by cases h),?_⟩⟩
   ·have:=runOf_len c (i / W.heap.size) h2;simp only;omega
   ·intro j x hx hj h0;rw [List.getElem?_map,Option.map_eq_some_iff] at hx;obtain ⟨v,hv,rfl⟩:=hx;refine ⟨v,?_,embC_rel hd v⟩;have hz:∀q:Nat,((j:Int)+(q:Int)).toNat=q+j:=fun q=>by omega
    show c[((j:Int)+((i / W.heap.size:Nat):Int)).toNat]? =some v;rw [hz];exact (runOf_get hv).1
  ·intro u' u'' l' l'' h' h'' _;obtain ⟨c',e',fr',k1,k2,k3,rfl,_⟩:=key i u' l' h';obtain ⟨c2,e2,fr2,m1,m2,m3,rfl,_⟩:=key i u'' l'' h'';rw [k1] at m1;cases m1;rfl
 ·intro i u l j v m h1 h2 _ _;obtain ⟨c,e,fr,_,_,_,_,a,_⟩:=key i u l h1;obtain ⟨c',e',fr',_,_,_,_,b,_⟩:=key j v m h2;exact ⟨⟨_,_,_,_,_,_,a⟩,⟨_,_,_,_,_,_,b⟩⟩
 ·intro i u l h;obtain ⟨c,e,fr,_,_,_,_,a,_⟩:=key i u l h;exact .inl ⟨_,_,_,_,_,_,a⟩
end Go.Lm

/- What of the claim's data is read in this machine's memory. -/
namespace Go.Lm
inductive D where
 |bool (b:Bool)
 |int (k:IntKind) (n:Int)
 |str (s:List UInt8)
 |nil
 |slice (l:List D)
 |agg (l:List D)
 |other
inductive Rep (P:Program) (H:LHeap):TypeId->List LV->D->Prop
 |bool {t:TypeId} (ht:P.underlying t=some .bool) (b:Bool):Rep P H t [.bool b] (.bool b)
 |int {t:TypeId} {k:IntKind} (ht:P.underlying t=some (.int k)) (n:Int) (hn:k.min<=n/\n<=k.max):Rep P H t [.int k n] (.int k n)
 |str {t:TypeId} (ht:P.underlying t=some .string) (s:List UInt8) (hs:s.length<=maxLen):Rep P H t [.str s] (.str s)
 |nil {t e:TypeId} (ht:P.underlying t=some (.slice e)):Rep P H t [.slice none 0 (.exact 0)] .nil
 |slice {t e:TypeId} (ht:P.underlying t=some (.slice e)) (a:LAddr) (l:List D) (c:Nat) (hc:l.length<=c) (hm:c<=maxLen) (h0:loadN H a 0=some []) (xs:Nat->List LV)
  (hx:∀i,i<l.length->loadN H ⟨a.id,a.ver,a.off+i*P.cellsOf e⟩ (P.cellsOf e)=some (xs i)) (hr:∀(i:Nat) (d:D),l[i]? =some d->Rep P H e (xs i) d):Rep P H t [.slice (some a) l.length (.exact c)] (.slice l)
 |struct {t:TypeId} {fs:Array Field} (ht:P.underlying t=some (.struct fs)) (cs:List LV) (l:List D) (hc:cs.length=P.cellsOf t) (hl:l.length=fs.size)
  (hf:∀(i:Nat) (f:Field) (d:D),fs[i]? =some f->l[i]? =some d->Rep P H f.type ((cs.drop f.offset).take (P.cellsOf f.type)) d):Rep P H t cs (.agg l)
 |array {t e:TypeId} {n:Nat} (ht:P.underlying t=some (.array n e)) (cs:List LV) (l:List D) (hc:cs.length=P.cellsOf t) (hl:l.length=n)
  (hf:∀(i:Nat) (d:D),l[i]? =some d->Rep P H e ((cs.drop (i*P.cellsOf e)).take (P.cellsOf e)) d):Rep P H t cs (.agg l)
 |other {t:TypeId} (c:LV) (h:match P.underlying t with
  |some .bool |some (.int _) |some .string |some (.slice _) |some (.struct _) |some (.array _ _)=>False
  |_=>True):Rep P H t [c] .other
def covers(P:Program)(d:Option TypeDesc)(n:Nat):Bool:=
 match d with
 |some (.struct fs)=>(fs.toList.all fun f=>Nat.ble (f.type+1) P.types.size)&&(List.range n).all fun i=>fs.toList.any fun f=>Nat.ble f.offset i&&Nat.ble (i+1) (f.offset+P.cellsOf f.type)
 |some (.array m e)=>Nat.ble (e+1) P.types.size&&Nat.beq n (m*P.cellsOf e)
 |some (.slice e)=>Nat.ble (e+1) P.types.size&&Nat.ble 1 (P.cellsOf e)
 |_=>true
def coversAll(P:Program):Bool:=(List.range P.types.size).all fun t=>covers P (P.underlying t) (P.cellsOf t)
theorem cov_at{P:Program}(h:coversAll P=true){t:TypeId}(ht:t<P.types.size):covers P (P.underlying t) (P.cellsOf t)=true:=by
 unfold coversAll at h;rw [List.all_eq_true] at h;exact h t (List.mem_range.2 ht)
section
variable {H:Type} {enc:TypeId×Value->H} {P:Program} {W:World} {base:Nat} {spare:Nat->Bool} {held:Bool}
theorem trod_cell{n:Nat}{t:TypeId}{cs:List Value}{x:DataW H×List MemPlace}(h:DataW.trod enc P W base spare held n t cs=some x)(hs:¬∃fs,P.underlying t=some (.struct fs))(ha:¬∃m e,P.underlying t=some (.array m e)):
  ∃w,cs=[w]/\w.oneCell'=true:=by
 cases n with
 |zero=>simp [DataW.trod] at h
 |succ n=>
  rw [DataW.trod_step] at h;unfold DataW.trodStep at h;split at h
  all_goals try exact ⟨_,rfl,rfl⟩
  ·rename_i hh;exact (hs ⟨_,hh⟩).elim
  ·rename_i hh;exact (ha ⟨_,_,hh⟩).elim
  ·cases h
theorem trod_one(hP:coversAll P=true):∀(fuel:Nat) (t:TypeId) (ht:t<P.types.size) (cs:List Value) (x:DataW H×List MemPlace),DataW.trod enc P W base spare held fuel t cs=some x->∀v∈cs,v.oneCell'=true
 |0,_,_,_,_,h=>by simp [DataW.trod] at h
 |n+1,t,ht,cs,x,h=>by
  intro v hv;by_cases hs:∃fs,P.underlying t=some (.struct fs)
  ·obtain ⟨fs,hs⟩:=hs;obtain ⟨xs,m,hm,rfl,hl,hlen,hf⟩:=DataW.trod_struct hs h;cases hm;have hc:=cov_at hP ht;rw [hs] at hc;simp only [covers,Bool.and_eq_true] at hc;obtain ⟨hft,hc⟩:=hc;simp only [List.all_eq_true,List.any_eq_true,Bool.and_eq_true,Nat.ble_eq,List.mem_range] at hc;obtain ⟨j,hj,rfl⟩:=List.mem_iff_getElem.1 hv;obtain ⟨f,hfm,h1,h2⟩:=hc j (by omega);obtain ⟨i,hi,rfl⟩:=List.mem_iff_getElem.1 hfm;have hi':i<fs.size:=by simpa using hi
   have hfi:fs[i]? =some fs.toList[i]:=by simp [Array.getElem?_eq_getElem hi']
   have:=hf i _ hfi;have hxi:i<xs.length:=by omega
   rw [List.getElem?_eq_getElem hxi] at this;rw [List.all_eq_true] at hft;have hfl:=hft _ hfm;rw [Nat.ble_eq] at hfl;refine trod_one hP n _ hfl _ _ this _ ?_;rw [List.mem_iff_getElem];refine ⟨j-fs.toList[i].offset,by simp only [List.length_take,List.length_drop];omega,?_⟩;simp only [List.getElem_take,List.getElem_drop];congr 1;omega
  ·by_cases ha:∃m e,P.underlying t=some (.array m e)
   ·obtain ⟨k,e,ha⟩:=ha;obtain ⟨xs,m,hm,rfl,hl,hlen,hf⟩:=DataW.trod_array ha h;cases hm;have hc:=cov_at hP ht;rw [ha] at hc;simp only [covers,Bool.and_eq_true,Nat.beq_eq,Nat.ble_eq] at hc;obtain ⟨hel,hc⟩:=hc;obtain ⟨j,hj,rfl⟩:=List.mem_iff_getElem.1 hv;have hz:0<P.cellsOf e:=by
     rcases Nat.eq_zero_or_pos (P.cellsOf e) with h0 |h0
     ·rw [h0,Nat.mul_zero] at hc;omega
     ·exact h0
    have hjk:j / P.cellsOf e<k:=by
     rw [Nat.div_lt_iff_lt_mul hz];omega
    have:=hf _ hjk;rw [List.getElem?_eq_getElem (by omega)] at this;refine trod_one hP n _ hel _ _ this _ ?_;rw [List.mem_iff_getElem];have hm:=Nat.div_add_mod' j (P.cellsOf e);have hlt:=Nat.mod_lt j hz;refine ⟨j%P.cellsOf e,by simp only [List.length_take,List.length_drop];omega,?_⟩;simp only [List.getElem_take,List.getElem_drop];congr 1
   ·have h1:=trod_cell h hs ha;obtain ⟨w,rfl,hw⟩:=h1;rw [List.mem_singleton.1 hv];exact hw
theorem cells?_get{a:Addr}{n:Nat}{cs:List Value}(h:W.cells? base a n=some cs):cs.length=n/\∀j v,cs[j]? =some v->W.cell? (a.add j)=some v:=by
 unfold World.cells? at h;split at h
 ·have hm:∀(l:List Nat) (cs:List Value),l.mapM (fun i=>W.cell? (a.add i))=some cs->cs.length=l.length/\∀(j i:Nat) (v:Value),l[j]? =some i->cs[j]? =some v->W.cell? (a.add i)=some v:=by
   intro l;induction l with
   |nil=>intro cs h;simp at h;subst h;simp
   |cons i l ih=>
    intro cs h;simp only [List.mapM_cons,Option.bind_eq_bind,Option.bind_eq_some_iff,Option.pure_def,Option.some.injEq] at h;obtain ⟨v,hv,vs,hvs,rfl⟩:=h;obtain ⟨h1,h2⟩:=ih vs hvs;refine ⟨by simp [h1],fun j k w hj hw=> ?_⟩;cases j with
    |zero=>simp at hj hw;subst hj;subst hw;exact hv
    |succ j=>simp at hj hw;exact h2 j k w hj hw
  obtain ⟨h1,h2⟩:=hm _ _ h;simp only [List.length_range] at h1;refine ⟨h1,fun j v hv=>h2 j j v ?_ hv⟩;have:=(List.getElem?_eq_some_iff.1 hv).1;rw [List.getElem?_range (by omega)]
 ·cases h
theorem run_ge{c:Array Value}{off n:Nat}(h:∀j,j<n->∃v,c[off+j]? =some v/\v.oneCell'=true):n<=(runOf c off).length:=by
 unfold runOf;have hl:n<=(c.toList.drop off).length:=by
  rcases Nat.eq_zero_or_pos n with rfl |hn
  ·exact Nat.zero_le _
  ·obtain ⟨v,hv,_⟩:=h (n-1) (by omega);have:=(Array.getElem?_eq_some_iff.1 hv).1;simp only [List.length_drop,Array.length_toList];omega
 have h':∀j,j<n->∃v,(c.toList.drop off)[j]? =some v/\v.oneCell'=true:=fun j hj=>by
  obtain ⟨v,hv,h1⟩:=h j hj;exact ⟨v,by rw [List.getElem?_drop,Array.getElem?_toList];exact hv,h1⟩
 generalize c.toList.drop off=l at hl h';induction l generalizing n with
 |nil=>simpa using hl
 |cons v l ih=>
  cases n with
  |zero=>exact Nat.zero_le _
  |succ n=>
   obtain ⟨w,hw,h1⟩:=h' 0 (by omega);simp at hw;subst hw;rw [List.takeWhile_cons,if_pos h1];have:=ih (n:=n) (fun j hj=>by
    obtain ⟨v,hv,h2⟩:=h (j+1) (by omega);exact h j (by omega)) (by simpa using hl) fun j hj=>by
     obtain ⟨v,hv,h2⟩:=h' (j+1) (by omega);exact ⟨v,by simpa using hv,h2⟩
   simp only [List.length_cons];omega
theorem add_spot{a:Addr}{n:Nat}(h:n≠0\/a.spot=none):a.add n=⟨a.block,a.off+n,none⟩:=by
 obtain ⟨b,o,s⟩:=a;unfold Addr.add;split
 ·rename_i hn;subst hn;rcases h with h |h
  ·exact absurd rfl h
  ·simp only at h;subst h;rfl
 ·rfl
theorem add_add(a:Addr)(n m:Nat):(a.add n).add m=a.add (n+m):=by
 obtain ⟨b,o,s⟩:=a;unfold Addr.add;by_cases h1:n=0
 ·subst h1;simp
 ·by_cases h2:m=0
  ·subst h2;simp [h1]
  ·simp [h1,h2,Nat.add_assoc]
theorem load_emb{dm:LAddr}{a:Addr}{n:Nat}{vs:Nat->Value}(hn:0<n)(h:∀j,j<n->W.cell? (a.add j)=some (vs j)/\(vs j).oneCell'=true):
  ∃b,embA W a=some b/\∀o m,o+m<=n->loadN (heapOf W dm) ⟨b.id,b.ver,b.off+o⟩ m=some ((List.range m).map fun j=>embC W dm (vs (o+j))):=by
 have hs:a.spot=none:=by
  have:=(h 0 hn).1;unfold Addr.add at this;simp only [if_true] at this;unfold World.cell? at this;split at this
  ·split at this
   ·cases this
   ·rename_i hh;simpa using hh
  ·cases this
 have hc:∃c e fr,W.heap[a.block]? =some (.cells c e fr)/\∀j,j<n->c[a.off+j]? =some (vs j):=by
  have h0:=(h 0 hn).1;rw [add_spot (.inr hs)] at h0;unfold World.cell? at h0;split at h0
  ·rename_i c e fr hc;refine ⟨c,e,fr,hc,fun j hj=> ?_⟩;have hj':=(h j hj).1;rw [add_spot (.inr hs)] at hj';unfold World.cell? at hj';simp only [hc] at hj';simpa using hj'
  ·cases h0
 obtain ⟨c,e,fr,hc,hv⟩:=hc;have ho:a.off<=c.size:=by
  have:=(Array.getElem?_eq_some_iff.1 (hv 0 hn)).1;omega
 have hrun:=run_ge (c:=c) (off:=a.off) (n:=n) fun j hj=>⟨_,hv j hj,(h j hj).2⟩;obtain ⟨i1,i2,i3⟩:=id_lt hc ho;refine ⟨⟨a.off*W.heap.size+a.block,(runOf c a.off).length,0⟩,?_,fun o m hm=> ?_⟩
 ·unfold embA;rw [hs];simp only [hc];rw [if_pos ho]
 ·unfold loadN;simp only [heapOf_get i1];unfold objAt;rw [i2,i3];simp only [hc];rw [if_pos ho];simp only [Nat.zero_add,Bool.and_eq_true,Nat.ble_eq];rw [if_pos ⟨Nat.le_refl _,by omega⟩,dropN_eq,takeN_of _ _ (by simp;omega)];congr 1;apply List.ext_getElem?;intro j;rw [List.getElem?_take,List.getElem?_map];by_cases hj:j<m
  ·rw [if_pos hj,List.getElem?_drop,List.getElem?_map,List.getElem?_range hj];have hlt:o+j<(runOf c a.off).length:=by omega
   rw [List.getElem?_eq_getElem hlt];have hg:=(runOf_get (List.getElem?_eq_getElem hlt)).1;have hg2:=hv (o+j) (by omega);rw [hg] at hg2;have hg3:=Option.some.inj hg2;simp only [Option.map_some,hg3]
  ·rw [if_neg hj,List.getElem?_eq_none (by simp;omega)];rfl
end
end Go.Lm

/- Frames whose own boxes are known: what is to be shown, by reckoning along hints. -/
namespace Go.Lm
inductive SV where
 |lv (v:LV)
 |own (k off:Nat)
structure Slot where
 id:Nat
 cs:List LV
 e:TypeId
def Slot.obj(s:Slot):LObj:=.cells s.cs s.e s.cs.length s.cs.length .none false true
def denF(kn:List Slot):SV->LV
 | .lv v=>v
 | .own k off=>match nth kn k with
  |some s=>.ptr (some ⟨s.id,s.cs.length,off⟩)
  |none=>.lost
def inR(n:Nat):SV->Bool
 | .lv _=>true
 | .own k _=>Nat.ble (k+1) n
def LObj.fixed:LObj->Bool
 | .cells _ _ _ _ _ ro wh=>ro||wh
 |_=>true
structure Keep (H H':LHeap) (i:Nat):Prop where
 get:H'.get i=H.get i
theorem Keep.fixed{H H':LHeap}{i:Nat}(h:Keep H H' i)(o:LObj)(a:H.get i=some o)(_:o.fixed=true):H'.get i=some o:=by rw [h.get];exact a
theorem Keep.loads{H H':LHeap}{i:Nat}(h:Keep H H' i)(a:LAddr)(n:Nat)(cs:List LV)(e:a.id=i)(l:loadN H a n=some cs):loadN H' a n=some cs:=by
 subst e;unfold loadN at l |-;rw [h.get];exact l
structure PresX (X:List Nat) (H H':LHeap):Prop where
 next:H.next<=H'.next
 keep:∀i,i<H.next->i∉X->Keep H H' i
theorem Keep.refl(H:LHeap)(i:Nat):Keep H H i:=⟨rfl⟩
theorem Keep.trans{H I J:LHeap}{i:Nat}(h:Keep H I i)(k:Keep I J i):Keep H J i:=⟨k.get.trans h.get⟩
theorem Keep.of_get{H H':LHeap}{i:Nat}(h:H'.get i=H.get i):Keep H H' i:=⟨h⟩
theorem PresX.refl(X:List Nat)(H:LHeap):PresX X H H:=⟨Nat.le_refl _,fun i _ _=>.refl H i⟩
theorem PresX.trans{X Y:List Nat}{H I J:LHeap}(h:PresX X H I)(k:PresX Y I J)(hY:∀i∈Y,i∈X\/H.next<=i):PresX X H J:=
 ⟨Nat.le_trans h.next k.next,fun i hi hx=>(h.keep i hi hx).trans (k.keep i (Nat.lt_of_lt_of_le hi h.next) fun hy=>by
  rcases hY i hy with h |h
  ·exact hx h
  ·omega)⟩
theorem PresX.trans0{X:List Nat}{H I J:LHeap}(h:PresX X H I)(k:PresX [] I J):PresX X H J:=h.trans k (fun i hi=>by cases hi)
theorem PresX.mono{X Y:List Nat}{H I:LHeap}(h:PresX X H I)(hs:∀i∈X,i∈Y):PresX Y H I:=⟨h.next,fun i hi hx=>h.keep i hi fun hm=>hx (hs i hm)⟩
theorem PresX.push(X:List Nat)(H:LHeap)(o:LObj):PresX X H (H.push o):=
 ⟨Nat.le_succ _,fun i hi _=>.of_get (by rw [LHeap.get_push,if_neg (Nat.ne_of_lt hi)])⟩
theorem PresX.put(H:LHeap)(i:Nat)(o:LObj):PresX [i] H (H.put i o):=
 ⟨Nat.le_refl _,fun j _ hx=>.of_get (by rw [LHeap.get_put,if_neg];rintro rfl;exact hx List.mem_cons_self)⟩
structure Inv (X:List Nat) (H0:LHeap) (kn:List Slot) (H:LHeap):Prop where
 pres:PresX X H0 H
 slot:∀(k:Nat) (s:Slot),nth kn k=some s->s.id<H.next/\H.get s.id=some s.obj/\(s.id∈X\/H0.next<=s.id)
 apart:∀(j k:Nat) (s t:Slot),nth kn j=some s->nth kn k=some t->j≠k->s.id≠t.id
def okId(X:List Nat)(H0:LHeap)(kn:List Slot)(i:Nat):Prop:=(i∈X\/H0.next<=i)/\∀(k:Nat) (s:Slot),nth kn k=some s->s.id≠i
theorem Inv.on{X Y:List Nat}{H0 H H':LHeap}{kn:List Slot}(h:Inv X H0 kn H)(k:PresX Y H H')(hY:∀i∈Y,okId X H0 kn i):Inv X H0 kn H':=
 ⟨h.pres.trans k fun i hi=>(hY i hi).1,fun j s hs=>by
  obtain ⟨h1,h2,h3⟩:=h.slot j s hs;refine ⟨Nat.lt_of_lt_of_le h1 k.next,(k.keep s.id h1 fun hm=>(hY _ hm).2 j s hs rfl).fixed _ h2 (by simp [Slot.obj,LObj.fixed]),h3⟩,h.apart⟩
theorem nth_append{α:Type}{l:List α}{k:Nat}(h:k<l.length)(m:List α):nth (l++m) k=nth l k:=by
 rw [nth_eq,nth_eq,List.getElem?_append_left h]
theorem Inv.box{X:List Nat}{H0 H:LHeap}{kn:List Slot}(h:Inv X H0 kn H)(cs:List LV)(e:TypeId):Inv X H0 (kn++[⟨H.next,cs,e⟩]) (H.push (.cells cs e cs.length cs.length .none false true)):=by
 refine ⟨h.pres.trans0 (.push _ _ _),fun k s hs=> ?_,fun j k s t hs ht hjk=> ?_⟩
 ·rw [nth_eq] at hs;by_cases hk:k<kn.length
  ·rw [List.getElem?_append_left hk,<-nth_eq] at hs;obtain ⟨h1,h2,h3⟩:=h.slot k s hs;exact ⟨Nat.lt_succ_of_lt h1,by rw [LHeap.get_push,if_neg (Nat.ne_of_lt h1)];exact h2,h3⟩
  ·rw [List.getElem?_append_right (by omega)] at hs;have:=(List.getElem?_eq_some_iff.1 hs).1;simp at this;rw [this] at hs;simp at hs;subst hs;exact ⟨Nat.lt_succ_self _,by rw [LHeap.get_push,if_pos rfl];rfl,.inr h.pres.next⟩
 ·have old:∀k s,nth (kn++[⟨H.next,cs,e⟩]) k=some s->(k<kn.length/\nth kn k=some s)\/(k=kn.length/\s=⟨H.next,cs,e⟩):=by
   intro k s hs;rw [nth_eq] at hs;by_cases hk:k<kn.length
   ·rw [List.getElem?_append_left hk,<-nth_eq] at hs;exact .inl ⟨hk,hs⟩
   ·rw [List.getElem?_append_right (by omega)] at hs;have:=(List.getElem?_eq_some_iff.1 hs).1;simp at this;rw [this] at hs;simp at hs;exact .inr ⟨by omega,hs.symm⟩
  rcases old j s hs with ⟨_,a⟩ |⟨a1,rfl⟩<;>rcases old k t ht with ⟨_,b⟩ |⟨b1,rfl⟩
  ·exact h.apart j k s t a b hjk
  ·exact Nat.ne_of_lt (h.slot j s a).1
  ·exact fun e=>Nat.ne_of_lt (h.slot k t b).1 e.symm
  ·omega
theorem nth_set{α:Type}(l:List α)(k j:Nat)(a:α):nth (setNth l k a) j=if j=k/\k<l.length then some a else nth l j:=by
 rw [nth_eq,nth_eq,setNth_eq,List.getElem?_set];by_cases h:k=j
 ·subst h;by_cases hl:k<l.length
  ·simp [hl]
  ·simp [hl]
 ·rw [if_neg h,if_neg (by omega)]
theorem Inv.put{X:List Nat}{H0 H:LHeap}{kn:List Slot}(h:Inv X H0 kn H){k:Nat}{s:Slot}(hs:nth kn k=some s)(cs:List LV)(hl:cs.length=s.cs.length):
  Inv X H0 (setNth kn k ⟨s.id,cs,s.e⟩) (H.put s.id (.cells cs s.e s.cs.length s.cs.length .none false true)):=by
 obtain ⟨h1,h2,h3⟩:=h.slot k s hs;refine ⟨h.pres.trans (.put _ _ _) (fun i hi=>by rw [List.mem_singleton.1 hi];exact h3),fun j t ht=> ?_,fun i j t u ht hu hij=> ?_⟩
 ·rw [nth_set] at ht;split at ht
  ·cases ht;exact ⟨h1,by rw [LHeap.get_put,if_pos rfl];simp [Slot.obj,hl],h3⟩
  ·rename_i hn;obtain ⟨g1,g2,g3⟩:=h.slot j t ht;have hjk:j≠k:=fun e=>hn ⟨e,by rw [nth_eq] at hs;exact (List.getElem?_eq_some_iff.1 hs).1⟩;exact ⟨g1,by rw [LHeap.get_put,if_neg (h.apart j k t s ht hs hjk)];exact g2,g3⟩
 ·have old:∀k' t,nth (setNth kn k ⟨s.id,cs,s.e⟩) k'=some t->∃u,nth kn k'=some u/\t.id=u.id:=by
   intro k' t ht;rw [nth_set] at ht;split at ht
   ·rename_i hh;cases ht;exact ⟨s,by rw [hh.1];exact hs,rfl⟩
   ·exact ⟨t,ht,rfl⟩
  obtain ⟨a,ha,ea⟩:=old i t ht;obtain ⟨b,hb,eb⟩:=old j u hu;rw [ea,eb];exact h.apart i j a b ha hb hij
theorem Inv.take{X:List Nat}{H0 H:LHeap}{kn:List Slot}(h:Inv X H0 kn H)(m:Nat):Inv X H0 (kn.take m) H:=by
 have old:∀k s,nth (kn.take m) k=some s->nth kn k=some s:=by
  intro k s hs;rw [nth_eq,List.getElem?_take] at hs;split at hs
  ·rw [nth_eq];exact hs
  ·cases hs
 exact ⟨h.pres,fun k s hs=>h.slot k s (old k s hs),fun j k s t hs ht=>h.apart j k s t (old j s hs) (old k t ht)⟩
theorem denF_app{kn:List Slot}{x:SV}(h:inR kn.length x=true)(m:List Slot):denF (kn++m) x=denF kn x:=by
 cases x with
 |lv v=>rfl
 |own k off=>simp only [denF];rw [nth_append (by simp only [inR,Nat.ble_eq] at h;omega)]
theorem denF_set{kn:List Slot}{k:Nat}{s:Slot}(hs:nth kn k=some s)(cs:List LV)(hl:cs.length=s.cs.length)(x:SV):denF (setNth kn k ⟨s.id,cs,s.e⟩) x=denF kn x:=by
 cases x with
 |lv v=>rfl
 |own j off=>
  simp only [denF,nth_set];by_cases hh:j=k/\k<kn.length
  ·rw [if_pos hh];obtain ⟨rfl,_⟩:=hh;rw [hs];simp [hl]
  ·rw [if_neg hh]
theorem denF_take{kn:List Slot}{m:Nat}{x:SV}(h:inR m x=true):denF (kn.take m) x=denF kn x:=by
 cases x with
 |lv v=>rfl
 |own k off=>
  simp only [denF,nth_eq,List.getElem?_take];rw [if_pos (by simp only [inR,Nat.ble_eq] at h;omega)]
def evalS(C:Cfg)(tmps:List SV):Operand->SV
 | .tmp t=>match nth tmps t with
  |some v=>v
  |none=>.lv .undef
 |x=>.lv (evalL C [] x)
theorem nth_map{α β:Type}(f:α->β)(l:List α)(n:Nat):nth (l.map f) n=(nth l n).map f:=by
 rw [nth_eq,nth_eq,List.getElem?_map]
theorem evalS_den(C:Cfg)(kn:List Slot)(tmps:List SV)(x:Operand):evalL C (tmps.map (denF kn)) x=denF kn (evalS C tmps x):=by
 cases x with
 |tmp t=>
  simp only [evalL,evalS,nth_map];cases nth tmps t<;>rfl
 |_=>rfl
def viewS(C:Cfg)(ops:Array Oper)(b:List (List Nat))(i:Nat)(tm0:List LV)(tmps:List SV):Operand->SV
 | .tmp t=>match writer ops.toList 0 t with
  |none=>evalS C tmps (.tmp t)
  |some j=>match memN j (befOf b i) with
   |true=>evalS C tmps (.tmp t)
   |false=>match memN i (befOf b j) with
    |true=>.lv (evalL C tm0 (.tmp t))
    |false=>.lv .lost
 |x=>evalS C tmps x
theorem viewS_den(C:Cfg)(kn:List Slot)(ops:Array Oper)(b:List (List Nat))(i:Nat)(tm0:List LV)(tmps:List SV)(x:Operand):
  viewL C ops b i tm0 (tmps.map (denF kn)) x=denF kn (viewS C ops b i tm0 tmps x):=by
 cases x with
 |tmp t=>
  simp only [viewL,viewS];cases hw:writer ops.toList 0 t with
  |none=>exact evalS_den ..
  |some j=>
   simp only;cases h1:memN j (befOf b i) with
   |true=>rw [if_pos rfl];exact evalS_den ..
   |false=>
    cases h2:memN i (befOf b j) with
    |true=>rfl
    |false=>rfl
 |const v=>simp only [viewL,viewS];exact evalS_den ..
 |global g=>simp only [viewL,viewS];exact evalS_den ..
 |func f=>simp only [viewL,viewS];exact evalS_den ..
structure FX where
 ds:List LDef
 ro:Option Nat
 dd:Bool
def mkX(X:FX)(f:FuncId)(vs:List LV)(todo:List LItem):LFrame:=⟨f,vs,todo,X.ds,.run,X.dd,X.ro⟩
def itemS(C:Cfg)(kn:List Slot)(tmps:List SV):List LItem->Option (List LItem)
 | .code c::k=>match c with
  | .skip=>some k
  | .label _=>some k
  | .seq a b=>some (.code a:: .code b::k)
  | .cond c a b=>match evalS C tmps c with
   | .lv (.bool true)=>some (.code a::k)
   | .lv (.bool false)=>some (.code b::k)
   |_=>none
  | .block id b=>some (.code b:: .inBlock id::k)
  | .loop b=>some (.code b:: .inLoop b::k)
  | .scope b=>some (.code b:: .inScope b::k)
  | .exit id=>exitToL id k
  | .goto l=>gotoInL l k
  | .region _ ops draw=>match draw with
   |true=>match drawOk C.P ops with
    |true=>some (.drawn ops (befs ops.toList []) (tmps.map (denF kn)) [] (rngF ops.size []) true::k)
    |false=>none
   |false=>some (.inRegion ops (rngF ops.size [])::k)
  |_=>none
 | .inBlock _::k=>some k
 | .inScope _::k=>some k
 | .inLoop b::k=>some (.code b:: .inLoop b::k)
 | .inRegion _ []::k=>some k
 | .drawn _ _ _ _ [] false::k=>some k
 |_=>none
theorem itemS_step{C:Cfg}{F:FX}{f:FuncId}{kn:List Slot}{tmps:List SV}{todo todo':List LItem}(H:LHeap)(h:itemS C kn tmps todo=some todo'):
  lstepF C (mkX F f (tmps.map (denF kn)) todo) H=some (mkX F f (tmps.map (denF kn)) todo',H):=by
 rw [lstepF_iff];unfold lstep mkX;simp only;unfold itemS at h;split at h
 ·rename_i c k;split at h
  ·cases h;rfl
  ·cases h;rfl
  ·cases h;rfl
  ·rename_i c a b;simp only [evalS_den];split at h
   ·rename_i hc;cases h;rw [hc];rfl
   ·rename_i hc;cases h;rw [hc];rfl
   ·cases h
  ·cases h;rfl
  ·cases h;rfl
  ·cases h;rfl
  ·simp only [h]
  ·simp only [h]
  ·split at h
   ·split at h
    ·rename_i hd;cases h;simp [hd]
    ·cases h
   ·cases h;simp
  ·cases h
 ·cases h;rfl
 ·cases h;rfl
 ·cases h;rfl
 ·cases h;rfl
 ·cases h;simp [pickNext]
 ·cases h
def regionS(C:Cfg)(tmps:List SV):List LItem->Option (Array Oper×Nat×(Operand->SV)×List LItem)
 | .inRegion ops (i::r)::k=>some (ops,i,evalS C tmps,.inRegion ops (i::r)::k)
 | .drawn ops b tm0 done pend stale::k=>match pickNext C.P ops done pend with
  |some j=>some (ops,j,viewS C ops b j tm0 tmps,.drawn ops b tm0 done (j::dropI j pend) true::k)
  |none=>match stale with
   |true=>none
   |false=>match pend with
    |[]=>none
    |i::rest=>match ops[i]? with
     |some o=>match depsIn o done with
      |true=>some (ops,i,viewS C ops b i tm0 tmps,.drawn ops b tm0 done (i::rest) true::k)
      |false=>none
     |none=>none
 |_=>none
theorem regionS_now{C:Cfg}{F:FX}{f:FuncId}{kn:List Slot}{tmps:List SV}{todo todo':List LItem}{ops:Array Oper}{i:Nat}{ρ:Operand->SV}(h:regionS C tmps todo=some (ops,i,ρ,todo')):
  regionNow C (mkX F f (tmps.map (denF kn)) todo)=some (ops,i,fun x=>denF kn (ρ x),mkX F f (tmps.map (denF kn)) todo'):=by
 have hv:∀(ops:Array Oper) (b:List (List Nat)) (i:Nat) (tm0:List LV),viewL C ops b i tm0 (tmps.map (denF kn))=fun x=>denF kn (viewS C ops b i tm0 tmps x):=
  fun ops b i tm0=>funext fun x=>viewS_den ..
 unfold regionNow mkX;simp only;unfold regionS at h;split at h
 ·cases h;have:evalL C (tmps.map (denF kn))=fun x=>denF kn (evalS C tmps x):=funext fun x=>evalS_den ..;simp only [this]
 ·split at h
  ·rename_i j hp;cases h;simp only [hp,hv]
  ·rename_i hp;split at h
   ·cases h
   ·split at h
    ·cases h
    ·split at h
     ·rename_i o ho;split at h
      ·rename_i hd;cases h;simp only [hp,ho,hd,hv]
      ·cases h
     ·cases h
 ·cases h
def putS(ops:Array Oper)(i:Nat)(tmps:List SV)(v:SV):List SV:=
 match ops[i]? with
 |some o=>match o.dst with
  |some d=>setNth tmps d v
  |none=>tmps
 |none=>tmps
def finishS(tmps:List SV)(v:SV):List LItem->Option (List SV×List LItem)
 | .inRegion ops (i::rest)::k=>some (putS ops i tmps v,.inRegion ops rest::k)
 | .drawn ops b tm0 done (i::rest) _::k=>some (putS ops i tmps v,.drawn ops b tm0 (i::done) rest true::k)
 |_=>none
theorem set_map{α β:Type}(g:α->β)(l:List α)(d:Nat)(v:α):(setNth l d v).map g=setNth (l.map g) d (g v):=by
 rw [setNth_eq,setNth_eq,List.map_set]
theorem putS_den(kn:List Slot)(ops:Array Oper)(i:Nat)(tmps:List SV)(v:SV):(putS ops i tmps v).map (denF kn)=putT ops i (tmps.map (denF kn)) (denF kn v):=by
 unfold putS putT;cases ops[i]? with
 |none=>rfl
 |some o=>
  simp only;cases o.dst with
  |none=>rfl
  |some d=>exact set_map ..
theorem finishS_den{F:FX}{f:FuncId}{kn:List Slot}{tmps tmps':List SV}{v:SV}{todo todo':List LItem}(h:finishS tmps v todo=some (tmps',todo')):
  finishL (mkX F f (tmps.map (denF kn)) todo) (denF kn v)=some (mkX F f (tmps'.map (denF kn)) todo'):=by
 unfold finishL mkX;simp only;unfold finishS at h;split at h
 ·cases h;rw [putS_den]
 ·cases h;rw [putS_den]
 ·cases h
theorem mem_set{α:Type}{l:List α}{d:Nat}{v x:α}(h:x∈setNth l d v):x∈l\/x=v:=by
 rw [setNth_eq] at h;exact List.mem_or_eq_of_mem_set h
theorem finishS_mem{tmps tmps':List SV}{v:SV}{todo todo':List LItem}(h:finishS tmps v todo=some (tmps',todo')):∀x∈tmps',x∈tmps\/x=v:=by
 have hp:∀(ops:Array Oper) (i:Nat),∀x∈putS ops i tmps v,x∈tmps\/x=v:=by
  intro ops i x hx;unfold putS at hx;split at hx
  ·split at hx
   ·exact mem_set hx
   ·exact .inl hx
  ·exact .inl hx
 unfold finishS at h;split at h
 ·cases h;exact hp _ _
 ·cases h;exact hp _ _
 ·cases h
def neutral(C:Cfg)(ρ:Operand->LV)(o:Oper):Bool:=
 match o.op with
 | .move _ | .assign _ | .pick .. | .build .. | .load .. | .nilCheck _ | .binOp .. | .unOp .. | .makeInterface .. | .makeFunc .. | .slice .. | .fieldAddr .. | .field ..
 | .indexAddr .. | .index .. | .lookup .. | .typeAssert .. | .extract .. =>true
 | .convert _ d _=>match C.P.underlying d with
  |some (.int _)=>true
  |some .string=>true
  |_=>false
 | .call c=>match c.callee with
  | .builtin .len | .builtin .cap | .builtin .min | .builtin .max=>true
  | .value _=>match resolveL ρ c with
   |some ⟨.fn (.func f) _,_⟩=>match C.orc f with
    |some _=>true
    |none=>match C.ext f with
     |some .cmpStr |some .indexByte |some .countByte |some .noEscape |some (.overlaps _) |some .add64=>true
     |_=>false
   |_=>false
  |_=>false
 |_=>false
theorem extL_heap{P:Program}{H H':LHeap}{e:Ext}{args:List LV}{v:LV}(he:e=.cmpStr\/e=.indexByte\/e=.countByte\/e=.noEscape\/(∃t,e=.overlaps t)\/e=.add64)(h:extL P H e args=some (v,H')):H'=H:=by
 rcases he with rfl |rfl |rfl |rfl |⟨t,rfl⟩ |rfl
 all_goals
  unfold extL at h
  repeat' split at h
  all_goals first
   |contradiction
   |(cases h;done)
   |(cases h;rfl)
theorem neutral_heap{C:Cfg}{ρ:Operand->LV}{o:Oper}(hn:neutral C ρ o=true){H H':LHeap}{v:LV}(h:opL C ρ H o=some [(.value v,H')]):H'=H:=by
 unfold neutral at hn;split at hn
 case h_19 s d x ho=>
  simp only [opL,ho] at h;split at h
  ·rename_i x1 H1 hc;cases h;unfold convertL at hc;split at hc
   ·rename_i _ _ s' d' hs hd;rw [hd] at hn;split at hc<;>(repeat' split at hc)<;>first
     |(cases hc;done)
     |(cases hc;rfl)
     |(simp_all;done)
   ·cases hc
  ·cases h
 case h_20 c ho=>
  simp only [opL,ho] at h;split at hn
  ·rename_i hc;simp only [hc,builtinL] at h
   repeat' split at h
   all_goals first
    |(cases h;done)
    |(cases h;rfl)
    |skip
   all_goals (rename_i hx;repeat' split at hx)
   all_goals first
    |(cases hx;done)
    |(cases hx;cases h;rfl)
  ·rename_i hc;simp only [hc,builtinL] at h
   repeat' split at h
   all_goals first
    |(cases h;done)
    |(cases h;rfl)
    |skip
   all_goals (rename_i hx;repeat' split at hx)
   all_goals first
    |(cases hx;done)
    |(cases hx;cases h;rfl)
  ·rename_i hc;simp only [hc,builtinL] at h
   repeat' split at h
   all_goals first
    |(cases h;done)
    |(cases h;rfl)
    |skip
   all_goals (rename_i hx;repeat' split at hx)
   all_goals first
    |(cases hx;done)
    |(cases hx;cases h;rfl)
  ·rename_i hc;simp only [hc,builtinL] at h
   repeat' split at h
   all_goals first
    |(cases h;done)
    |(cases h;rfl)
    |skip
   all_goals (rename_i hx;repeat' split at hx)
   all_goals first
    |(cases hx;done)
    |(cases hx;cases h;rfl)
  ·rename_i fc hc;simp only [hc] at h;split at hn
   ·rename_i f cap args hr;simp only [hr,invokeL,enterL] at h;split at hn
    ·rename_i r ho';simp only [ho'] at h
     repeat' split at h
     all_goals first
      |(cases h;done)
      |skip
     rename_i hx;split at hx
     ·cases hx;cases h;rfl
     ·cases hx
    ·rename_i ho';simp only [ho'] at h;split at hn
     all_goals first
      |(cases hn;done)
      |skip
     all_goals
      rename_i he;simp only [he] at h;split at h
      ·rename_i x hx;split at hx
       ·rename_i v1 H1 hext;cases hx;cases h;exact extL_heap (by simp) hext
       ·cases hx
      ·cases h
   ·cases hn
  ·cases hn
 case h_21=>cases hn
 all_goals
  rename_i ho;simp only [opL,ho] at h
  repeat' split at h
  all_goals first
   |(cases h;done)
   |(cases h;rfl)
end Go.Lm

/- What is to be shown of a function's run: by reckoning along hints, own boxes kept in mind. -/
namespace Go.Lm
inductive Hs where
 |need
 |go (n:Nat) (k:Hs)
 |cases (t:Nat) (k1 k2:Hs)
 |op (sh:Sh) (k:Hs)
 |box (k:Hs)
 |put (k:Hs)
 |boxP (k:Hs)
 |putP (k:Hs)
 |store (k:Hs)
 |row (k:Hs)
 |app (k:Hs)
 |any (sh:Sh) (k:Hs)
 |call (sh:Sh) (k:Hs)
 |callY (sh:Sh) (k:Hs)
 |yld (sh:Sh) (k:Hs)
 |callO (j:Nat) (shc sh:Sh) (k:Hs)
 |callOY (j:Nat) (shc sh:Sh) (k:Hs)
 |callN (shc:Sh) (e:TypeId) (k:Hs)
 |callP (j:Nat) (shc sh:Sh) (k:Hs)
 |panic
 |retE
 |defer (k:Hs)
 |check (k:Hs)
 |facts (k:Hs)
 |alt (k1 k2:Hs)
 |stop (live:List Nat) (m:Nat)
 |ret
def slotLoad(P:Program)(cs:List LV)(t:TypeId)(off:Nat):Option LV:=
 match isAggT P t with
 |some true=>match sizeOfT P t with
  |some n=>match Nat.ble (off+n) cs.length with
   |true=>(takeN n (dropN off cs)).map .agg
   |false=>none
  |none=>none
 |some false=>match Nat.ble (off+1) cs.length with
  |true=>nth cs off
  |false=>none
 |none=>none
def slotStore(P:Program)(cs:List LV)(t:TypeId)(off:Nat)(v:LV):Option (List LV):=
 match sizeOfT P t with
 |some n=>match Nat.beq v.cells.length n,v.cells with
  |true,[]=>some cs
  |true,vs@(_::_)=>match allCells vs with
   |true=>over off cs vs
   |false=>none
  |false,_=>none
 |none=>none
theorem slotLoad_spec{P:Program}{H:LHeap}{s:Slot}(hg:H.get s.id=some s.obj){t:TypeId}{off:Nat}{v:LV}(h:slotLoad P s.cs t off=some v):loadT P H t ⟨s.id,s.cs.length,off⟩=some v:=by
 unfold slotLoad at h;unfold loadT;split at h
 ·rename_i ha;simp only [ha];split at h
  ·rename_i n hn;simp only [hn];split at h
   ·rename_i hb;simp only [loadN,hg,Slot.obj,hb];simpa using h
   ·cases h
  ·cases h
 ·rename_i ha;simp only [ha];split at h
  ·rename_i hb;simp only [load1,hg,Slot.obj,hb];simpa using h
  ·cases h
 ·cases h
theorem over_len{α:Type}:∀(n:Nat) (l vs r:List α),over n l vs=some r->r.length=l.length
 |0,l,[],r,h=>by simp [over] at h;rw [h]
 |0,[],_::_,r,h=>by simp [over] at h
 |0,a::l,v::vs,r,h=>by
  simp only [over,Option.map_eq_some_iff] at h;obtain ⟨x,h1,rfl⟩:=h;simp [over_len 0 l vs x h1]
 |n+1,[],_,r,h=>by simp [over] at h
 |n+1,a::l,vs,r,h=>by
  simp only [over,Option.map_eq_some_iff] at h;obtain ⟨x,h1,rfl⟩:=h;simp [over_len n l vs x h1]
theorem slotStore_spec{P:Program}{H:LHeap}{s:Slot}(hg:H.get s.id=some s.obj){t:TypeId}{off:Nat}{v:LV}{cs:List LV}(h:slotStore P s.cs t off v=some cs):
  cs.length=s.cs.length/\∃H',storeT P H t ⟨s.id,s.cs.length,off⟩ v=some H'/\(H'=H/\cs=s.cs\/H'=H.put s.id (.cells cs s.e s.cs.length s.cs.length .none false true)):=by
 unfold slotStore at h;split at h
 ·rename_i n hn;split at h
  ·rename_i hb hv;cases h;refine ⟨rfl,H,?_,.inl ⟨rfl,rfl⟩⟩;simp only [storeT,hn];rw [if_pos hb];simp only [hv,storeN]
  ·rename_i x y hb hv;split at h
   ·rename_i ha;have hl:=over_len _ _ _ _ h;refine ⟨hl,_,?_,.inr rfl⟩;simp only [storeT,hn];rw [if_pos hb];simp only [hv,storeN,hg,Slot.obj];rw [ha,h];simp [FZ.apart]
   ·cases h
  ·cases h
 ·cases h
def opP(C:Cfg)(kn:List Slot)(H:LHeap)(ρ:Operand->SV)(o:Oper):Option SV:=
 match o.op with
 | .move x=>some (ρ x)
 | .assign x=>some (ρ x)
 | .nilCheck x=>match ρ x with
  | .own k off=>some (.own k off)
  | .lv _=>dflt
 | .fieldAddr t x i=>match ρ x with
  | .own k off=>match nth kn k,fieldOf C.P t i with
   |some _,some f=>match sizeOfT C.P f.type with
    |some (_+1)=>some (.own k (off+f.offset))
    |_=>none
   |_,_=>none
  | .lv _=>dflt
 | .indexAddr t x i=>match ρ x,ρ i with
  | .own k off,.lv (.int _ (.ofNat m))=>match nth kn k,C.P.underlying t with
   |some _,some (.array n e)=>match sizeOfT C.P e,Nat.ble (m+1) n with
    |some z,true=>some (.own k (off+m*z))
    |_,_=>none
   |_,_=>none
  |_,_=>dflt
 | .load t a=>match ρ a with
  | .own k off=>match nth kn k with
   |some s=>match slotLoad C.P s.cs t off with
    |some v=>some (.lv v)
    |none=>none
   |none=>none
  | .lv _=>none
 |_=>dflt
where
 dflt:Option SV:=
  match neutral C (fun x=>denF kn (ρ x)) o,opL C (fun x=>denF kn (ρ x)) H o with
  |true,some [(.value v,_)]=>some (.lv v)
  |_,_=>none
theorem opP_dflt{C:Cfg}{kn:List Slot}{H:LHeap}{ρ:Operand->SV}{o:Oper}{v:SV}(h:opP.dflt C kn H ρ o=some v):opL C (fun x=>denF kn (ρ x)) H o=some [(.value (denF kn v),H)]/\∀n,inR n v=true:=by
 unfold opP.dflt at h;split at h
 ·rename_i v' H' hn ho;cases h;refine ⟨?_,fun _=>rfl⟩;rw [ho,neutral_heap hn ho];rfl
 ·cases h
theorem opP_spec{C:Cfg}{kn:List Slot}{H H0:LHeap}{X:List Nat}(hI:Inv X H0 kn H){ρ:Operand->SV}(hρ:∀x,inR kn.length (ρ x)=true){o:Oper}{v:SV}(h:opP C kn H ρ o=some v):
  opL C (fun x=>denF kn (ρ x)) H o=some [(.value (denF kn v),H)]/\inR kn.length v=true:=by
 unfold opP at h;split at h
 ·rename_i x ho;cases h;exact ⟨by simp only [opL,ho],hρ x⟩
 ·rename_i x ho;cases h;exact ⟨by simp only [opL,ho],hρ x⟩
 ·rename_i x ho;split at h
  ·rename_i k off hx;cases h;have hr:=hρ x;rw [hx] at hr;have hk:k<kn.length:=by simp only [inR,Nat.ble_eq] at hr;omega
   refine ⟨?_,hr⟩;simp only [opL,ho,hx,denF,nth_eq,List.getElem?_eq_getElem hk]
  ·obtain ⟨a,b⟩:=opP_dflt h;exact ⟨a,b _⟩
 ·rename_i t x i ho;split at h
  ·rename_i k off hx;split at h
   ·rename_i s f hs hf;split at h
    ·rename_i n hz;cases h;have hr:=hρ x;rw [hx] at hr;refine ⟨?_,hr⟩;simp only [opL,ho,hx,denF,hs,fieldAddrL,hf,hz]
    ·cases h
   ·cases h
  ·obtain ⟨a,b⟩:=opP_dflt h;exact ⟨a,b _⟩
 ·rename_i t x i ho;split at h
  ·rename_i k off kk m hx hi;split at h
   ·rename_i s n e hs hu;split at h
    ·rename_i z hz hb;cases h;have hr:=hρ x;rw [hx] at hr;refine ⟨?_,hr⟩;simp only [opL,ho,hx,hi,denF,hs,indexAddrL,hu,hz,hb];rfl
    ·cases h
   ·cases h
  ·obtain ⟨a,b⟩:=opP_dflt h;exact ⟨a,b _⟩
 ·rename_i t a ho;split at h
  ·rename_i k off ha;split at h
   ·rename_i s hs;split at h
    ·rename_i w hw;cases h;refine ⟨?_,rfl⟩;simp only [opL,ho,ha,denF,hs,slotLoad_spec (hI.slot k s hs).2.1 hw]
    ·cases h
   ·cases h
  ·cases h
 ·obtain ⟨a,b⟩:=opP_dflt h;exact ⟨a,b _⟩
def stepS(C:Cfg)(kn:List Slot)(H:LHeap)(tmps:List SV)(todo:List LItem):Option (List SV×List LItem):=
 match itemS C kn tmps todo with
 |some todo'=>some (tmps,todo')
 |none=>match regionS C tmps todo with
  |some (ops,i,ρ,todo')=>match ops[i]? with
   |some o=>match wantedL ops (tmps.map (denF kn)) o with
    |some true=>match opP C kn H ρ o with
     |some v=>finishS tmps v todo'
     |none=>none
    |some false=>finishS tmps (.lv .undef) todo'
    |none=>none
   |none=>none
  |none=>none
theorem evalS_in{C:Cfg}{tmps:List SV}{n:Nat}(h:∀x∈tmps,inR n x=true)(x:Operand):inR n (evalS C tmps x)=true:=by
 cases x with
 |tmp t=>
  simp only [evalS];split
  ·rename_i v hv;rw [nth_eq] at hv;exact h v (List.mem_of_getElem? hv)
  ·rfl
 |_=>rfl
theorem viewS_in{C:Cfg}{tmps:List SV}{n:Nat}(h:∀x∈tmps,inR n x=true)(ops:Array Oper)(b:List (List Nat))(i:Nat)(tm0:List LV)(x:Operand):inR n (viewS C ops b i tm0 tmps x)=true:=by
 cases x with
 |tmp t=>
  simp only [viewS];split
  ·exact evalS_in h _
  ·split
   ·exact evalS_in h _
   ·split<;>rfl
 |const v=>simp only [viewS];exact evalS_in h _
 |global g=>simp only [viewS];exact evalS_in h _
 |func f=>simp only [viewS];exact evalS_in h _
theorem regionS_in{C:Cfg}{tmps:List SV}{n:Nat}(h:∀x∈tmps,inR n x=true){todo todo':List LItem}{ops:Array Oper}{i:Nat}{ρ:Operand->SV}(hr:regionS C tmps todo=some (ops,i,ρ,todo'))(x:Operand):inR n (ρ x)=true:=by
 unfold regionS at hr;split at hr
 ·cases hr;exact evalS_in h x
 ·split at hr
  ·cases hr;exact viewS_in h _ _ _ _ x
  ·split at hr
   ·cases hr
   ·split at hr
    ·cases hr
    ·split at hr
     ·split at hr
      ·cases hr;exact viewS_in h _ _ _ _ x
      ·cases hr
     ·cases hr
 ·cases hr
theorem stepS_spec{C:Cfg}{F:FX}{f:FuncId}{kn:List Slot}{H H0:LHeap}{X:List Nat}(hI:Inv X H0 kn H){tmps tmps':List SV}(hin:∀x∈tmps,inR kn.length x=true){todo todo':List LItem}
  (h:stepS C kn H tmps todo=some (tmps',todo')):
  lstepF C (mkX F f (tmps.map (denF kn)) todo) H=some (mkX F f (tmps'.map (denF kn)) todo',H)/\∀x∈tmps',inR kn.length x=true:=by
 unfold stepS at h;split at h
 ·rename_i t ht;cases h;exact ⟨itemS_step H ht,hin⟩
 ·split at h
  ·rename_i ops i ρ t1 hr;split at h
   ·rename_i o ho;have hstep:=regionNow_step (regionS_now (F:=F) (f:=f) (kn:=kn) hr) [] H;split at h
    ·rename_i hw;split at h
     ·rename_i v hv;obtain ⟨h1,h2⟩:=opP_spec hI (regionS_in hin hr) hv;refine ⟨?_,fun x hx=> ?_⟩
      ·rw [lstepF_iff,hstep];have hw':wantedL ops (mkX F f (tmps.map (denF kn)) t1).tmps o=some true:=hw;simp only [stepRegion,ho,hw',h1,mapO,afterL,finishS_den (F:=F) (f:=f) (kn:=kn) h,Option.map_some]
      ·rcases finishS_mem h x hx with h |h
       ·exact hin x h
       ·rw [h];exact h2
     ·cases h
    ·rename_i hw;refine ⟨?_,fun x hx=> ?_⟩
     ·rw [lstepF_iff,hstep];have hw':wantedL ops (mkX F f (tmps.map (denF kn)) t1).tmps o=some false:=hw;have:=finishS_den (F:=F) (f:=f) (kn:=kn) h;simp only [denF] at this;simp only [stepRegion,ho,hw',this]
     ·rcases finishS_mem h x hx with h |h
      ·exact hin x h
      ·rw [h];rfl
    ·cases h
   ·cases h
  ·cases h
def goS(C:Cfg)(kn:List Slot)(H:LHeap):Nat->List SV->List LItem->(List SV->List LItem->Prop)->Prop
 |0,tmps,todo,K=>K tmps todo
 |n+1,tmps,todo,K=>match stepS C kn H tmps todo with
  |some (tmps',todo')=>goS C kn H n tmps' todo' K
  |none=>False
def okBeq:LV->Bool
 | .junk=>false
 | .lost=>false
 | .iface _ v=>okBeq v
 | .func f a c=>sameFn f f&&okBeqs a&&okBeqs c
 | .agg l=>okBeqs l
 | .tuple l=>okBeqs l
 |_=>true
where
 okBeqs:List LV->Bool
 |[]=>true
 |v::l=>okBeq v&&okBeqs l
mutual
theorem okBeq_self:∀(v:LV),okBeq v=true->v.beq v=true
 | .junk,h=>by cases h
 | .lost,h=>by cases h
 | .bool b,_=>by simp [LV.beq]
 | .int k n,_=>by simp [LV.beq]
 | .str s,_=>by simp [LV.beq]
 | .ptr a,_=>by cases a<;>simp [LV.beq]
 | .slice a n c,_=>by cases a<;>cases c<;>simp [LV.beq]
 | .map r,_=>by cases r<;>simp [LV.beq]
 | .func f a c,h=>by
  simp only [okBeq,Bool.and_eq_true] at h;simp only [LV.beq,h.1.1,okBeqs_self a h.1.2,okBeqs_self c h.2,Bool.and_self]
 | .nilFunc,_=>rfl
 | .iface t v,h=>by
  simp only [okBeq] at h;simp [LV.beq,okBeq_self v h]
 | .nilIface,_=>rfl
 | .agg l,h=>by simp only [okBeq] at h;simp [LV.beq,okBeqs_self l h]
 | .tuple l,h=>by simp only [okBeq] at h;simp [LV.beq,okBeqs_self l h]
theorem okBeqs_self:∀(l:List LV),okBeq.okBeqs l=true->beqs l l=true
 |[],_=>rfl
 |v::l,h=>by
  simp only [okBeq.okBeqs,Bool.and_eq_true] at h;simp [beqs,okBeq_self v h.1,okBeqs_self l h.2]
end
def convP(P:Program)(H:LHeap)(s d:TypeId)(x v:LV):Prop:=∃H',convertL P H s d x=some (v,H')
def lookS(C:Cfg)(kn:List Slot)(H:LHeap)(ops:Array Oper)(b:List (List Nat))(tm0:List LV)(tmps:List SV)(skip:List Nat)(K:Prop):List Nat->List LV->List LV->Prop
 |[],[],[]=>K
 |[],u,w=>u=w/\K
 |i::l,u,w=>match memN i skip,ops[i]? with
  |true,_=>lookS C kn H ops b tm0 tmps skip K l u w
  |false,none=>lookS C kn H ops b tm0 tmps skip K l u w
  |false,some o=>match isE C.P o.op||isA o.op|| !(readsH o.op) with
   |true=>lookS C kn H ops b tm0 tmps skip K l u w
   |false=>match wantedL ops (tmps.map (denF kn)) o with
    |some true=>match o.dst with
     |some d=>match nth tmps d with
      |some (.lv v)=>match okBeq v with
       |true=>match o.op with
        | .load t a=>match viewS C ops b i tm0 tmps a with
         | .own k off=>match nth kn k with
          |some s=>match slotLoad C.P s.cs t off with
           |some v'=>lookS C kn H ops b tm0 tmps skip K l (v'::u) (v::w)
           |none=>False
          |none=>False
         | .lv (.ptr x)=>loadP C.P H t x v/\lookS C kn H ops b tm0 tmps skip K l u w
         | .lv _=>False
        | .convert s d x=>match viewS C ops b i tm0 tmps x with
         | .lv (.slice a n q)=>convP C.P H s d (.slice a n q) v/\lookS C kn H ops b tm0 tmps skip K l u w
         |_=>match opL C (fun x=>denF kn (viewS C ops b i tm0 tmps x)) H o with
          |some [(.value v',_)]=>lookS C kn H ops b tm0 tmps skip K l (v'::u) (v::w)
          |_=>False
        |_=>match opL C (fun x=>denF kn (viewS C ops b i tm0 tmps x)) H o with
         |some [(.value v',_)]=>lookS C kn H ops b tm0 tmps skip K l (v'::u) (v::w)
         |_=>False
       |false=>False
      |_=>False
     |none=>False
    |some false=>lookS C kn H ops b tm0 tmps skip K l u w
    |none=>lookS C kn H ops b tm0 tmps skip K l u w
theorem lookS_sound{C:Cfg}{kn:List Slot}{H H0:LHeap}{X:List Nat}(hI:Inv X H0 kn H){ops:Array Oper}{b:List (List Nat)}{tm0:List LV}{tmps:List SV}{skip:List Nat}{K:Prop}:
  ∀{l:List Nat} {u w:List LV},lookS C kn H ops b tm0 tmps skip K l u w->u=w/\K/\(l.all fun i=>memN i skip||againOk C H ops b tm0 (tmps.map (denF kn)) i)=true
 |[],u,w,h=>by
  unfold lookS at h;split at h
  ·exact ⟨rfl,h,rfl⟩
  ·exact ⟨h.1,h.2,rfl⟩
  ·contradiction
 |i::l,u,w,h=>by
  have hv:∀(b:List (List Nat)) (i:Nat),viewL C ops b i tm0 (tmps.map (denF kn))=fun x=>denF kn (viewS C ops b i tm0 tmps x):=fun b i=>funext fun x=>viewS_den ..;have key:∀{u' w':List LV},lookS C kn H ops b tm0 tmps skip K l u' w'->(u'=w'->u=w/\(memN i skip=true\/againOk C H ops b tm0 (tmps.map (denF kn)) i=true))->u=w/\K/\((i::l).all fun i=>memN i skip||againOk C H ops b tm0 (tmps.map (denF kn)) i)=true:=by
   intro u' w' h' hk;obtain ⟨h1,h2,h3⟩:=lookS_sound hI h';obtain ⟨h4,h5⟩:=hk h1;refine ⟨h4,h2,?_⟩;rw [List.all_cons,Bool.and_eq_true,Bool.or_eq_true];exact ⟨h5,h3⟩
  unfold lookS at h;split at h
  ·rename_i hm;exact key h fun e=>⟨e,.inl hm⟩
  ·rename_i ho;exact key h fun e=>⟨e,.inr (by simp [againOk,ho])⟩
  ·rename_i o hm ho;split at h
   ·rename_i hc;exact key h fun e=>⟨e,.inr (by unfold againOk;simp only [ho];rw [if_pos hc])⟩
   ·rename_i hc;split at h
    ·rename_i hw;split at h
     ·rename_i d hd;split at h
      ·rename_i v hn;have hn':nth (tmps.map (denF kn)) d=some v:=by rw [nth_map,hn];rfl
       split at h
       ·rename_i hok;split at h
        ·rename_i t a hop;split at h
         ·rename_i k off ha;split at h
          ·rename_i s hs;split at h
           ·rename_i v' hl;refine key h fun e=> ?_;obtain ⟨e1,e2⟩:=List.cons.inj e;subst e1;refine ⟨e2,.inr ?_⟩;unfold againOk;simp only [ho,hw];rw [hc,hv];simp only [opL,hop,ha,denF,hs,slotLoad_spec (hI.slot k s hs).2.1 hl,hd,hn'];simpa using okBeq_self v' hok
           ·exact h.elim
          ·exact h.elim
         ·rename_i x ha;obtain ⟨g1,g2⟩:=h;refine key g2 fun e=>⟨e,.inr ?_⟩;unfold loadP at g1;split at g1
          ·unfold againOk;simp only [ho,hw];rw [hc,hv];simp only [opL,hop,ha,denF,g1,hd,hn'];simpa using okBeq_self v hok
          ·exact g1.elim
         ·exact h.elim
        ·rename_i s d' x hop;split at h
         ·rename_i a n q ha;obtain ⟨⟨H',g1⟩,g2⟩:=h;refine key g2 fun e=>⟨e,.inr ?_⟩;unfold againOk;simp only [ho,hw];rw [hc,hv];simp only [opL,hop,ha,denF,g1,hd,hn'];simpa using okBeq_self v hok
         ·split at h
          ·rename_i v' H' hop;refine key h fun e=> ?_;obtain ⟨e1,e2⟩:=List.cons.inj e;subst e1;refine ⟨e2,.inr ?_⟩;unfold againOk;simp only [ho,hw];rw [hc,hv];simp only [hop,hd,hn'];simpa using okBeq_self v' hok
          ·exact h.elim
        ·split at h
         ·rename_i v' H' hop;refine key h fun e=> ?_;obtain ⟨e1,e2⟩:=List.cons.inj e;subst e1;refine ⟨e2,.inr ?_⟩;unfold againOk;simp only [ho,hw];rw [hc,hv];simp only [hop,hd,hn'];simpa using okBeq_self v' hok
         ·exact h.elim
       ·exact h.elim
      ·exact h.elim
     ·exact h.elim
    ·rename_i hw;exact key h fun e=>⟨e,.inr (by unfold againOk;simp only [ho,hw];simp)⟩
    ·rename_i hw;exact key h fun e=>⟨e,.inr (by unfold againOk;simp only [ho,hw];simp)⟩
end Go.Lm

/- What is to be shown of a function's run along hints, and that it is enough. -/
namespace Go.Lm
def nowS(C:Cfg)(kn:List Slot)(tmps:List SV)(todo:List LItem):Option (Oper×(Operand->SV)×List LItem):=
 match regionS C tmps todo with
 |some (ops,i,ρ,todo')=>match ops[i]? with
  |some o=>match wantedL ops (tmps.map (denF kn)) o with
   |some true=>some (o,ρ,todo')
   |_=>none
  |none=>none
 |none=>none
def boxOf(C:Cfg)(kn:List Slot)(ρ:Operand->SV)(o:Oper):Option (List LV×TypeId):=
 match o.op with
 | .alloc t=>match zeroOf C.P t with
  |some z=>some (z.cells,t)
  |none=>none
 | .box t x=>some ((denF kn (ρ x)).cells,t)
 |_=>none
def tmSelS(live:List Nat)(d:Nat->LV):Nat->List SV->List SV
 |_,[]=>[]
 |i,v::l=>(match memN i live with
  |true=>v
  |false=>.lv (d i))::tmSelS live d (i+1) l
def resS(C:Cfg)(kn:List Slot)(H:LHeap)(tmps:List SV)(r:ResultVar):Option LV:=
 match r with
 | .tmp t=>some (denF kn (evalS C tmps (.tmp t)))
 | .cell a t=>match evalS C tmps (.tmp a) with
  | .own k off=>match nth kn k with
   |some s=>slotLoad C.P s.cs t off
   |none=>none
  | .lv (.ptr (some a))=>loadT C.P H t a
  | .lv _=>none
theorem loadT_congr{P:Program}{H H':LHeap}{t:TypeId}{a:LAddr}(h:H'.get a.id=H.get a.id):loadT P H' t a=loadT P H t a:=by
 unfold loadT loadN load1;rw [h]
theorem load_cells{P:Program}{H:LHeap}{t:TypeId}{a:LAddr}{v:LV}(h:loadT P H t a=some v){o:LObj}(ho:H.get a.id=some o):∃cs e ver m fz ro wh,o=.cells cs e ver m fz ro wh:=by
 cases o with
 |cells cs e ver m fz ro wh=>exact ⟨_,_,_,_,_,_,_,rfl⟩
 |_=>
  unfold loadT loadN load1 at h;rw [ho] at h;simp only at h;split at h
  ·split at h<;>simp at h
  ·cases h
  ·cases h
theorem Inv.callO{X:List Nat}{H0 H H':LHeap}{kn:List Slot}(h:Inv X H0 kn H){k:Nat}{s:Slot}(hs:nth kn k=some s)(hp:PresX [s.id] H H'){cs:List LV}(hg:H'.get s.id=some (Slot.obj ⟨s.id,cs,s.e⟩)):
  Inv X H0 (setNth kn k ⟨s.id,cs,s.e⟩) H':=by
 obtain ⟨h1,h2,h3⟩:=h.slot k s hs;refine ⟨h.pres.trans hp (fun i hi=>by rw [List.mem_singleton.1 hi];exact h3),fun j t ht=> ?_,fun i j t u ht hu hij=> ?_⟩
 ·rw [nth_set] at ht;split at ht
  ·cases ht;exact ⟨Nat.lt_of_lt_of_le h1 hp.next,hg,h3⟩
  ·rename_i hn;obtain ⟨g1,g2,g3⟩:=h.slot j t ht;have hjk:j≠k:=fun e=>hn ⟨e,by rw [nth_eq] at hs;exact (List.getElem?_eq_some_iff.1 hs).1⟩;exact ⟨Nat.lt_of_lt_of_le g1 hp.next,(hp.keep t.id g1 fun hm=>h.apart j k t s ht hs hjk (List.mem_singleton.1 hm)).fixed _ g2 (by simp [Slot.obj,LObj.fixed]),g3⟩
 ·have old:∀k' t,nth (setNth kn k ⟨s.id,cs,s.e⟩) k'=some t->∃u,nth kn k'=some u/\t.id=u.id:=by
   intro k' t ht;rw [nth_set] at ht;split at ht
   ·rename_i hh;cases ht;exact ⟨s,by rw [hh.1];exact hs,rfl⟩
   ·exact ⟨t,ht,rfl⟩
  obtain ⟨a,ha,ea⟩:=old i t ht;obtain ⟨b,hb,eb⟩:=old j u hu;rw [ea,eb];exact h.apart i j a b ha hb hij
theorem Inv.callOY{X Y:List Nat}{H0 H H':LHeap}{kn:List Slot}(h:Inv X H0 kn H){k:Nat}{s:Slot}(hs:nth kn k=some s)(hp:PresX (s.id::Y) H H')(hY:∀i∈Y,okId X H0 kn i){cs:List LV}(hg:H'.get s.id=some (Slot.obj ⟨s.id,cs,s.e⟩)):
  Inv X H0 (setNth kn k ⟨s.id,cs,s.e⟩) H':=by
 obtain ⟨h1,h2,h3⟩:=h.slot k s hs;refine ⟨h.pres.trans hp (fun i hi=>by
  rcases List.mem_cons.1 hi with e |e
  ·rw [e];exact h3
  ·exact (hY i e).1),fun j t ht=> ?_,fun i j t u ht hu hij=> ?_⟩
 ·rw [nth_set] at ht;split at ht
  ·cases ht;exact ⟨Nat.lt_of_lt_of_le h1 hp.next,hg,h3⟩
  ·rename_i hn;obtain ⟨g1,g2,g3⟩:=h.slot j t ht;have hjk:j≠k:=fun e=>hn ⟨e,by rw [nth_eq] at hs;exact (List.getElem?_eq_some_iff.1 hs).1⟩;exact ⟨Nat.lt_of_lt_of_le g1 hp.next,(hp.keep t.id g1 fun hm=>by
    rcases List.mem_cons.1 hm with e |e
    ·exact h.apart j k t s ht hs hjk e
    ·exact (hY _ e).2 j t ht rfl).fixed _ g2 (by simp [Slot.obj,LObj.fixed]),g3⟩
 ·have old:∀k' t,nth (setNth kn k ⟨s.id,cs,s.e⟩) k'=some t->∃u,nth kn k'=some u/\t.id=u.id:=by
   intro k' t ht;rw [nth_set] at ht;split at ht
   ·rename_i hh;cases ht;exact ⟨s,by rw [hh.1];exact hs,rfl⟩
   ·exact ⟨t,ht,rfl⟩
  obtain ⟨a,ha,ea⟩:=old i t ht;obtain ⟨b,hb,eb⟩:=old j u hu;rw [ea,eb];exact h.apart i j a b ha hb hij
theorem Inv.callN{X:List Nat}{H0 H H':LHeap}{kn:List Slot}(h:Inv X H0 kn H)(hp:PresX [] H H'){i:Nat}(h1:H.next<=i)(h2:i<H'.next){cs:List LV}{e:TypeId}(hg:H'.get i=some (Slot.obj ⟨i,cs,e⟩)):
  Inv X H0 (kn++[⟨i,cs,e⟩]) H':=by
 have h':=h.on hp (fun i hi=>by cases hi);have old:∀k s,nth (kn++[(⟨i,cs,e⟩:Slot)]) k=some s->(k<kn.length/\nth kn k=some s)\/(k=kn.length/\s=⟨i,cs,e⟩):=by
  intro k s hs;rw [nth_eq] at hs;by_cases hk:k<kn.length
  ·rw [List.getElem?_append_left hk,<-nth_eq] at hs;exact .inl ⟨hk,hs⟩
  ·rw [List.getElem?_append_right (by omega)] at hs;have:=(List.getElem?_eq_some_iff.1 hs).1;simp at this;rw [this] at hs;simp at hs;exact .inr ⟨by omega,hs.symm⟩
 refine ⟨h'.pres,fun k s hs=> ?_,fun j k s t hs ht hjk=> ?_⟩
 ·rcases old k s hs with ⟨_,a⟩ |⟨_,rfl⟩
  ·exact h'.slot k s a
  ·exact ⟨h2,hg,.inr (Nat.le_trans h.pres.next h1)⟩
 ·rcases old j s hs with ⟨_,a⟩ |⟨a1,rfl⟩<;>rcases old k t ht with ⟨_,b⟩ |⟨b1,rfl⟩
  ·exact h.apart j k s t a b hjk
  ·exact Nat.ne_of_lt (Nat.lt_of_lt_of_le (h.slot j s a).1 h1)
  ·exact fun e=>Nat.ne_of_lt (Nat.lt_of_lt_of_le (h.slot k t b).1 h1) e.symm
  ·omega
structure GX where
 f:FuncId
 F:FX
 R:LV->LHeap->Prop
 J:Option Code->LHeap->Prop
 Pn:List LV->LV->LHeap->Prop
 E:List LV->LHeap->Prop
def gF(f:FuncId)(R:LV->LHeap->Prop):GX:=⟨f,⟨[],none,false⟩,R,fun _ _=>False,fun _ _ _=>False,fun _ _=>False⟩
def gP(f:FuncId)(R Pn:LV->LHeap->Prop):GX:=⟨f,⟨[],none,false⟩,R,fun _ _=>False,fun _=>Pn,fun _ _=>False⟩
def gD(f:FuncId)(ds:List LDef)(dd:Bool)(E:List LV->LHeap->Prop)(Pn:List LV->LV->LHeap->Prop):GX:=⟨f,⟨ds,none,dd⟩,fun _ _=>False,fun _ _=>False,Pn,E⟩
def ContG(C:Cfg)(g:GX)(cs:List LFrame)(p:LState->Prop):Prop:=
 match g.F.ro with
 |none=>(∀fr' v H',Retd C g.f fr' v H'->g.R v H'->Ends C p ⟨fr',cs,H'⟩)/\
  (∀tmps todo v H',g.Pn tmps v H'->Ends C p ⟨{ mkX g.F g.f tmps todo with mode:=.panicking [⟨v,false⟩] },cs,H'⟩)/\
  ∀tmps todo H',g.E tmps H'->Ends C p ⟨{ mkX g.F g.f tmps todo with mode:=.returning },cs,H'⟩
 |some l=>∃c rest,cs=c::rest/\∀j H',g.J j H'->∃r c',loopOf H' l=some r/\finishL c (.bool j.isNone)=some c'/\Ends C p ⟨c',rest,H'.put l (.loop { r with state:=if j.isNone then .ready else .done,pending:=j })⟩
def loseR(tmps:List LV):List LItem->List LV
 | .drawn ops _ _ _ _ _::_=>loseT ops.toList tmps
 |_=>tmps
def EndsG(C:Cfg)(g:GX)(fr:LFrame)(H:LHeap):Prop:=
 ∀cs p,ContG C g cs p->Ends C p ⟨fr,cs,H⟩
theorem EndsG.stepF{C:Cfg}{g:GX}{fr fr':LFrame}{H H':LHeap}(hs:lstepF C fr H=some (fr',H'))(h:EndsG C g fr' H'):EndsG C g fr H:=
 fun cs p k=>.step (lstepF_ok cs hs) fun s hm=>by rw [List.mem_singleton.1 hm];exact h cs p k
def YieldL(C:Cfg)(l:Nat)(args:List LV)(H:LHeap)(S:LV->LHeap->Prop):Prop:=
 ∃f t a b,yieldL H l args=some (.round l f t a b,H)/\∀fr cs p,(∀v H',S v H'->∃c,finishL fr v=some c/\Ends C p ⟨c,cs,H'⟩)->
  Ends C p ⟨⟨f,t,[.code a,.beginRound,.code b],[],.run,false,some l⟩,fr::cs,H⟩
def GoesG(C:Cfg)(g:GX)(X:List Nat)(H0:LHeap)(kn:List Slot)(tmps:List SV)(todo:List LItem)(H:LHeap):Prop:=
 (∀x∈tmps,inR kn.length x=true)->Inv X H0 kn H->EndsG C g (mkX g.F g.f (tmps.map (denF kn)) todo) H
abbrev GoesT(C:Cfg)(f:FuncId)(R:LV->LHeap->Prop):List Nat->LHeap->List Slot->List SV->List LItem->LHeap->Prop:=GoesG C (gF f R)
def wpG(C:Cfg)(g:GX)(X:List Nat)(H0:LHeap):Hs->List Slot->List SV->List LItem->LHeap->Prop
 | .need,_,_,_,_=>False
 | .alt k1 k2,kn,tmps,todo,H=>wpG C g X H0 k1 kn tmps todo H\/wpG C g X H0 k2 kn tmps todo H
 | .go n k,kn,tmps,todo,H=>goS C kn H n tmps todo fun tmps' todo'=>wpG C g X H0 k kn tmps' todo' H
 | .cases t k1 k2,kn,tmps,todo,H=>match nth tmps t with
  |some (.lv (.bool b))=>(b=true->wpG C g X H0 k1 kn (setNth tmps t (.lv (.bool true))) todo H)/\(b=false->wpG C g X H0 k2 kn (setNth tmps t (.lv (.bool false))) todo H)
  |_=>False
 | .op sh k,kn,tmps,todo,H=>match nowS C kn tmps todo with
  |some (o,ρ,todo')=>match neutral C (fun x=>denF kn (ρ x)) o with
   |true=>opW C (fun x=>denF kn (ρ x)) H o sh fun v _=>match finishS tmps (.lv v) todo' with
    |some (tmps',todo'')=>wpG C g X H0 k kn tmps' todo'' H
    |none=>False
   |false=>False
  |none=>False
 | .box k,kn,tmps,todo,_=>match nowS C kn tmps todo with
  |some (o,ρ,todo')=>match boxOf C kn ρ o with
   |some (cs,t)=>match allCells cs,finishS tmps (.own kn.length 0) todo' with
    |true,some (tmps',todo'')=>∀(i:Nat) (H':LHeap),wpG C g X H0 k (kn++[⟨i,cs,t⟩]) tmps' todo'' H'
    |_,_=>False
   |none=>False
  |none=>False
 | .put k,kn,tmps,todo,_=>match nowS C kn tmps todo with
  |some (o,ρ,todo')=>match o.op with
   | .store t a x=>match ρ a with
    | .own j off=>match nth kn j with
     |some s=>match slotStore C.P s.cs t off (denF kn (ρ x)),finishS tmps (.lv .undef) todo' with
      |some cs,some (tmps',todo'')=>∀H':LHeap,wpG C g X H0 k (setNth kn j ⟨s.id,cs,s.e⟩) tmps' todo'' H'
      |_,_=>False
     |none=>False
    | .lv _=>False
   |_=>False
  |none=>False
 | .boxP k,kn,tmps,todo,H=>match nowS C kn tmps todo with
  |some (o,ρ,todo')=>match boxOf C kn ρ o with
   |some (cs,t)=>match allCells cs,finishS tmps (.own kn.length 0) todo' with
    |true,some (tmps',todo'')=>∀(i:Nat) (H':LHeap),H.next<=i->PresX [] H H'->wpG C g X H0 k (kn++[⟨i,cs,t⟩]) tmps' todo'' H'
    |_,_=>False
   |none=>False
  |none=>False
 | .putP k,kn,tmps,todo,H=>match nowS C kn tmps todo with
  |some (o,ρ,todo')=>match o.op with
   | .store t a x=>match ρ a with
    | .own j off=>match nth kn j with
     |some s=>match slotStore C.P s.cs t off (denF kn (ρ x)),finishS tmps (.lv .undef) todo' with
      |some cs,some (tmps',todo'')=>∀H':LHeap,PresX [s.id] H H'->wpG C g X H0 k (setNth kn j ⟨s.id,cs,s.e⟩) tmps' todo'' H'
      |_,_=>False
     |none=>False
    | .lv _=>False
   |_=>False
  |none=>False
 | .store k,kn,tmps,todo,H=>match nowS C kn tmps todo with
  |some (o,ρ,todo')=>match o.op with
   | .store t a x=>match ρ a with
    | .lv (.ptr p)=>∃H',(storeP C.P H t p (denF kn (ρ x)) H'/\okId X H0 kn (adr p).id)/\match finishS tmps (.lv .undef) todo' with
     |some (tmps',todo'')=>wpG C g X H0 k kn tmps' todo'' H'
     |none=>False
    |_=>False
   |_=>False
  |none=>False
 | .row k,kn,tmps,todo,H=>match nowS C kn tmps todo with
  |some (o,ρ,todo')=>match o.op with
   | .buildSlice t n parts=>match buildSliceL C.P H t n (parts.toList.map fun (i,x)=>(i,denF kn (ρ x))) with
    |some (v,H1)=>match finishS tmps (.lv v) todo' with
     |some (tmps',todo'')=>∀H',H'=H1->wpG C g X H0 k kn tmps' todo'' H'
     |none=>False
    |none=>False
   |_=>False
  |none=>False
 | .app k,kn,tmps,todo,H=>match nowS C kn tmps todo with
  |some (o,ρ,todo')=>match o.op with
   | .call c=>match c.callee with
    | .builtin .append=>∃Y a n q H',(appendL C.P H c.argTypes.toList (c.args.toList.map fun x=>denF kn (ρ x))=some (.slice a n q,H')/\PresX Y H H'/\∀i∈Y,okId X H0 kn i)/\
     match finishS tmps (.lv (.slice a n q)) todo' with
     |some (tmps',todo'')=>wpG C g X H0 k kn tmps' todo'' H'
     |none=>False
    |_=>False
   |_=>False
  |none=>False
 | .any sh k,kn,tmps,todo,H=>match nowS C kn tmps todo with
  |some (o,ρ,todo')=>exSh sh fun v=>∃Y H',(opL C (fun x=>denF kn (ρ x)) H o=some [(.value v,H')]/\PresX Y H H'/\∀i∈Y,okId X H0 kn i)/\
   match finishS tmps (.lv v) todo' with
   |some (tmps',todo'')=>wpG C g X H0 k kn tmps' todo'' H'
   |none=>False
  |none=>False
 | .call sh k,kn,tmps,todo,H=>match nowS C kn tmps todo with
  |some (o,ρ,todo')=>match o.op with
   | .call c=>match c.callee with
    | .value _=>match resolveL (fun x=>denF kn (ρ x)) c with
     |some ⟨.fn (.func fn) cap,args⟩=>match C.orc fn,C.ext fn with
      |none,none=>∃S,CallL C fn (args++cap) H S/\(∀v H',S v H'->PresX [] H H'/\hasSh sh v)/\allSh sh fun v=>∀H',S v H'->match finishS tmps (.lv v) todo' with
       |some (tmps',todo'')=>wpG C g X H0 k kn tmps' todo'' H'
       |none=>False
      |_,_=>False
     |_=>False
    |_=>False
   |_=>False
  |none=>False
 | .callY sh k,kn,tmps,todo,H=>match nowS C kn tmps todo with
  |some (o,ρ,todo')=>match o.op with
   | .call c=>match c.callee with
    | .value _=>match resolveL (fun x=>denF kn (ρ x)) c with
     |some ⟨.fn (.func fn) cap,args⟩=>match C.orc fn,C.ext fn with
      |none,none=>∃S Y,CallL C fn (args++cap) H S/\(∀v H',S v H'->PresX Y H H'/\hasSh sh v)/\(∀i∈Y,okId X H0 kn i)/\allSh sh fun v=>∀H',S v H'->match finishS tmps (.lv v) todo' with
       |some (tmps',todo'')=>wpG C g X H0 k kn tmps' todo'' H'
       |none=>False
      |_,_=>False
     |_=>False
    |_=>False
   |_=>False
  |none=>False
 | .yld sh k,kn,tmps,todo,H=>match nowS C kn tmps todo with
  |some (o,ρ,todo')=>match o.op with
   | .call c=>match c.callee with
    | .value _=>match resolveL (fun x=>denF kn (ρ x)) c with
     |some ⟨.fn (.yield l) _,args⟩=>∃S Y,YieldL C l args H S/\(∀v H',S v H'->PresX Y H H'/\hasSh sh v)/\(∀i∈Y,okId X H0 kn i)/\allSh sh fun v=>∀H',S v H'->match finishS tmps (.lv v) todo' with
      |some (tmps',todo'')=>wpG C g X H0 k kn tmps' todo'' H'
      |none=>False
     |_=>False
    |_=>False
   |_=>False
  |none=>False
 | .callO j shc sh k,kn,tmps,todo,H=>match nowS C kn tmps todo with
  |some (o,ρ,todo')=>match o.op with
   | .call c=>match c.callee with
    | .value _=>match resolveL (fun x=>denF kn (ρ x)) c with
     |some ⟨.fn (.func fn) cap,args⟩=>match C.orc fn,C.ext fn,nth kn j with
      |none,none,some s=>∃S,CallL C fn (args++cap) H S/\(∀v H',S v H'->PresX [s.id] H H'/\hasSh sh v/\∃cs,hasSh shc (.agg cs)/\cs.length=s.cs.length/\H'.get s.id=some (Slot.obj ⟨s.id,cs,s.e⟩))/\
       allSh sh fun v=>allSh shc fun w=>∀H',S v H'->match w with
        | .agg cs=>H'.get s.id=some (Slot.obj ⟨s.id,cs,s.e⟩)->match finishS tmps (.lv v) todo' with
         |some (tmps',todo'')=>wpG C g X H0 k (setNth kn j ⟨s.id,cs,s.e⟩) tmps' todo'' H'
         |none=>False
        |_=>True
      |_,_,_=>False
     |_=>False
    |_=>False
   |_=>False
  |none=>False
 | .callOY j shc sh k,kn,tmps,todo,H=>match nowS C kn tmps todo with
  |some (o,ρ,todo')=>match o.op with
   | .call c=>match c.callee with
    | .value _=>match resolveL (fun x=>denF kn (ρ x)) c with
     |some ⟨.fn (.func fn) cap,args⟩=>match C.orc fn,C.ext fn,nth kn j with
      |none,none,some s=>∃S Y,CallL C fn (args++cap) H S/\(∀v H',S v H'->PresX (s.id::Y) H H'/\hasSh sh v/\∃cs,hasSh shc (.agg cs)/\cs.length=s.cs.length/\H'.get s.id=some (Slot.obj ⟨s.id,cs,s.e⟩))/\(∀i∈Y,okId X H0 kn i)/\
       allSh sh fun v=>allSh shc fun w=>∀H',S v H'->match w with
        | .agg cs=>H'.get s.id=some (Slot.obj ⟨s.id,cs,s.e⟩)->match finishS tmps (.lv v) todo' with
         |some (tmps',todo'')=>wpG C g X H0 k (setNth kn j ⟨s.id,cs,s.e⟩) tmps' todo'' H'
         |none=>False
        |_=>True
      |_,_,_=>False
     |_=>False
    |_=>False
   |_=>False
  |none=>False
 | .callN shc e k,kn,tmps,todo,H=>match nowS C kn tmps todo with
  |some (o,ρ,todo')=>match o.op with
   | .call c=>match c.callee with
    | .value _=>match resolveL (fun x=>denF kn (ρ x)) c with
     |some ⟨.fn (.func fn) cap,args⟩=>match C.orc fn,C.ext fn with
      |none,none=>∃S,CallL C fn (args++cap) H S/\(∀v H',S v H'->PresX [] H H'/\∃i cs,v=.ptr (some ⟨i,cs.length,0⟩)/\H.next<=i/\i<H'.next/\hasSh shc (.agg cs)/\H'.get i=some (Slot.obj ⟨i,cs,e⟩))/\
       allSh shc fun w=>∀i H',match w with
        | .agg cs=>S (.ptr (some ⟨i,cs.length,0⟩)) H'->H'.get i=some (Slot.obj ⟨i,cs,e⟩)->match finishS tmps (.own kn.length 0) todo' with
         |some (tmps',todo'')=>wpG C g X H0 k (kn++[⟨i,cs,e⟩]) tmps' todo'' H'
         |none=>False
        |_=>True
      |_,_=>False
     |_=>False
    |_=>False
   |_=>False
  |none=>False
 | .callP j shc sh k,kn,tmps,todo,H=>match g.F.ro with
  |none=>match nowS C kn tmps todo with
   |some (o,ρ,todo')=>match o.op with
    | .call c=>match c.callee with
     | .value _=>match resolveL (fun x=>denF kn (ρ x)) c with
      |some ⟨.fn (.func fn) cap,args⟩=>match C.orc fn,C.ext fn,nth kn j with
       |none,none,some s=>∃S Sn Y,CallP C fn (args++cap) H S Sn/\(∀v H',S v H'->PresX (s.id::Y) H H'/\hasSh sh v/\∃cs,hasSh shc (.agg cs)/\cs.length=s.cs.length/\H'.get s.id=some (Slot.obj ⟨s.id,cs,s.e⟩))/\(∀i∈Y,okId X H0 kn i)/\
        (∀v H',Sn v H'->PresX (s.id::Y) H H'/\∃cs,cs.length=s.cs.length/\H'.get s.id=some (Slot.obj ⟨s.id,cs,s.e⟩))/\
        (∀v H' cs,Sn v H'->Inv X H0 (setNth kn j ⟨s.id,cs,s.e⟩) H'->g.Pn (loseR (tmps.map (denF kn)) todo') v H')/\
        allSh sh fun v=>allSh shc fun w=>∀H',S v H'->match w with
         | .agg cs=>H'.get s.id=some (Slot.obj ⟨s.id,cs,s.e⟩)->match finishS tmps (.lv v) todo' with
          |some (tmps',todo'')=>wpG C g X H0 k (setNth kn j ⟨s.id,cs,s.e⟩) tmps' todo'' H'
          |none=>False
         |_=>True
       |_,_,_=>False
      |_=>False
     |_=>False
    |_=>False
   |none=>False
  |some _=>False
 | .panic,kn,tmps,todo,H=>match g.F.ro with
  |none=>match nowS C kn tmps todo with
   |some (o,ρ,todo')=>match o.op with
    | .panic x=>match denF kn (ρ x) with
     | .iface t y=>g.Pn (loseR (tmps.map (denF kn)) todo') (.iface t y) H
     |_=>False
    |_=>False
   |none=>False
  |some _=>False
 | .defer k,kn,tmps,todo,H=>match g.F.ds,g.F.ro,g.F.dd with
  |[],none,false=>match nowS C kn tmps todo with
   |some (o,ρ,todo')=>match o.op with
    | .defer c=>match resolveL (fun x=>denF kn (ρ x)) c with
     |some d=>match finishS tmps (.lv .undef) todo' with
      |some (tmps',todo'')=>∃(E:List LV->LHeap->Prop) (Pn:List LV->LV->LHeap->Prop),(∀cs p,ContG C g cs p->ContG C (gD g.f [d] false E Pn) cs p)/\wpG C (gD g.f [d] false E Pn) X H0 k kn tmps' todo'' H
      |none=>False
     |none=>False
    |_=>False
   |none=>False
  |_,_,_=>False
 | .retE,kn,tmps,todo,H=>match g.F.ro with
  |none=>match (match todo with
    | .code .ret::_=>true
    |[]=>true
    |_=>false) with
   |true=>g.E (tmps.map (denF kn)) H
   |false=>False
  |some _=>False
 | .check k,kn,tmps,todo,H=>match todo with
  | .drawn ops b tm0 done pend true::k'=>match pickNext C.P ops done pend with
   |none=>lookS C kn H ops b tm0 tmps (match lastE C.P ops done with
    |some e=>befOf b e
    |none=>[]) (wpG C g X H0 k kn tmps (.drawn ops b tm0 done pend false::k') H) done [] []
   |some _=>False
  |_=>False
 | .facts k,kn,tmps,todo,H=>Inv X H0 kn H->wpG C g X H0 k kn tmps todo H
 | .stop live m,kn,tmps,todo,H=>∀d:Nat->LV,match (tmSelS live d 0 tmps).all (inR m) with
  |true=>GoesG C g X H0 (kn.take m) (tmSelS live d 0 tmps) todo H
  |false=>False
 | .ret,kn,tmps,todo,H=>match g.F.dd with
  |true=>False
  |false=>match g.F.ro with
   |none=>match (match todo with
     | .code .ret::_=>true
     |[]=>true
     |_=>false),C.P.funcs[g.f]? with
    |true,some fn=>match mapO (resS C kn H tmps) fn.results.toList with
     |some vs=>match g.F.ds with
      |[]=>g.R (resV vs) H
      |[⟨.collected d,_⟩]=>H.get d=some (.deferred (some []))/\g.R (resV vs) (H.put d (.deferred none))
      |[⟨.collected d,_⟩,⟨.collected d',_⟩]=>H.get d=some (.deferred (some []))/\(H.put d (.deferred none)).get d'=some (.deferred (some []))/\g.R (resV vs) ((H.put d (.deferred none)).put d' (.deferred none))
      |_=>False
     |none=>False
    |_,_=>False
   |some _=>match todo with
    |[]=>g.J none H
    | .code .ret::_=>g.J (some .ret) H
    | .code (.exit id)::k=>match exitToL id k with
     |none=>g.J (some (.exit id)) H
     |some _=>False
    |_=>False
abbrev wpT(C:Cfg)(f:FuncId)(R:LV->LHeap->Prop):List Nat->LHeap->Hs->List Slot->List SV->List LItem->LHeap->Prop:=wpG C (gF f R)
theorem goS_sound{C:Cfg}{g:GX}{X:List Nat}{H0 H:LHeap}{kn:List Slot}{K:List SV->List LItem->Prop}(hI:Inv X H0 kn H)
  (hK:∀tmps todo,K tmps todo->(∀x∈tmps,inR kn.length x=true)->EndsG C g (mkX g.F g.f (tmps.map (denF kn)) todo) H):
  ∀(n:Nat) (tmps:List SV) (todo:List LItem),goS C kn H n tmps todo K->(∀x∈tmps,inR kn.length x=true)->EndsG C g (mkX g.F g.f (tmps.map (denF kn)) todo) H
 |0,tmps,todo,h,hin=>hK tmps todo h hin
 |n+1,tmps,todo,h,hin=>by
  unfold goS at h;split at h
  ·rename_i t1 t2 hs;obtain ⟨h1,h2⟩:=stepS_spec (F:=g.F) (f:=g.f) hI hin hs;exact (goS_sound hI hK n t1 t2 h h2).stepF h1
  ·exact h.elim
theorem nowS_spec{C:Cfg}{F:FX}{f:FuncId}{kn:List Slot}{tmps:List SV}{todo todo':List LItem}{o:Oper}{ρ:Operand->SV}(h:nowS C kn tmps todo=some (o,ρ,todo'))(hin:∀x∈tmps,inR kn.length x=true):
  (∀x,inR kn.length (ρ x)=true)/\∀(cs:List LFrame) (H:LHeap),lstep C ⟨mkX F f (tmps.map (denF kn)) todo,cs,H⟩=match opL C (fun x=>denF kn (ρ x)) H o with
    |some l=>mapO (afterL C (mkX F f (tmps.map (denF kn)) todo') cs) l
    |none=>none:=by
 unfold nowS at h;split at h
 ·rename_i ops i ρ1 t1 hr;split at h
  ·rename_i o1 ho;split at h
   ·rename_i hw;cases h;refine ⟨regionS_in hin hr,fun cs H=> ?_⟩;rw [regionNow_step (regionS_now (F:=F) (f:=f) (kn:=kn) hr) cs H];have hw':wantedL ops (mkX F f (tmps.map (denF kn)) todo').tmps o=some true:=hw;simp only [stepRegion,ho,hw'];rfl
   ·cases h
  ·cases h
 ·cases h
theorem ends_op{C:Cfg}{g:GX}{kn kn':List Slot}{tmps tmps':List SV}{todo todo' todo'':List LItem}{o:Oper}{ρ:Operand->SV}(h:nowS C kn tmps todo=some (o,ρ,todo'))(hin:∀x∈tmps,inR kn.length x=true)
  {H H':LHeap} {v:SV} (ho:opL C (fun x=>denF kn (ρ x)) H o=some [(.value (denF kn' v),H')]) (hf:finishS tmps v todo'=some (tmps',todo'')) (hd:∀x∈tmps,denF kn' x=denF kn x)
  (k:EndsG C g (mkX g.F g.f (tmps'.map (denF kn')) todo'') H'):EndsG C g (mkX g.F g.f (tmps.map (denF kn)) todo) H:=by
 intro cs p hk;refine .step (l:=[⟨mkX g.F g.f (tmps'.map (denF kn')) todo'',cs,H'⟩]) ?_ fun s hm=>by rw [List.mem_singleton.1 hm];exact k cs p hk
 rw [(nowS_spec (F:=g.F) (f:=g.f) h hin).2 cs H,ho];have hm:tmps.map (denF kn)=tmps.map (denF kn'):=List.map_congr_left fun x hx=>(hd x hx).symm;simp only [mapO,afterL,hm,finishS_den (F:=g.F) (f:=g.f) (kn:=kn') hf,Option.map_some]
theorem finishS_in{tmps tmps':List SV}{v:SV}{todo todo':List LItem}{n m:Nat}(h:finishS tmps v todo=some (tmps',todo'))(hin:∀x∈tmps,inR n x=true)(hv:inR m v=true)(hnm:n<=m):∀x∈tmps',inR m x=true:=by
 intro x hx;rcases finishS_mem h x hx with h |h
 ·have:=hin x h;cases x with
  |lv v=>rfl
  |own k off=>simp only [inR,Nat.ble_eq] at this |-;omega
 ·rw [h];exact hv
theorem buildSliceL_pres{P:Program}{H H':LHeap}{t:TypeId}{n:Nat}{parts:List (Nat×LV)}{v:LV}(h:buildSliceL P H t n parts=some (v,H')):PresX [] H H':=by
 have row:∀{e:TypeId} {cs:List LV} {wh:Bool} {a:LAddr} {H1:LHeap},newRow H e cs wh=some (a,H1)->PresX [] H H1:=by
  intro e cs wh a H1 h;unfold newRow at h;split at h
  ·cases h;exact .push _ _ _
  ·cases h
 unfold buildSliceL at h;split at h
 ·cases h
 ·split at h
  ·split at h
   ·rename_i hr;cases h;exact row hr
   ·cases h
  ·split at h
   ·split at h
    ·split at h
     ·split at h
      ·rename_i hr;cases h;exact row hr
      ·cases h
     ·cases h
    ·cases h
   ·cases h
theorem storeN_pres{H H':LHeap}{a:LAddr}{vs:List LV}(h:storeN H a vs=some H'):PresX [a.id] H H':=by
 unfold storeN at h;split at h
 ·cases h;exact .refl _ _
 ·split at h
  ·split at h
   ·split at h
    ·cases h;exact .put _ _ _
    ·cases h
   ·cases h
  ·cases h
theorem storeP_pres{P:Program}{H H':LHeap}{t:TypeId}{p:Option LAddr}{v:LV}(h:storeP P H t p v H'):PresX [(adr p).id] H H':=by
 unfold storeP at h;split at h
 ·unfold storeT at h;split at h
  ·split at h
   ·exact storeN_pres h
   ·cases h
  ·cases h
 ·exact h.elim
theorem tmSelS_self(kn:List Slot)(live:List Nat)(d:Nat->LV):∀(l:List SV) (i:Nat),(∀j v,l[j]? =some v->d (i+j)=denF kn v)->(tmSelS live d i l).map (denF kn)=l.map (denF kn)
 |[],_,_=>rfl
 |v::l,i,h=>by
  unfold tmSelS;rw [List.map_cons,List.map_cons,tmSelS_self kn live d l (i+1) fun j w hj=>by rw [show i+1+j=i+(j+1) by omega];exact h (j+1) w (by simpa using hj)];have:=h 0 v (by simp);rw [Nat.add_zero] at this;congr 1;split
  ·rfl
  ·simp only [denF];exact this
theorem wt_sound{C:Cfg}{g:GX}{X:List Nat}{H0:LHeap}:∀(k:Hs) (kn:List Slot) (tmps:List SV) (todo:List LItem) (H:LHeap),wpG C g X H0 k kn tmps todo H->GoesG C g X H0 kn tmps todo H
 | .need,_,_,_,_,h=>h.elim
 | .alt k1 k2,kn,tmps,todo,H,h=>by
  unfold wpG at h;rcases h with h |h
  ·exact wt_sound k1 kn tmps todo H h
  ·exact wt_sound k2 kn tmps todo H h
 | .go n k,kn,tmps,todo,H,h=>fun hin hI=>goS_sound hI (fun tmps todo h hin=>wt_sound k kn tmps todo H h hin hI) n tmps todo h hin
 | .cases t k1 k2,kn,tmps,todo,H,h=>by
  intro hin hI;unfold wpG at h;split at h
  ·rename_i b hb;obtain ⟨h1,h2⟩:=h;cases b with
   |true=>
    have:=wt_sound k1 kn _ todo H (h1 rfl);rw [set_same hb] at this;exact this hin hI
   |false=>
    have:=wt_sound k2 kn _ todo H (h2 rfl);rw [set_same hb] at this;exact this hin hI
  ·exact h.elim
 | .op sh k,kn,tmps,todo,H,h=>by
  intro hin hI;unfold wpG at h;split at h
  ·rename_i o ρ todo' hn;split at h
   ·rename_i hne;obtain ⟨v,H',h1,h2⟩:=opW_sound h;obtain rfl:=neutral_heap hne h1;split at h2
    ·rename_i tmps' todo'' hf;exact ends_op (kn':=kn) (v:=.lv v) hn hin h1 hf (fun _ _=>rfl) (wt_sound k kn tmps' todo'' _ h2 (finishS_in hf hin rfl (Nat.le_refl _)) hI)
    ·exact h2.elim
   ·exact h.elim
  ·exact h.elim
 | .box k,kn,tmps,todo,H,h=>by
  intro hin hI;unfold wpG at h;split at h
  ·rename_i o ρ todo' hn;split at h
   ·rename_i cs t hb;split at h
    ·rename_i tmps' todo'' hc hf;have ho:opL C (fun x=>denF kn (ρ x)) H o=some [(.value (denF (kn++[⟨H.next,cs,t⟩]) (.own kn.length 0)),H.push (.cells cs t cs.length cs.length .none false true))]:=by
      have hden:denF (kn++[⟨H.next,cs,t⟩]) (.own kn.length 0)=.ptr (some ⟨H.next,cs.length,0⟩):=by
       simp only [denF,nth_eq];rw [List.getElem?_append_right (Nat.le_refl _)];simp
      rw [hden];unfold boxOf at hb;split at hb
      ·rename_i t' hop;split at hb
       ·rename_i z hz;cases hb;simp only [opL,hop,hz,newRow,hc,if_true]
       ·cases hb
      ·rename_i t' x hop;cases hb;simp only [opL,hop,newRow,hc,if_true]
      ·cases hb
     refine ends_op (kn':=kn++[⟨H.next,cs,t⟩]) hn hin ho hf (fun x hx=>denF_app (hin x hx) _) (wt_sound k _ tmps' todo'' _ (h H.next _) (finishS_in hf hin ?_ ?_) (hI.box cs t))
     ·simp [inR]
     ·simp
    ·exact h.elim
   ·exact h.elim
  ·exact h.elim
 | .put k,kn,tmps,todo,H,h=>by
  intro hin hI;unfold wpG at h;split at h
  ·rename_i o ρ todo' hn;split at h
   ·rename_i t a x hop;split at h
    ·rename_i j off ha;split at h
     ·rename_i s hs;split at h
      ·rename_i cs tmps' todo'' hst hf;obtain ⟨h1,h2,h3⟩:=hI.slot j s hs;obtain ⟨hl,H1,g1,g2⟩:=slotStore_spec h2 hst;have ho:opL C (fun x=>denF kn (ρ x)) H o=some [(.value (denF (setNth kn j ⟨s.id,cs,s.e⟩) (.lv .undef)),H1)]:=by
        have hda:denF kn (ρ a)=.ptr (some ⟨s.id,s.cs.length,off⟩):=by rw [ha];simp only [denF,hs]
        simp only [opL,hop,hda,g1];rfl
       have hI':Inv X H0 (setNth kn j ⟨s.id,cs,s.e⟩) H1:=by
        rcases g2 with ⟨rfl,rfl⟩ |rfl
        ·have:setNth kn j ⟨s.id,s.cs,s.e⟩=kn:=set_same hs;rw [this];exact hI
        ·exact hI.put hs cs hl
       refine ends_op (kn':=setNth kn j ⟨s.id,cs,s.e⟩) (v:=.lv .undef) hn hin ho hf (fun x _=>denF_set hs cs hl x) (wt_sound k _ tmps' todo'' H1 (h H1) (finishS_in hf hin rfl ?_) hI');rw [setNth_eq,List.length_set];exact Nat.le_refl _
      ·exact h.elim
     ·exact h.elim
    ·exact h.elim
   ·exact h.elim
  ·exact h.elim
 | .boxP k,kn,tmps,todo,H,h=>by
  intro hin hI;unfold wpG at h;split at h
  ·rename_i o ρ todo' hn;split at h
   ·rename_i cs t hb;split at h
    ·rename_i tmps' todo'' hc hf;have ho:opL C (fun x=>denF kn (ρ x)) H o=some [(.value (denF (kn++[⟨H.next,cs,t⟩]) (.own kn.length 0)),H.push (.cells cs t cs.length cs.length .none false true))]:=by
      have hden:denF (kn++[⟨H.next,cs,t⟩]) (.own kn.length 0)=.ptr (some ⟨H.next,cs.length,0⟩):=by
       simp only [denF,nth_eq];rw [List.getElem?_append_right (Nat.le_refl _)];simp
      rw [hden];unfold boxOf at hb;split at hb
      ·rename_i t' hop;split at hb
       ·rename_i z hz;cases hb;simp only [opL,hop,hz,newRow,hc,if_true]
       ·cases hb
      ·rename_i t' x hop;cases hb;simp only [opL,hop,newRow,hc,if_true]
      ·cases hb
     refine ends_op (kn':=kn++[⟨H.next,cs,t⟩]) hn hin ho hf (fun x hx=>denF_app (hin x hx) _) (wt_sound k _ tmps' todo'' _ (h H.next _ (Nat.le_refl _) (.push _ _ _)) (finishS_in hf hin ?_ ?_) (hI.box cs t))
     ·simp [inR]
     ·simp
    ·exact h.elim
   ·exact h.elim
  ·exact h.elim
 | .putP k,kn,tmps,todo,H,h=>by
  intro hin hI;unfold wpG at h;split at h
  ·rename_i o ρ todo' hn;split at h
   ·rename_i t a x hop;split at h
    ·rename_i j off ha;split at h
     ·rename_i s hs;split at h
      ·rename_i cs tmps' todo'' hst hf;obtain ⟨h1,h2,h3⟩:=hI.slot j s hs;obtain ⟨hl,H1,g1,g2⟩:=slotStore_spec h2 hst;have ho:opL C (fun x=>denF kn (ρ x)) H o=some [(.value (denF (setNth kn j ⟨s.id,cs,s.e⟩) (.lv .undef)),H1)]:=by
        have hda:denF kn (ρ a)=.ptr (some ⟨s.id,s.cs.length,off⟩):=by rw [ha];simp only [denF,hs]
        simp only [opL,hop,hda,g1];rfl
       have hI':Inv X H0 (setNth kn j ⟨s.id,cs,s.e⟩) H1:=by
        rcases g2 with ⟨rfl,rfl⟩ |rfl
        ·have:setNth kn j ⟨s.id,s.cs,s.e⟩=kn:=set_same hs;rw [this];exact hI
        ·exact hI.put hs cs hl
       refine ends_op (kn':=setNth kn j ⟨s.id,cs,s.e⟩) (v:=.lv .undef) hn hin ho hf (fun x _=>denF_set hs cs hl x) (wt_sound k _ tmps' todo'' H1 (h H1 (by
        rcases g2 with ⟨rfl,rfl⟩ |rfl
        ·exact .refl _ _
        ·exact .put _ _ _)) (finishS_in hf hin rfl ?_) hI')
       rw [setNth_eq,List.length_set];exact Nat.le_refl _
      ·exact h.elim
     ·exact h.elim
    ·exact h.elim
   ·exact h.elim
  ·exact h.elim
 | .store k,kn,tmps,todo,H,h=>by
  intro hin hI;unfold wpG at h;split at h
  ·rename_i o ρ todo' hn;split at h
   ·rename_i t a x hop;split at h
    ·rename_i p ha;obtain ⟨H',⟨h1,h2⟩,h3⟩:=h;split at h3
     ·rename_i tmps' todo'' hf;have hp:=storeP_pres h1;have ho:opL C (fun x=>denF kn (ρ x)) H o=some [(.value (denF kn (.lv .undef)),H')]:=by
       unfold storeP at h1;split at h1
       ·rename_i ad;have hda:denF kn (ρ a)=.ptr (some ad):=by rw [ha];rfl
        simp only [opL,hop,hda,h1];rfl
       ·exact h1.elim
      exact ends_op (kn':=kn) (v:=.lv .undef) hn hin ho hf (fun _ _=>rfl) (wt_sound k kn tmps' todo'' H' h3 (finishS_in hf hin rfl (Nat.le_refl _)) (hI.on hp fun i hi=>by rw [List.mem_singleton.1 hi];exact h2))
     ·exact h3.elim
    ·exact h.elim
   ·exact h.elim
  ·exact h.elim
 | .row k,kn,tmps,todo,H,h=>by
  intro hin hI;unfold wpG at h;split at h
  ·rename_i o ρ todo' hn;split at h
   ·rename_i t n parts hop;split at h
    ·rename_i v H1 hb;split at h
     ·rename_i tmps' todo'' hf;have ho:opL C (fun x=>denF kn (ρ x)) H o=some [(.value (denF kn (.lv v)),H1)]:=by
       simp only [opL,hop,hb];rfl
      exact ends_op (kn':=kn) (v:=.lv v) hn hin ho hf (fun _ _=>rfl) (wt_sound k kn tmps' todo'' H1 (h H1 rfl) (finishS_in hf hin rfl (Nat.le_refl _)) (hI.on (buildSliceL_pres hb) fun i hi=>by cases hi))
     ·exact h.elim
    ·exact h.elim
   ·exact h.elim
  ·exact h.elim
 | .app k,kn,tmps,todo,H,h=>by
  intro hin hI;unfold wpG at h;split at h
  ·rename_i o ρ todo' hn;split at h
   ·rename_i c hop;split at h
    ·rename_i hc;obtain ⟨Y,a,n,q,H',⟨h1,h2,h3⟩,h4⟩:=h;split at h4
     ·rename_i tmps' todo'' hf;have ho:opL C (fun x=>denF kn (ρ x)) H o=some [(.value (denF kn (.lv (.slice a n q))),H')]:=by
       simp only [opL,hop,hc,builtinL,h1];rfl
      exact ends_op (kn':=kn) (v:=.lv (.slice a n q)) hn hin ho hf (fun _ _=>rfl) (wt_sound k kn tmps' todo'' H' h4 (finishS_in hf hin rfl (Nat.le_refl _)) (hI.on h2 h3))
     ·exact h4.elim
    ·exact h.elim
   ·exact h.elim
  ·exact h.elim
 | .any sh k,kn,tmps,todo,H,h=>by
  intro hin hI;unfold wpG at h;split at h
  ·rename_i o ρ todo' hn;obtain ⟨v,Y,H',⟨h1,h2,h3⟩,h4⟩:=exSh_some _ h;split at h4
   ·rename_i tmps' todo'' hf;exact ends_op (kn':=kn) (v:=.lv v) hn hin h1 hf (fun _ _=>rfl) (wt_sound k kn tmps' todo'' H' h4 (finishS_in hf hin rfl (Nat.le_refl _)) (hI.on h2 h3))
   ·exact h4.elim
  ·exact h.elim
 | .call sh k,kn,tmps,todo,H,h=>by
  intro hin hI;unfold wpG at h;split at h
  ·rename_i o ρ todo' hn;split at h
   ·rename_i c hop;split at h
    ·rename_i fc hc;split at h
     ·rename_i gn cap args hr;split at h
      ·rename_i hor hex;obtain ⟨S,h1,h2,h3⟩:=h;intro cs p hk;obtain ⟨e,he1,he2⟩:=h1.ends (fr:=mkX g.F g.f (tmps.map (denF kn)) todo') (cs:=cs) (p:=p) fun v H' hS=>by
        obtain ⟨hp,hsh⟩:=h2 v H' hS;have:=allSh_of h3 hsh H' hS;split at this
        ·rename_i tmps' todo'' hf;have hd:=finishS_den (F:=g.F) (f:=g.f) (kn:=kn) hf;simp only [denF] at hd;refine ⟨_,hd,?_⟩;exact wt_sound k kn tmps' todo'' H' this (finishS_in hf hin rfl (Nat.le_refl _)) (hI.on hp fun i hi=>by cases hi) cs p hk
        ·exact this.elim
       refine .step (l:=[⟨e,mkX g.F g.f (tmps.map (denF kn)) todo'::cs,H⟩]) ?_ fun s hm=>by rw [List.mem_singleton.1 hm];exact he2
       rw [(nowS_spec (F:=g.F) (f:=g.f) hn hin).2 cs H];simp only [opL,hop,hc,hr,invokeL,enterL,hor,hex,mapO,afterL,he1,Option.map_some]
      ·exact h.elim
     ·exact h.elim
    ·exact h.elim
   ·exact h.elim
  ·exact h.elim
 | .callY sh k,kn,tmps,todo,H,h=>by
  intro hin hI;unfold wpG at h;split at h
  ·rename_i o ρ todo' hn;split at h
   ·rename_i c hop;split at h
    ·rename_i fc hc;split at h
     ·rename_i gn cap args hr;split at h
      ·rename_i hor hex;obtain ⟨S,Y,h1,h2,hY,h3⟩:=h;intro cs p hk;obtain ⟨e,he1,he2⟩:=h1.ends (fr:=mkX g.F g.f (tmps.map (denF kn)) todo') (cs:=cs) (p:=p) fun v H' hS=>by
        obtain ⟨hp,hsh⟩:=h2 v H' hS;have:=allSh_of h3 hsh H' hS;split at this
        ·rename_i tmps' todo'' hf;have hd:=finishS_den (F:=g.F) (f:=g.f) (kn:=kn) hf;simp only [denF] at hd;refine ⟨_,hd,?_⟩;exact wt_sound k kn tmps' todo'' H' this (finishS_in hf hin rfl (Nat.le_refl _)) (hI.on hp hY) cs p hk
        ·exact this.elim
       refine .step (l:=[⟨e,mkX g.F g.f (tmps.map (denF kn)) todo'::cs,H⟩]) ?_ fun s hm=>by rw [List.mem_singleton.1 hm];exact he2
       rw [(nowS_spec (F:=g.F) (f:=g.f) hn hin).2 cs H];simp only [opL,hop,hc,hr,invokeL,enterL,hor,hex,mapO,afterL,he1,Option.map_some]
      ·exact h.elim
     ·exact h.elim
    ·exact h.elim
   ·exact h.elim
  ·exact h.elim
 | .yld sh k,kn,tmps,todo,H,h=>by
  intro hin hI;unfold wpG at h;split at h
  ·rename_i o ρ todo' hn;split at h
   ·rename_i c hop;split at h
    ·rename_i fc hc;split at h
     ·rename_i l cap args hr;obtain ⟨S,Y,⟨f,t,a,b,h1,h4⟩,h2,hY,h3⟩:=h;intro cs p hk;refine .step (l:=[⟨⟨f,t,[.code a,.beginRound,.code b],[],.run,false,some l⟩,mkX g.F g.f (tmps.map (denF kn)) todo'::cs,H⟩]) ?_ fun s hm=>by
       rw [List.mem_singleton.1 hm];refine h4 _ cs p fun v H' hS=> ?_;obtain ⟨hp,hsh⟩:=h2 v H' hS;have:=allSh_of h3 hsh H' hS;split at this
       ·rename_i tmps' todo'' hf;have hd:=finishS_den (F:=g.F) (f:=g.f) (kn:=kn) hf;simp only [denF] at hd;refine ⟨_,hd,?_⟩;exact wt_sound k kn tmps' todo'' H' this (finishS_in hf hin rfl (Nat.le_refl _)) (hI.on hp hY) cs p hk
       ·exact this.elim
      rw [(nowS_spec (F:=g.F) (f:=g.f) hn hin).2 cs H];simp only [opL,hop,hc,hr,invokeL,h1,mapO,afterL]
     ·exact h.elim
    ·exact h.elim
   ·exact h.elim
  ·exact h.elim
 | .callO j shc sh k,kn,tmps,todo,H,h=>by
  intro hin hI;unfold wpG at h;split at h
  ·rename_i o ρ todo' hn;split at h
   ·rename_i c hop;split at h
    ·rename_i fc hc;split at h
     ·rename_i gn cap args hr;split at h
      ·rename_i s hor hex hs;obtain ⟨S,h1,h2,h3⟩:=h;intro cs p hk;obtain ⟨e,he1,he2⟩:=h1.ends (fr:=mkX g.F g.f (tmps.map (denF kn)) todo') (cs:=cs) (p:=p) fun v H' hS=>by
        obtain ⟨hp,hsh,ns,hsc,hl,hg⟩:=h2 v H' hS;have:=allSh_of (allSh_of h3 hsh) hsc H' hS hg;split at this
        ·rename_i tmps' todo'' hf;have hd:=finishS_den (F:=g.F) (f:=g.f) (kn:=setNth kn j ⟨s.id,ns,s.e⟩) hf;simp only [denF] at hd;have hm:tmps.map (denF (setNth kn j ⟨s.id,ns,s.e⟩))=tmps.map (denF kn):=List.map_congr_left fun x _=>denF_set hs ns hl x;rw [hm] at hd;refine ⟨_,hd,?_⟩;exact wt_sound k _ tmps' todo'' H' this (finishS_in hf hin rfl (by rw [setNth_eq,List.length_set];exact Nat.le_refl _)) (hI.callO hs hp hg) cs p hk
        ·exact this.elim
       refine .step (l:=[⟨e,mkX g.F g.f (tmps.map (denF kn)) todo'::cs,H⟩]) ?_ fun s hm=>by rw [List.mem_singleton.1 hm];exact he2
       rw [(nowS_spec (F:=g.F) (f:=g.f) hn hin).2 cs H];simp only [opL,hop,hc,hr,invokeL,enterL,hor,hex,mapO,afterL,he1,Option.map_some]
      ·exact h.elim
     ·exact h.elim
    ·exact h.elim
   ·exact h.elim
  ·exact h.elim
 | .callOY j shc sh k,kn,tmps,todo,H,h=>by
  intro hin hI;unfold wpG at h;split at h
  ·rename_i o ρ todo' hn;split at h
   ·rename_i c hop;split at h
    ·rename_i fc hc;split at h
     ·rename_i gn cap args hr;split at h
      ·rename_i s hor hex hs;obtain ⟨S,Y,h1,h2,hY,h3⟩:=h;intro cs p hk;obtain ⟨e,he1,he2⟩:=h1.ends (fr:=mkX g.F g.f (tmps.map (denF kn)) todo') (cs:=cs) (p:=p) fun v H' hS=>by
        obtain ⟨hp,hsh,ns,hsc,hl,hg⟩:=h2 v H' hS;have:=allSh_of (allSh_of h3 hsh) hsc H' hS hg;split at this
        ·rename_i tmps' todo'' hf;have hd:=finishS_den (F:=g.F) (f:=g.f) (kn:=setNth kn j ⟨s.id,ns,s.e⟩) hf;simp only [denF] at hd;have hm:tmps.map (denF (setNth kn j ⟨s.id,ns,s.e⟩))=tmps.map (denF kn):=List.map_congr_left fun x _=>denF_set hs ns hl x;rw [hm] at hd;refine ⟨_,hd,?_⟩;exact wt_sound k _ tmps' todo'' H' this (finishS_in hf hin rfl (by rw [setNth_eq,List.length_set];exact Nat.le_refl _)) (hI.callOY hs hp hY hg) cs p hk
        ·exact this.elim
       refine .step (l:=[⟨e,mkX g.F g.f (tmps.map (denF kn)) todo'::cs,H⟩]) ?_ fun s hm=>by rw [List.mem_singleton.1 hm];exact he2
       rw [(nowS_spec (F:=g.F) (f:=g.f) hn hin).2 cs H];simp only [opL,hop,hc,hr,invokeL,enterL,hor,hex,mapO,afterL,he1,Option.map_some]
      ·exact h.elim
     ·exact h.elim
    ·exact h.elim
   ·exact h.elim
  ·exact h.elim
 | .callN shc et k,kn,tmps,todo,H,h=>by
  intro hin hI;unfold wpG at h;split at h
  ·rename_i o ρ todo' hn;split at h
   ·rename_i c hop;split at h
    ·rename_i fc hc;split at h
     ·rename_i gn cap args hr;split at h
      ·rename_i hor hex;obtain ⟨S,h1,h2,h3⟩:=h;intro cs p hk;obtain ⟨e,he1,he2⟩:=h1.ends (fr:=mkX g.F g.f (tmps.map (denF kn)) todo') (cs:=cs) (p:=p) fun v H' hS=>by
        obtain ⟨hp,i,ns,rfl,hi1,hi2,hsc,hg⟩:=h2 v H' hS;have:=allSh_of h3 hsc i H' hS hg;split at this
        ·rename_i tmps' todo'' hf;have hd:=finishS_den (F:=g.F) (f:=g.f) (kn:=kn++[⟨i,ns,et⟩]) hf;have hden:denF (kn++[⟨i,ns,et⟩]) (.own kn.length 0)=.ptr (some ⟨i,ns.length,0⟩):=by
          simp only [denF,nth_eq];rw [List.getElem?_append_right (Nat.le_refl _)];simp
         have hm:tmps.map (denF (kn++[⟨i,ns,et⟩]))=tmps.map (denF kn):=List.map_congr_left fun x hx=>denF_app (hin x hx) _;rw [hm,hden] at hd;refine ⟨_,hd,?_⟩;exact wt_sound k _ tmps' todo'' H' this (finishS_in hf hin (m:=(kn++[(⟨i,ns,et⟩:Slot)]).length) (by simp [inR]) (by simp)) (hI.callN hp hi1 hi2 hg) cs p hk
        ·exact this.elim
       refine .step (l:=[⟨e,mkX g.F g.f (tmps.map (denF kn)) todo'::cs,H⟩]) ?_ fun s hm=>by rw [List.mem_singleton.1 hm];exact he2
       rw [(nowS_spec (F:=g.F) (f:=g.f) hn hin).2 cs H];simp only [opL,hop,hc,hr,invokeL,enterL,hor,hex,mapO,afterL,he1,Option.map_some]
      ·exact h.elim
     ·exact h.elim
    ·exact h.elim
   ·exact h.elim
  ·exact h.elim
 | .callP j shc sh k,kn,tmps,todo,H,h=>by
  intro hin hI;unfold wpG at h;split at h
  ·rename_i hro;split at h
   ·rename_i o ρ todo' hn;split at h
    ·rename_i c hop;split at h
     ·rename_i fc hc;split at h
      ·rename_i gn cap args hr;split at h
       ·rename_i s hor hex hs;obtain ⟨S,Sn,Y,h1,h2,hY,h4,h5,h3⟩:=h;intro cs p hk;have hk':=hk;unfold ContG at hk';rw [hro] at hk';obtain ⟨e,he1,he2⟩:=h1.ends (fr:=mkX g.F g.f (tmps.map (denF kn)) todo') (cs:=cs) (p:=p) (fun v H' hS=>by
         obtain ⟨hp,hsv,ns,hsc,hl,hg⟩:=h2 v H' hS;have:=allSh_of (allSh_of h3 hsv) hsc H' hS hg;split at this
         ·rename_i tmps' todo'' hf;have hd:=finishS_den (F:=g.F) (f:=g.f) (kn:=setNth kn j ⟨s.id,ns,s.e⟩) hf;simp only [denF] at hd;have hm:tmps.map (denF (setNth kn j ⟨s.id,ns,s.e⟩))=tmps.map (denF kn):=List.map_congr_left fun x _=>denF_set hs ns hl x;rw [hm] at hd;refine ⟨_,hd,?_⟩;exact wt_sound k _ tmps' todo'' H' this (finishS_in hf hin rfl (by rw [setNth_eq,List.length_set];exact Nat.le_refl _)) (hI.callOY hs hp hY hg) cs p hk
         ·exact this.elim) (fun v H' hv=>by
         obtain ⟨hp,ns,hlen,hg⟩:=h4 v H' hv;have:=h5 v H' ns hv (hI.callOY hs hp hY hg);exact hk'.2.1 _ todo' v H' this)
        refine .step (l:=[⟨e,mkX g.F g.f (tmps.map (denF kn)) todo'::cs,H⟩]) ?_ fun s hm=>by rw [List.mem_singleton.1 hm];exact he2
        rw [(nowS_spec (F:=g.F) (f:=g.f) hn hin).2 cs H];simp only [opL,hop,hc,hr,invokeL,enterL,hor,hex,mapO,afterL,he1,Option.map_some]
       ·exact h.elim
      ·exact h.elim
     ·exact h.elim
    ·exact h.elim
   ·exact h.elim
  ·exact h.elim
 | .panic,kn,tmps,todo,H,h=>by
  intro hin hI;unfold wpG at h;split at h
  ·rename_i hro;split at h
   ·rename_i o ρ todo' hn;split at h
    ·rename_i x hop;split at h
     ·rename_i t y hx;intro cs p hk;unfold ContG at hk;rw [hro] at hk;refine .step (l:=[⟨raiseL (mkX g.F g.f (tmps.map (denF kn)) todo') [⟨.iface t y,false⟩],cs,H⟩]) ?_ fun s hm=> ?_
      ·rw [(nowS_spec (F:=g.F) (f:=g.f) hn hin).2 cs H];simp only [opL,hop,hx,mapO,afterL]
      ·rw [List.mem_singleton.1 hm];exact hk.2.1 _ todo' _ H h
     ·exact h.elim
    ·exact h.elim
   ·exact h.elim
  ·exact h.elim
 | .defer k,kn,tmps,todo,H,h=>by
  intro hin hI;unfold wpG at h;split at h
  ·rename_i hds hro hdd;split at h
   ·rename_i o ρ todo' hn;split at h
    ·rename_i c hop;split at h
     ·rename_i d hr;split at h
      ·rename_i tmps' todo'' hf;obtain ⟨E,Pn,h1,h2⟩:=h;intro cs p hk;have hd:=finishS_den (F:=⟨[d],none,false⟩) (f:=g.f) (kn:=kn) hf;simp only [denF] at hd;refine .step (l:=[⟨mkX ⟨[d],none,false⟩ g.f (tmps'.map (denF kn)) todo'',cs,H⟩]) ?_ fun s hm=> ?_
       ·rw [(nowS_spec (F:=g.F) (f:=g.f) hn hin).2 cs H];simp only [opL,hop,hr,mapO,afterL];have e:({ mkX g.F g.f (tmps.map (denF kn)) todo' with defers:=d::(mkX g.F g.f (tmps.map (denF kn)) todo').defers }:LFrame)=mkX ⟨[d],none,false⟩ g.f (tmps.map (denF kn)) todo':=by
         unfold mkX;simp only [hds,hro,hdd]
        rw [e,hd];have e2:(mkX g.F g.f (tmps.map (denF kn)) todo').roundOf=none:=hro;rw [e2];rfl
       ·rw [List.mem_singleton.1 hm];exact wt_sound k kn tmps' todo'' H h2 (finishS_in hf hin rfl (Nat.le_refl _)) hI cs p (h1 cs p hk)
      ·exact h.elim
     ·exact h.elim
    ·exact h.elim
   ·exact h.elim
  ·exact h.elim
 | .retE,kn,tmps,todo,H,h=>by
  intro hin hI;unfold wpG at h;split at h
  ·rename_i hro;split at h
   ·rename_i ht;intro cs p hk;unfold ContG at hk;rw [hro] at hk;refine .step (l:=[⟨{ mkX g.F g.f (tmps.map (denF kn)) todo with mode:=.returning },cs,H⟩]) ?_ fun s hm=> ?_
    ·unfold lstep mkX;rw [hro];simp only;split at ht
     ·rfl
     ·rfl
     ·cases ht
    ·rw [List.mem_singleton.1 hm];exact hk.2.2 _ todo H h
   ·exact h.elim
  ·exact h.elim
 | .check k,kn,tmps,todo,H,h=>by
  intro hin hI;unfold wpG at h;split at h
  ·rename_i ops b tm0 done pend k';split at h
   ·rename_i hp;obtain ⟨_,h1,h2⟩:=lookS_sound hI h;refine EndsG.stepF (fr':=mkX g.F g.f (tmps.map (denF kn)) (.drawn ops b tm0 done pend false::k')) (H':=H) ?_ (wt_sound k kn tmps _ H h1 hin hI);have hc:checkOk C H ops b tm0 (tmps.map (denF kn)) done=true:=h2;unfold lstepF lstep mkX;simp only [hp];simp [hc]
   ·exact h.elim
  ·exact h.elim
 | .facts k,kn,tmps,todo,H,h=>fun hin hI=>wt_sound k kn tmps todo H (h hI) hin hI
 | .stop live m,kn,tmps,todo,H,h=>by
  intro hin hI;unfold wpG at h;have:=h fun j=>((tmps[j]?).map (denF kn)).getD .lost;split at this
  ·rename_i hm;rw [List.all_eq_true] at hm;have hin':∀x∈tmSelS live (fun j=>((tmps[j]?).map (denF kn)).getD .lost) 0 tmps,inR (kn.take m).length x=true:=by
    intro x hx;have h1:=hm x hx;have h2:inR kn.length x=true:=by
     have:∀(l:List SV) (i:Nat) (d:Nat->LV),(∀x∈l,inR kn.length x=true)->∀x∈tmSelS live d i l,inR kn.length x=true:=by
      intro l;induction l with
      |nil=>intro i d _ x hx;cases hx
      |cons v l ih=>
       intro i d hl x hx;unfold tmSelS at hx;rcases List.mem_cons.1 hx with rfl |hx
       ·split
        ·exact hl v List.mem_cons_self
        ·rfl
       ·exact ih (i+1) d (fun x hx=>hl x (List.mem_cons_of_mem _ hx)) x hx
     exact this tmps 0 _ hin x hx
    cases x with
    |lv v=>rfl
    |own k off=>
     simp only [inR,Nat.ble_eq] at h1 h2 |-;rw [List.length_take];omega
   have:=this hin' (hI.take m);have he:(tmSelS live (fun j=>((tmps[j]?).map (denF kn)).getD .lost) 0 tmps).map (denF (kn.take m))=tmps.map (denF kn):=by
    rw [<-tmSelS_self kn live (fun j=>((tmps[j]?).map (denF kn)).getD .lost) tmps 0 fun j v hj=>by rw [Nat.zero_add,hj];rfl];exact List.map_congr_left fun x hx=>denF_take (hm x hx)
   rw [he] at this;exact this
  ·exact this.elim
 | .ret,kn,tmps,todo,H,h=>by
  intro hin hI;unfold wpG at h;have hdd:g.F.dd=false:=by
   cases hd:g.F.dd with
   |false=>rfl
   |true=>rw [hd] at h;exact h.elim
  rw [hdd] at h;simp only at h;cases hro:g.F.ro with
  |none=>
   rw [hro] at h;simp only at h;split at h
   ·rename_i fn ht hfn;split at h
    ·rename_i vs hvs;have hres:∀H',(∀(t:TypeId) (a:LAddr) (v:LV),loadT C.P H t a=some v->loadT C.P H' t a=some v)->mapO (resL C H' (tmps.map (denF kn))) fn.results.toList=some vs:=by
      intro H' hH;have:∀(l:List ResultVar) (vs:List LV),mapO (resS C kn H tmps) l=some vs->mapO (resL C H' (tmps.map (denF kn))) l=some vs:=by
       intro l;induction l with
       |nil=>intro vs h;exact h
       |cons r l ih=>
        intro vs h;unfold mapO at h |-;split at h
        ·cases h
        ·rename_i v hv;split at h
         ·cases h
         ·rename_i ws hws;cases h;have hr:resL C H' (tmps.map (denF kn)) r=some v:=by
           unfold resS at hv;unfold resL;split at hv
           ·rename_i t;cases hv;simp only [evalS_den]
           ·rename_i a t;simp only [evalS_den];split at hv
            ·rename_i k off he;split at hv
             ·rename_i s hs;simp only [he,denF,hs];exact hH _ _ _ (slotLoad_spec (hI.slot k s hs).2.1 hv)
             ·cases hv
            ·rename_i b he;simp only [he,denF];exact hH _ _ _ hv
            ·cases hv
          simp only [hr,ih ws hws]
      exact this _ _ hvs
     intro cs p hk;have hk':∀fr' v H',Retd C g.f fr' v H'->g.R v H'->Ends C p ⟨fr',cs,H'⟩:=by
      unfold ContG at hk;rw [hro] at hk;exact hk.1
     refine .step (l:=[⟨{ mkX g.F g.f (tmps.map (denF kn)) todo with mode:=.returning },cs,H⟩]) ?_ fun s hm=> ?_
     ·unfold lstep mkX;rw [hro];simp only;split at ht
      ·rfl
      ·rfl
      ·cases ht
     ·rw [List.mem_singleton.1 hm];split at h
      ·rename_i hds;exact hk' _ _ H ⟨rfl,rfl,hdd,hds,hro,fn,vs,hfn,hres H (fun _ _ _ h=>h),rfl⟩ h
      ·rename_i d as hds;obtain ⟨h1,h2⟩:=h;refine .step (l:=[⟨{ mkX ⟨[],none,false⟩ g.f (tmps.map (denF kn)) todo with mode:=.returning },cs,H.put d (.deferred none)⟩]) ?_ fun s hm=> ?_
       ·unfold lstep mkX;rw [hro,hds,hdd];simp only;unfold unwindL;simp only [h1];rfl
       ·rw [List.mem_singleton.1 hm];refine hk' _ _ _ ⟨rfl,rfl,rfl,rfl,rfl,fn,vs,hfn,hres _ fun t a v hl=> ?_,rfl⟩ h2;rw [loadT_congr (H:=H),hl];rw [LHeap.get_put,if_neg];rintro he;obtain ⟨_,_,_,_,_,_,_,ho⟩:=load_cells hl (by rw [he];exact h1);cases ho
      ·rename_i d as d' as' hds;obtain ⟨h1,h2,h3⟩:=h;have keepL:∀{K:LHeap} {e:Nat},K.get e=some (.deferred (some []))->∀(t:TypeId) (a:LAddr) (v:LV),loadT C.P K t a=some v->loadT C.P (K.put e (.deferred none)) t a=some v:=by
        intro K e hg t a v hl;rw [loadT_congr (H:=K),hl];rw [LHeap.get_put,if_neg];rintro he;obtain ⟨_,_,_,_,_,_,_,ho⟩:=load_cells hl (by rw [he];exact hg);cases ho
       refine .step (l:=[⟨{ mkX ⟨[⟨.collected d',as'⟩],none,false⟩ g.f (tmps.map (denF kn)) todo with mode:=.returning },cs,H.put d (.deferred none)⟩]) ?_ fun s hm=> ?_
       ·unfold lstep mkX;rw [hro,hds,hdd];simp only;unfold unwindL;simp only [h1];rfl
       ·rw [List.mem_singleton.1 hm];refine .step (l:=[⟨{ mkX ⟨[],none,false⟩ g.f (tmps.map (denF kn)) todo with mode:=.returning },cs,(H.put d (.deferred none)).put d' (.deferred none)⟩]) ?_ fun s hm=> ?_
        ·unfold lstep mkX;simp only;unfold unwindL;simp only [h2];rfl
        ·rw [List.mem_singleton.1 hm];exact hk' _ _ _ ⟨rfl,rfl,rfl,rfl,rfl,fn,vs,hfn,hres _ fun t a v hl=>keepL h2 _ _ _ (keepL h1 _ _ _ hl),rfl⟩ h3
      ·exact h.elim
    ·exact h.elim
   ·exact h.elim
  |some l=>
   rw [hro] at h;simp only at h;intro cs p hk;unfold ContG at hk;rw [hro] at hk;obtain ⟨c,rest,rfl,hk⟩:=hk;have leave:∀j,g.J j H->(∀(r:LLoop) (c':LFrame),loopOf H l=some r->finishL c (.bool j.isNone)=some c'->
     lstep C ⟨mkX g.F g.f (tmps.map (denF kn)) todo,c::rest,H⟩=some [⟨c',rest,H.put l (.loop { r with state:=if j.isNone then .ready else .done,pending:=j })⟩])->Ends C p ⟨mkX g.F g.f (tmps.map (denF kn)) todo,c::rest,H⟩:=by
    intro j hj hs;obtain ⟨r,c',h1,h2,h3⟩:=hk j H hj;exact .step (hs r c' h1 h2) fun s hm=>by rw [List.mem_singleton.1 hm];exact h3
   split at h
   ·refine leave none h fun r c' h1 h2=> ?_;unfold lstep mkX;simp only [leaveL,hro,hdd,h1];simp at h2;simp [h2]
   ·refine leave (some .ret) h fun r c' h1 h2=> ?_;unfold lstep mkX;simp only [leaveL,hro,hdd,h1];simp at h2;simp [h2]
   ·split at h
    ·rename_i he;refine leave (some (.exit _)) h fun r c' h1 h2=> ?_;unfold lstep mkX;simp only [leaveL,hro,hdd,h1,he];simp at h2;simp [h2]
    ·exact h.elim
   ·exact h.elim
def wpE(C:Cfg)(f:FuncId)(R:LV->LHeap->Prop)(X:List Nat)(k:Hs)(kn:List Slot)(args:List SV)(H:LHeap):Prop:=
 match C.P.funcs[f]? with
 |some fn=>match fn.body with
  |some c=>wpT C f R X H k kn (args++(replU (fn.ntmps-args.length)).map SV.lv) [.code c] H
  |none=>False
 |none=>False
theorem call_wt{C:Cfg}{f:FuncId}{R:LV->LHeap->Prop}{X:List Nat}{k:Hs}{kn:List Slot}{args:List SV}{H:LHeap}{V:Prop}(hv:wpE C f R X k kn args H=V)(h:V)
  (hI:Inv X H kn H) (hin:∀x∈args,inR kn.length x=true):CallL C f (args.map (denF kn)) H R:=by
 rw [<-hv] at h;unfold wpE at h;split at h
 ·rename_i fn hfn;split at h
  ·rename_i c hc;refine ⟨mkX ⟨[],none,false⟩ f ((args++(replU (fn.ntmps-args.length)).map SV.lv).map (denF kn)) [.code c],?_,fun cs p h1=>wt_sound k kn _ _ H h ?_ hI cs p ⟨h1,fun _ _ _ _ hf=>hf.elim,fun _ _ _ hf=>hf.elim⟩⟩
   ·unfold enterF;simp only [hfn,hc];rw [List.map_append,List.length_map];have:((replU (fn.ntmps-args.length)).map SV.lv).map (denF kn)=replU (fn.ntmps-args.length):=by
     rw [List.map_map]
     conv=>rhs;rw [<-List.map_id (replU (fn.ntmps-args.length))]
     rfl
    rw [this];rfl
   ·intro x hx;rcases List.mem_append.1 hx with hx |hx
    ·exact hin x hx
    ·obtain ⟨v,_,rfl⟩:=List.mem_map.1 hx;rfl
  ·exact h.elim
 ·exact h.elim
def wpEP(C:Cfg)(f:FuncId)(R Pn:LV->LHeap->Prop)(X:List Nat)(k:Hs)(kn:List Slot)(args:List SV)(H:LHeap):Prop:=
 match C.P.funcs[f]? with
 |some fn=>match fn.body with
  |some c=>wpG C (gP f R Pn) X H k kn (args++(replU (fn.ntmps-args.length)).map SV.lv) [.code c] H
  |none=>False
 |none=>False
theorem call_wtP{C:Cfg}{f:FuncId}{R Pn:LV->LHeap->Prop}{X:List Nat}{k:Hs}{kn:List Slot}{args:List SV}{H:LHeap}{V:Prop}(hv:wpEP C f R Pn X k kn args H=V)(h:V)
  (hI:Inv X H kn H) (hin:∀x∈args,inR kn.length x=true):CallP C f (args.map (denF kn)) H R Pn:=by
 rw [<-hv] at h;unfold wpEP at h;split at h
 ·rename_i fn hfn;split at h
  ·rename_i c hc;refine ⟨mkX ⟨[],none,false⟩ f ((args++(replU (fn.ntmps-args.length)).map SV.lv).map (denF kn)) [.code c],?_,fun cs p h1 h2=>wt_sound k kn _ _ H h ?_ hI cs p ⟨h1,h2,fun _ _ _ hf=>hf.elim⟩⟩
   ·unfold enterF;simp only [hfn,hc];rw [List.map_append,List.length_map];have:((replU (fn.ntmps-args.length)).map SV.lv).map (denF kn)=replU (fn.ntmps-args.length):=by
     rw [List.map_map]
     conv=>rhs;rw [<-List.map_id (replU (fn.ntmps-args.length))]
     rfl
    rw [this];rfl
   ·intro x hx;rcases List.mem_append.1 hx with hx |hx
    ·exact hin x hx
    ·obtain ⟨v,_,rfl⟩:=List.mem_map.1 hx;rfl
  ·exact h.elim
 ·exact h.elim
theorem Inv.start(H:LHeap):Inv [] H [] H:=⟨.refl _ _,fun k s h=>by simp [nth] at h,fun j k s t h=>by simp [nth] at h⟩
theorem call_wt0{C:Cfg}{f:FuncId}{R:LV->LHeap->Prop}{k:Hs}{args:List LV}{H:LHeap}{V:Prop}(hv:wpE C f R [] k [] (args.map .lv) H=V)(h:V):CallL C f args H R:=by
 have:=call_wt hv h (Inv.start H) fun x hx=>by
  obtain ⟨v,_,rfl⟩:=List.mem_map.1 hx;rfl
 rw [List.map_map] at this;have e:(denF []∘SV.lv)=id:=rfl;rw [e,List.map_id] at this;exact this
theorem call_wtX{C:Cfg}{f:FuncId}{R:LV->LHeap->Prop}{X:List Nat}{k:Hs}{args:List LV}{H:LHeap}{V:Prop}(hv:wpE C f R X k [] (args.map .lv) H=V)(h:V):CallL C f args H R:=by
 have:=call_wt hv h ⟨.refl _ _,fun k s h=>by simp [nth] at h,fun j k s t h=>by simp [nth] at h⟩ fun x hx=>by
  obtain ⟨v,_,rfl⟩:=List.mem_map.1 hx;rfl
 rw [List.map_map] at this;have e:(denF []∘SV.lv)=id:=rfl;rw [e,List.map_id] at this;exact this
theorem seg_wg{C:Cfg}{g:GX}{X:List Nat}{H0:LHeap}{k:Hs}{kn:List Slot}{tmps:List SV}{todo:List LItem}{H:LHeap}{V:Prop}(hv:wpG C g X H0 k kn tmps todo H=V)(h:V):GoesG C g X H0 kn tmps todo H:=
 wt_sound k kn tmps todo H (by rw [hv];exact h)
theorem seg_wt{C:Cfg}{f:FuncId}{R:LV->LHeap->Prop}{X:List Nat}{H0:LHeap}{k:Hs}{kn:List Slot}{tmps:List SV}{todo:List LItem}{H:LHeap}{V:Prop}(hv:wpT C f R X H0 k kn tmps todo H=V)(h:V):GoesT C f R X H0 kn tmps todo H:=
 seg_wg hv h
def loopGo:Code->List LItem->Nat->(List LItem×Nat) ⊕ Nat
 | .seq a b,k,n=>match loopGo a (.code b::k) n with
  | .inr m=>loopGo b k m
  | .inl x=>.inl x
 | .cond _ a b,k,n=>match loopGo a k n with
  | .inr m=>loopGo b k m
  | .inl x=>.inl x
 | .block id b,k,n=>loopGo b (.inBlock id::k) n
 | .loop b,k,n=>match n with
  |0=>.inl (.code b:: .inLoop b::k,0)
  |n+1=>loopGo b (.inLoop b::k) n
 | .scope b,k,n=>loopGo b (.inScope b::k) n
 |_,_,n=>.inr n
def loopAt(C:Cfg)(f:FuncId)(n:Nat):List LItem:=
 match C.P.funcs[f]? with
 |some fn=>match fn.body with
  |some c=>match loopGo c [] n with
   | .inl x=>x.1
   | .inr _=>[]
  |none=>[]
 |none=>[]
end Go.Lm

/- Words for contracts, and laws on what operations come to. -/
namespace Go.Lm
def Ret(v0:LV)(H:LHeap):LV->LHeap->Prop:=fun v H'=>v=v0/\PresX [] H H'
theorem Ret.mk{v:LV}{H H':LHeap}(h:PresX [] H H'):Ret v H v H':=⟨rfl,h⟩
theorem Ret.use{v0:LV}{H:LHeap}{sh:Sh}(h:hasSh sh v0):∀v H',Ret v0 H v H'->PresX [] H H'/\hasSh sh v:=fun v H' ⟨e,p⟩=>⟨p,by rw [e];exact h⟩
theorem keep_load{H H':LHeap}{i:Nat}(h:Keep H H' i){P:Program}{t:TypeId}{a:LAddr}(ha:a.id=i){v:LV}(hl:loadT P H t a=some v):loadT P H' t a=some v:=by
 have h1:∀n cs,loadN H a n=some cs->loadN H' a n=some cs:=fun n cs h'=>h.loads a n cs ha h';have h2:∀v,load1 H a=some v->load1 H' a=some v:=by
  intro v hv;have hN:loadN H a 1=some [v]:=by
   simp only [load1] at hv;simp only [loadN];split at hv
   ·split at hv
    ·rename_i hc;rw [if_pos hc];rw [nth_eq] at hv;rw [dropN_eq];obtain ⟨h1,h2⟩:=List.getElem?_eq_some_iff.1 hv;rw [takeN_of _ _ (by simp;omega)];congr 1;rw [List.drop_eq_getElem_cons h1];simp [h2]
    ·cases hv
   ·cases hv
  have:=h1 1 [v] hN;simp only [loadN] at this;simp only [load1];split at this
  ·split at this
   ·rename_i hc;rw [if_pos hc];rw [dropN_eq] at this;obtain ⟨h3,h4⟩:=takeN_some _ _ _ this;rw [nth_eq];have h5:=congrArg (fun l=>l[0]?) h4;simp only [List.getElem?_take,List.getElem?_drop] at h5;simpa using h5.symm
   ·cases this
  ·cases this
 unfold loadT at hl |-;cases hag:isAggT P t with
 |none=>rw [hag] at hl;cases hl
 |some b=>
  rw [hag] at hl;cases b with
  |true=>
   simp only at hl |-;cases hs:sizeOfT P t with
   |none=>rw [hs] at hl;cases hl
   |some n=>
    rw [hs] at hl;simp only [Option.map_eq_some_iff] at hl |-;obtain ⟨cs,h3,h4⟩:=hl;exact ⟨cs,h1 _ _ h3,h4⟩
  |false=>exact h2 _ hl
theorem PresX.load{X:List Nat}{H H':LHeap}(h:PresX X H H'){P:Program}{t:TypeId}{a:LAddr}(ha:a.id<H.next)(hx:a.id∉X){v:LV}(hl:loadT P H t a=some v):loadT P H' t a=some v:=
 keep_load (h.keep a.id ha hx) rfl hl
theorem PresX.load0{H H':LHeap}(h:PresX [] H H'){P:Program}{t:TypeId}{a:LAddr}(ha:a.id<H.next){v:LV}(hl:loadT P H t a=some v):loadT P H' t a=some v:=
 h.load ha (by simp) hl
theorem lwrap_small{n:Int}(h: -9223372036854775808<=n)(h':n<=9223372036854775807):lwrap .i64 n=n:=by
 unfold lwrap;cases n with
 |ofNat m=>simp only [Nat.ble_eq];rw [if_pos (by simp at h';omega)]
 |negSucc m=>simp only [Nat.ble_eq];rw [if_pos (by omega)]
theorem law_true{C:Cfg}{n0:Nat}{Kw:World->Prop}(hC:CfgOK C n0 Kw)(hmix:C.P.follows .mixedOrders=true)(hg:C.glob=fun _=>.lost){ι:Gh}{H:LHeap}{W:World}(hW:HRel ι H W n0)(hK:Kw W){f:FuncId}{x:List LV}{a:Array Value}
  (hx:VRels ι x a.toList) (h:CallL C f x H (Ret (.bool true) H)):Calls C.P f a W fun e X=>e=.returned (.bool true)/\Go.RowKit.Below n0 W X:=by
 obtain ⟨g,h1,h2⟩:=h.top (Q:=fun v=>v=.bool true) fun v H' hr=>hr.1;refine (calls_of_ends hC hmix hW hK (fun g=>by rw [hg];exact .lost _) hx h1 h2).mono fun e X ⟨v,u,κ,K,hv,he,hr,_,hb⟩=> ?_;subst hv;cases hr;exact ⟨he,hb⟩
end Go.Lm

/- A call's arguments in this machine's memory. -/
namespace Go.Lm
theorem exists_dm{W:World}{b:Nat}{v:Value}(h:W.cell? ⟨b,0,none⟩=some v):∃dm:LAddr,ghOf W dm.id dm.ver≠none:=by
 unfold World.cell? at h;split at h
 ·rename_i c e fr hc;have:∃a,embA W ⟨b,0,none⟩=some a:=by
   unfold embA;simp only at hc |-;simp only [hc];exact ⟨_,if_pos (Nat.zero_le _)⟩
  obtain ⟨a,ha⟩:=this;exact ⟨a,(embA_spec ha).2⟩
 ·cases h
section
variable {H:Type} {enc:TypeId×Value->H} {P:Program} {W:World} {base:Nat} {held:Bool} {dm:LAddr}
end
theorem heapOf_lt{W:World}{dm a:LAddr}{n:Nat}{cs:List LV}(h:loadN (heapOf W dm) a n=some cs):a.id<(heapOf W dm).next:=by
 by_cases hi:a.id<topOf W
 ·exact hi
 ·have:(heapOf W dm).get a.id=none:=by
   unfold heapOf LHeap.get;rw [mkTree_get,if_neg hi]
  unfold loadN at h;rw [this] at h;cases h
inductive AllRep (P:Program) (H:LHeap):List TypeId->List LV->Prop
 |nil:AllRep P H [] []
 |cons {u:TypeId} {c:LV} {us:List TypeId} {cs:List LV} (d:D) (h:Rep P H u [c] d) (t:AllRep P H us cs):AllRep P H (u::us) (c::cs)
theorem AllRep.head{P:Program}{H:LHeap}{u:TypeId}{us:List TypeId}{cs:List LV}(h:AllRep P H (u::us) cs):∃c cs' d,cs=c::cs'/\Rep P H u [c] d/\AllRep P H us cs':=by
 cases h with
 |cons d h t=>exact ⟨_,_,d,rfl,h,t⟩
theorem AllRep.last{P:Program}{H:LHeap}{cs:List LV}(h:AllRep P H [] cs):cs=[]:=by cases h;rfl
theorem AllRep.append{P:Program}{H:LHeap}{us us':List TypeId}{cs cs':List LV}(h:AllRep P H us cs)(k:AllRep P H us' cs'):AllRep P H (us++us') (cs++cs'):=by
 induction h with
 |nil=>exact k
 |cons d h _ ih=>exact .cons d h ih
def leaves(P:Program):Nat->TypeId->Option (List TypeId)
 |0,_=>none
 |n+1,t=>match P.underlying t with
  |some (.struct fs)=>go (leaves P n) (P.cellsOf t) 0 fs.toList
  |some (.array _ _)=>none
  |some _=>if P.cellsOf t=1 then some [t] else none
  |none=>none
where
 go (f:TypeId->Option (List TypeId)) (total:Nat):Nat->List Field->Option (List TypeId)
 |n,[]=>if n=total then some [] else none
 |n,fd::fs=>if fd.offset=n then match f fd.type,go f total (n+P.cellsOf fd.type) fs with
  |some a,some b=>some (a++b)
  |_,_=>none
  else none
theorem drop_take_append{α:Type}(l:List α)(n m:Nat):(l.drop n).take m++l.drop (n+m)=l.drop n:=by
 rw [<-List.drop_drop];exact List.take_append_drop ..
theorem Rep.str_inv{P:Program}{H:LHeap}{t:TypeId}{c:LV}{d:D}(ht:P.underlying t=some .string)(h:Rep P H t [c] d):∃s:List UInt8,c=.str s/\s.length<=maxLen:=by
 generalize hcs:[c]=cs at h;cases h with
 |str h s hs=>cases hcs;exact ⟨s,rfl,hs⟩
 |other _ h=>rw [ht] at h;exact h.elim
 |_=>simp_all
theorem Rep.int_inv{P:Program}{H:LHeap}{t:TypeId}{k:IntKind}{c:LV}{d:D}(ht:P.underlying t=some (.int k))(h:Rep P H t [c] d):∃n:Int,c=.int k n/\k.min<=n/\n<=k.max:=by
 generalize hcs:[c]=cs at h;cases h with
 |int h n hn=>cases hcs;rw [ht] at h;cases h;exact ⟨n,rfl,hn⟩
 |other _ h=>rw [ht] at h;exact h.elim
 |_=>simp_all
structure SliceAt (P:Program) (H:LHeap) (e:TypeId) (a:Option LAddr) (n:Nat) (c:Cap) (xs:Nat->List LV) (ds:List D):Prop where
 len:ds.length=n
 cap:n<=maxLen
 some:∀i,i<n->a.isSome=true
 load:∀i,i<n->loadN H ⟨(adr a).id,(adr a).ver,(adr a).off+i*P.cellsOf e⟩ (P.cellsOf e)=Option.some (xs i)
 rep:∀(i:Nat) (d:D),ds[i]? =Option.some d->Rep P H e (xs i) d
 zero:∀ad,a=Option.some ad->loadN H ad 0=Option.some []
theorem SliceAt.lt{P:Program}{W:World}{dm:LAddr}{e:TypeId}{a:Option LAddr}{n:Nat}{c:Cap}{xs:Nat->List LV}{ds:List D}(h:SliceAt P (heapOf W dm) e a n c xs ds):∀i,i<n->(adr a).id<(heapOf W dm).next:=
 fun i hi=>heapOf_lt (a:=⟨(adr a).id,(adr a).ver,(adr a).off+i*P.cellsOf e⟩) (h.load i hi)
theorem Rep.slice_inv{P:Program}{H:LHeap}{t e:TypeId}{c:LV}{d:D}(ht:P.underlying t=some (.slice e))(h:Rep P H t [c] d):
  ∃a n q xs ds,c=.slice a n q/\SliceAt P H e a n q xs ds/\((∃m,q=.exact m)/\(a=none->q=.exact 0)):=by
 generalize hcs:[c]=cs at h;cases h with
 |nil h=>
  cases hcs;exact ⟨none,0,.exact 0,fun _=>[],[],rfl,⟨rfl,Nat.zero_le _,fun i hi=>by omega,fun i hi=>by omega,fun i d h=>by simp at h,fun ad e=>by cases e⟩,⟨_,rfl⟩,fun _=>rfl⟩
 |slice h a l q hq hm h0 xs hx hr=>
  cases hcs;rw [ht] at h;cases h;exact ⟨some a,l.length,.exact q,xs,l,rfl,⟨rfl,Nat.le_trans hq hm,fun _ _=>rfl,hx,hr,fun ad e=>by cases e;exact h0⟩,⟨_,rfl⟩,fun h=>by cases h⟩
 |other _ h=>rw [ht] at h;exact h.elim
 |_=>simp_all
theorem list_of{α:Type}{Q:Nat->α->Prop}:∀(n:Nat),(∀i,i<n->∃x,Q i x)->∃l:List α,l.length=n/\∀(i:Nat) (x:α),l[i]? =some x->Q i x
 |0,_=>⟨[],rfl,fun i x h=>by simp at h⟩
 |n+1,h=>by
  obtain ⟨l,h1,h2⟩:=list_of n fun i hi=>h i (by omega);obtain ⟨y,hy⟩:=h n (by omega);refine ⟨l++[y],by simp [h1],fun i x hi=> ?_⟩;by_cases him:i<n
  ·rw [List.getElem?_append_left (by omega)] at hi;exact h2 i x hi
  ·rw [List.getElem?_append_right (by omega)] at hi;have:i=n:=by
    have:=(List.getElem?_eq_some_iff.1 hi).1;simp at this;omega
   subst this;simp [h1] at hi;subst hi;exact hy
theorem load_agg{P:Program}{H:LHeap}{t:TypeId}{a:LAddr}{n:Nat}{cs:List LV}(h1:isAggT P t=some true)(h2:sizeOfT P t=some n)(h:loadN H a n=some cs):loadT P H t a=some (.agg cs):=by
 unfold loadT;rw [h1,h2];simp only [h];rfl
end Go.Lm

/- Data with the weights of its slices. Printed by gen_reps.py out of LmRep and LmArg. -/
namespace Go.Lm
theorem weights_all{H:Type}{P:Program}{e:TypeId}{d:DataW H}{m:Nat}:∀(l:List (DataW H)),d∈l->m∈d.weights P e->m∈DataW.weightsAll P e l
 |[],h,_=>by cases h
 |x::l,h,hm=>by
  unfold DataW.weightsAll;rcases List.mem_cons.1 h with rfl |h
  ·exact List.mem_append_left _ hm
  ·exact List.mem_append_right _ (weights_all l h hm)
theorem weights_each{H:Type}{P:Program}{d:DataW H}{t:TypeId}{m:Nat}:∀(i:Nat) {ts:List TypeId} {l:List (DataW H)},ts[i]? =some t->l[i]? =some d->m∈d.weights P t->m∈DataW.weightsEach P ts l
 |_,[],_,h,_,_=>by simp at h
 |_,_::_,[],_,h,_=>by simp at h
 |0,_::_,_::_,h,k,hm=>by
  simp at h k;subst h;subst k;unfold DataW.weightsEach;exact List.mem_append_left _ hm
 |i+1,_::_,_::_,h,k,hm=>by
  unfold DataW.weightsEach;exact List.mem_append_right _ (weights_each i (by simpa using h) (by simpa using k) hm)
inductive RepS (P:Program) (H:LHeap):TypeId->List LV->D->Prop
 |bool {t:TypeId} (ht:P.underlying t=some .bool) (b:Bool):RepS P H t [.bool b] (.bool b)
 |int {t:TypeId} {k:IntKind} (ht:P.underlying t=some (.int k)) (n:Int) (hn:k.min<=n/\n<=k.max):RepS P H t [.int k n] (.int k n)
 |str {t:TypeId} (ht:P.underlying t=some .string) (s:List UInt8) (hs:s.length<=maxLen):RepS P H t [.str s] (.str s)
 |nil {t e:TypeId} (ht:P.underlying t=some (.slice e)):RepS P H t [.slice none 0 (.exact 0)] .nil
 |slice {t e:TypeId} (ht:P.underlying t=some (.slice e)) (a:LAddr) (l:List D) (c:Nat) (hc:l.length<=c) (hm:c<=maxLen) (hw:c*P.bytesOf e<=reachBytes) (h0:loadN H a 0=some []) (xs:Nat->List LV)
  (hx:∀i,i<l.length->loadN H ⟨a.id,a.ver,a.off+i*P.cellsOf e⟩ (P.cellsOf e)=some (xs i)) (hr:∀(i:Nat) (d:D),l[i]? =some d->RepS P H e (xs i) d):RepS P H t [.slice (some a) l.length (.exact c)] (.slice l)
 |struct {t:TypeId} {fs:Array Field} (ht:P.underlying t=some (.struct fs)) (cs:List LV) (l:List D) (hc:cs.length=P.cellsOf t) (hl:l.length=fs.size)
  (hf:∀(i:Nat) (f:Field) (d:D),fs[i]? =some f->l[i]? =some d->RepS P H f.type ((cs.drop f.offset).take (P.cellsOf f.type)) d):RepS P H t cs (.agg l)
 |array {t e:TypeId} {n:Nat} (ht:P.underlying t=some (.array n e)) (cs:List LV) (l:List D) (hc:cs.length=P.cellsOf t) (hl:l.length=n)
  (hf:∀(i:Nat) (d:D),l[i]? =some d->RepS P H e ((cs.drop (i*P.cellsOf e)).take (P.cellsOf e)) d):RepS P H t cs (.agg l)
 |other {t:TypeId} (c:LV) (h:match P.underlying t with
  |some .bool |some (.int _) |some .string |some (.slice _) |some (.struct _) |some (.array _ _)=>False
  |_=>True):RepS P H t [c] .other
section
variable {H:Type} {enc:TypeId×Value->H} {P:Program} {W:World} {base:Nat} {spare:Nat->Bool} {held:Bool}
theorem repS_of_trod(hP:coversAll P=true){dm:LAddr}(hdm:ghOf W dm.id dm.ver≠none):
  ∀(fuel:Nat) (t:TypeId) (ht:t<P.types.size) (cs:List Value) (x:DataW H×List MemPlace),DataW.trod enc P W base (fun _=>true) held fuel t cs=some x->(∀m∈x.1.weights P t,m<=reachBytes)->∃d,RepS P (heapOf W dm) t (cs.map (embC W dm)) d
 |0,_,_,_,_,h,_=>by simp [DataW.trod] at h
 |n+1,t,ht,cs,x,h,hwt=>by
  have hc:=cov_at hP ht;cases hu:P.underlying t with
  |none=>
   obtain ⟨w,rfl,_⟩:=trod_cell h (by simp [hu]) (by simp [hu]);exact ⟨.other,.other _ (by simp [hu])⟩
  |some td=>
   rw [hu] at hc;cases td with
   |bool=>
    obtain ⟨b,rfl,rfl⟩:=DataW.trod_bool hu h;exact ⟨_,.bool hu b⟩
   |int k=>
    obtain ⟨m,rfl,rfl,hw⟩:=DataW.trod_int hu h;refine ⟨_,.int hu m ?_⟩;simpa [Lit.wf] using hw
   |string=>
    obtain ⟨s,rfl,rfl,hs⟩:=DataW.trod_string hu h;exact ⟨_,.str hu s.data.toList (by simpa using hs)⟩
   |slice e=>
    rcases DataW.trod_slice hu h with ⟨rfl,rfl⟩ |⟨a,len,cap,elems,rest,m,hm,rfl,rfl,hb,hl,hmx,hel,he,hsp,_⟩
    ·exact ⟨_,.nil hu⟩
    ·cases hm;simp only [covers,Bool.and_eq_true,Nat.ble_eq] at hc;obtain ⟨hel',hc⟩:=hc;obtain ⟨hr,hre⟩:=hsp rfl;have hcw:cap*P.bytesOf e<=reachBytes:=by
      have:=hwt ((elems.length+rest.length)*P.bytesOf e) (by unfold DataW.weights;simp [hu]);rw [hel,hr,Nat.add_sub_cancel' hl] at this;exact this
     have hew:∀(i:Nat) (hi:i<elems.length),∀m∈elems[i].1.weights P e,m<=reachBytes:=fun i hi m hm=>hwt m (by
      unfold DataW.weights;simp only [hu];exact List.mem_cons_of_mem _ (List.mem_append_left _ (weights_all _ (List.mem_map_of_mem (List.getElem_mem hi)) hm)))
     have all:∀i,i<cap->∃vs y,W.cells? base (a.add (i*P.cellsOf e)) (P.cellsOf e)=some vs/\DataW.trod enc P W base (fun _=>true) held n e vs=some y:=by
      intro i hi;by_cases hi':i<len
      ·have:=he i hi';rw [List.getElem?_eq_getElem (by omega)] at this;obtain ⟨vs,h1,h2⟩:=Option.bind_eq_some_iff.1 this;exact ⟨vs,_,h1,h2⟩
      ·have:=hre (i-len) (by omega);rw [List.getElem?_eq_getElem (by omega)] at this;obtain ⟨vs,h1,h2⟩:=Option.bind_eq_some_iff.1 this;rw [show len+(i-len)=i by omega] at h1;exact ⟨vs,_,h1,h2⟩
     cases cap with
     |zero=>
      obtain rfl:len=0:=by omega
      exact ⟨_,.slice hu ⟨dm.id,dm.ver,0⟩ [] 0 (Nat.le_refl _) (by simp [maxLen]) (by rw [Nat.zero_mul];exact Nat.zero_le _) (load_zero hdm) (fun _=>[]) (fun i hi=>by simp at hi) (fun i d hi=>by simp at hi)⟩
     |succ cap=>
      have cell:∀j,j<(cap+1)*P.cellsOf e->∃v,W.cell? (a.add j)=some v/\v.oneCell'=true:=by
       intro j hj;have hq:j / P.cellsOf e<cap+1:=by rw [Nat.div_lt_iff_lt_mul (by omega)];exact hj
       have hlt:=Nat.mod_lt j (show 0<P.cellsOf e by omega);have hdm:=Nat.div_add_mod' j (P.cellsOf e);obtain ⟨vs,y,h1,h2⟩:=all _ hq;obtain ⟨g1,g2⟩:=cells?_get h1;have hvl:j%P.cellsOf e<vs.length:=by omega
       refine ⟨vs[j%P.cellsOf e],?_,trod_one hP n e hel' vs y h2 _ (List.getElem_mem hvl)⟩;have:=g2 _ _ (List.getElem?_eq_getElem hvl);rw [add_add,hdm] at this;exact this
      have vs:∃vs:Nat->Value,∀j,j<(cap+1)*P.cellsOf e->W.cell? (a.add j)=some (vs j)/\(vs j).oneCell'=true:=by
       refine ⟨fun j=>(W.cell? (a.add j)).getD default,fun j hj=> ?_⟩;obtain ⟨v,h1,h2⟩:=cell j hj;simp only [h1];exact ⟨rfl,h2⟩
      obtain ⟨vs,hvs⟩:=vs;have hpos:0<(cap+1)*P.cellsOf e:=Nat.mul_pos (by omega) (by omega);obtain ⟨b,hb1,hb2⟩:=load_emb (dm:=dm) hpos hvs;have reps:∀i,i<len->∃d,RepS P (heapOf W dm) e ((List.range (P.cellsOf e)).map fun j=>embC W dm (vs (i*P.cellsOf e+j))) d:=by
       intro i hi;have hbi:=he i hi;rw [List.getElem?_eq_getElem (by omega)] at hbi;obtain ⟨ws,h1,h2⟩:=Option.bind_eq_some_iff.1 hbi;obtain ⟨d,hd⟩:=repS_of_trod hP hdm (dm:=dm) n e hel' ws _ h2 (hew i (by omega));obtain ⟨g1,g2⟩:=cells?_get h1;have hmul:i*P.cellsOf e+P.cellsOf e<=(cap+1)*P.cellsOf e:=by
        rw [<-Nat.succ_mul];exact Nat.mul_le_mul_right _ (by omega)
       have:ws.map (embC W dm)=(List.range (P.cellsOf e)).map fun j=>embC W dm (vs (i*P.cellsOf e+j)):=by
        apply List.ext_getElem?;intro j;rw [List.getElem?_map,List.getElem?_map];by_cases hj:j<P.cellsOf e
        ·rw [List.getElem?_range hj,List.getElem?_eq_getElem (by omega)];have g3:=g2 j _ (List.getElem?_eq_getElem (by omega));have g4:=(hvs (i*P.cellsOf e+j) (by omega)).1;rw [add_add,g4] at g3;have g5:=Option.some.inj g3;simp only [Option.map_some,g5]
        ·rw [List.getElem?_eq_none (by omega),List.getElem?_eq_none (by simp;omega)];rfl
       rw [this] at hd;exact ⟨d,hd⟩
      have hds:∃ds:List D,ds.length=len/\∀i d,ds[i]? =some d->RepS P (heapOf W dm) e ((List.range (P.cellsOf e)).map fun j=>embC W dm (vs (i*P.cellsOf e+j))) d:=by
       have:∀m,m<=len->∃ds:List D,ds.length=m/\∀i d,ds[i]? =some d->RepS P (heapOf W dm) e ((List.range (P.cellsOf e)).map fun j=>embC W dm (vs (i*P.cellsOf e+j))) d:=by
        intro m;induction m with
        |zero=>intro _;exact ⟨[],rfl,fun i d h=>by simp at h⟩
        |succ m ih=>
         intro hm;obtain ⟨ds,h1,h2⟩:=ih (by omega);obtain ⟨d,hd⟩:=reps m (by omega);refine ⟨ds++[d],by simp [h1],fun i d' hi=> ?_⟩;by_cases him:i<m
         ·rw [List.getElem?_append_left (by omega)] at hi;exact h2 i d' hi
         ·rw [List.getElem?_append_right (by omega)] at hi;have:i=m:=by
           have:=(List.getElem?_eq_some_iff.1 hi).1;simp at this;omega
          subst this;simp [h1] at hi;subst hi;exact hd
       exact this len (Nat.le_refl _)
      obtain ⟨ds,hds1,hds2⟩:=hds;refine ⟨.slice ds,?_⟩;have hcell:embC W dm (.slice (some a) len (cap+1))=.slice (some b) ds.length (.exact (cap+1)):=by
       simp only [embC,hb1];rw [if_pos hl,hds1]
      simp only [List.map_cons,List.map_nil,hcell];refine .slice hu b ds (cap+1) (by omega) hmx hcw (by have:=hb2 0 0 (Nat.zero_le _);simpa using this) (fun i=>(List.range (P.cellsOf e)).map fun j=>embC W dm (vs (i*P.cellsOf e+j))) (fun i hi=> ?_) hds2;refine hb2 _ _ ?_;rw [<-Nat.succ_mul];exact Nat.mul_le_mul_right _ (by omega)
   |struct fs=>
    obtain ⟨xs,m,hm,rfl,hl,hlen,hf⟩:=DataW.trod_struct hu h;cases hm;have each:∀(i:Nat) (f:Field),fs[i]? =some f->∃d,RepS P (heapOf W dm) f.type (((cs.map (embC W dm)).drop f.offset).take (P.cellsOf f.type)) d:=by
     intro i f hfi;have:=hf i f hfi;have hi:i<xs.length:=by have:=(Array.getElem?_eq_some_iff.1 hfi).1;omega
     rw [List.getElem?_eq_getElem hi] at this;have hft:f.type<P.types.size:=by
      simp only [covers,Bool.and_eq_true,List.all_eq_true] at hc;have:=hc.1 f (by rw [<-Array.getElem?_toList] at hfi;exact List.mem_of_getElem? hfi)
      rwa [Nat.ble_eq] at this
     obtain ⟨d,hd⟩:=repS_of_trod hP hdm (dm:=dm) n _ hft _ _ this fun m hm=>hwt m (by
      unfold DataW.weights;simp only [hu];refine weights_each i ?_ ?_ hm
      ·rw [List.getElem?_map,Array.getElem?_toList,hfi];rfl
      ·rw [List.getElem?_map,List.getElem?_eq_getElem hi];rfl)
     refine ⟨d,?_⟩;rw [List.map_take,List.map_drop] at hd;exact hd
    have hds:∀m,m<=fs.size->∃ds:List D,ds.length=m/\∀(i:Nat) (f:Field) (d:D),fs[i]? =some f->ds[i]? =some d->RepS P (heapOf W dm) f.type (((cs.map (embC W dm)).drop f.offset).take (P.cellsOf f.type)) d:=by
     intro m;induction m with
     |zero=>intro _;exact ⟨[],rfl,fun i f d _ h=>by simp at h⟩
     |succ m ih=>
      intro hm;obtain ⟨ds,h1,h2⟩:=ih (by omega);obtain ⟨d,hd⟩:=each m _ (Array.getElem?_eq_getElem (by omega));refine ⟨ds++[d],by simp [h1],fun i f d' hfi hi=> ?_⟩;by_cases him:i<m
      ·rw [List.getElem?_append_left (by omega)] at hi;exact h2 i f d' hfi hi
      ·rw [List.getElem?_append_right (by omega)] at hi;have:i=m:=by
        have:=(List.getElem?_eq_some_iff.1 hi).1;simp at this;omega
       subst this;simp [h1] at hi;subst hi;rw [Array.getElem?_eq_getElem (by omega)] at hfi;cases hfi;exact hd
    obtain ⟨ds,h1,h2⟩:=hds fs.size (Nat.le_refl _);exact ⟨.agg ds,.struct hu _ ds (by simpa using hl) h1 h2⟩
   |array k e=>
    obtain ⟨xs,m,hm,rfl,hl,hlen,hf⟩:=DataW.trod_array hu h;cases hm;have each:∀i,i<k->∃d,RepS P (heapOf W dm) e (((cs.map (embC W dm)).drop (i*P.cellsOf e)).take (P.cellsOf e)) d:=by
     intro i hi;have:=hf i hi;rw [List.getElem?_eq_getElem (by omega)] at this;have hel':e<P.types.size:=by
      simp only [covers,Bool.and_eq_true,Nat.ble_eq] at hc;exact hc.1
     obtain ⟨d,hd⟩:=repS_of_trod hP hdm (dm:=dm) n _ hel' _ _ this fun m hm=>hwt m (by
      unfold DataW.weights;simp only [hu];exact weights_all _ (List.mem_map_of_mem (List.getElem_mem _)) hm)
     refine ⟨d,?_⟩;rw [List.map_take,List.map_drop] at hd;exact hd
    have hds:∀m,m<=k->∃ds:List D,ds.length=m/\∀i d,ds[i]? =some d->RepS P (heapOf W dm) e (((cs.map (embC W dm)).drop (i*P.cellsOf e)).take (P.cellsOf e)) d:=by
     intro m;induction m with
     |zero=>intro _;exact ⟨[],rfl,fun i d h=>by simp at h⟩
     |succ m ih=>
      intro hm;obtain ⟨ds,h1,h2⟩:=ih (by omega);obtain ⟨d,hd⟩:=each m (by omega);refine ⟨ds++[d],by simp [h1],fun i d' hi=> ?_⟩;by_cases him:i<m
      ·rw [List.getElem?_append_left (by omega)] at hi;exact h2 i d' hi
      ·rw [List.getElem?_append_right (by omega)] at hi;have:i=m:=by
        have:=(List.getElem?_eq_some_iff.1 hi).1;simp at this;omega
       subst this;simp [h1] at hi;subst hi;exact hd
    obtain ⟨ds,h1,h2⟩:=hds k (Nat.le_refl _);exact ⟨.agg ds,.array hu _ ds (by simpa using hl) h1 h2⟩
   |_=>
    obtain ⟨w,rfl,_⟩:=trod_cell h (by simp [hu]) (by simp [hu]);exact ⟨.other,.other _ (by simp [hu])⟩
theorem repS_of_arg(hP:coversAll P=true){dm:LAddr}(hdm:ghOf W dm.id dm.ver≠none){t:TypeId}(ht:t<P.types.size){v:Value}{d:DataW H}{ps:List MemPlace}(h:DataW.Trod enc P W base (fun _=>true) held t v d ps)(hwt:∀m∈d.weights P t,m<=reachBytes):∃d,RepS P (heapOf W dm) t (v.cells.toList.map (embC W dm)) d:=by
 obtain ⟨fuel,hf⟩:=h;exact repS_of_trod hP hdm fuel _ ht _ _ hf hwt
end
inductive AllRepS (P:Program) (H:LHeap):List TypeId->List LV->Prop
 |nil:AllRepS P H [] []
 |cons {u:TypeId} {c:LV} {us:List TypeId} {cs:List LV} (d:D) (h:RepS P H u [c] d) (t:AllRepS P H us cs):AllRepS P H (u::us) (c::cs)
theorem AllRepS.head{P:Program}{H:LHeap}{u:TypeId}{us:List TypeId}{cs:List LV}(h:AllRepS P H (u::us) cs):∃c cs' d,cs=c::cs'/\RepS P H u [c] d/\AllRepS P H us cs':=by
 cases h with
 |cons d h t=>exact ⟨_,_,d,rfl,h,t⟩
theorem AllRepS.last{P:Program}{H:LHeap}{cs:List LV}(h:AllRepS P H [] cs):cs=[]:=by cases h;rfl
theorem AllRepS.append{P:Program}{H:LHeap}{us us':List TypeId}{cs cs':List LV}(h:AllRepS P H us cs)(k:AllRepS P H us' cs'):AllRepS P H (us++us') (cs++cs'):=by
 induction h with
 |nil=>exact k
 |cons d h _ ih=>exact .cons d h ih
theorem repS_leaves{P:Program}{H:LHeap}:∀(n:Nat) (t:TypeId) (us:List TypeId) (cs:List LV) (d:D),leaves P n t=some us->RepS P H t cs d->AllRepS P H us cs
 |0,_,_,_,_,h,_=>by simp [leaves] at h
 |n+1,t,us,cs,d,h,hr=>by
  unfold leaves at h;have one:∀{td:TypeDesc},P.underlying t=some td->(∀fs,td≠.struct fs)->(∀m e,td≠.array m e)->us=[t]->P.cellsOf t=1->cs.length=1->AllRepS P H us cs:=by
   intro td _ _ _ hus _ hl
   match cs,hl with
   |[c],_=>rw [hus];exact .cons d hr .nil
  cases hu:P.underlying t with
  |none=>rw [hu] at h;cases h
  |some td=>
   rw [hu] at h;cases hr with
   |struct ht cs l hc hl hf=>
    rename_i fs;rw [ht] at hu;cases hu;simp only at h;have key:∀(fds:List Field) (k i:Nat) (vs:List TypeId),(∀j f,fds[j]? =some f->fs[i+j]? =some f)->leaves.go P (leaves P n) (P.cellsOf t) k fds=some vs->i+fds.length=fs.size->AllRepS P H vs (cs.drop k):=by
     intro fds;induction fds with
     |nil=>
      intro k i vs _ hg _;unfold leaves.go at hg;split at hg
      ·rename_i hk;cases hg;rw [hk,<-hc,List.drop_length];exact .nil
      ·cases hg
     |cons fd fds ih=>
      intro k i vs hfd hg hlen;unfold leaves.go at hg;split at hg
      ·rename_i hk;split at hg
       ·rename_i a b ha hb;cases hg;have h0:=hfd 0 fd rfl;rw [Nat.add_zero] at h0;have hi:i<l.length:=by
         simp only [List.length_cons] at hlen;omega
        have:=hf i fd _ h0 (List.getElem?_eq_getElem hi);have h1:=repS_leaves n _ a _ _ ha this;have h2:=ih (k+P.cellsOf fd.type) (i+1) b (fun j f hj=>by rw [show i+1+j=i+(j+1) by omega];exact hfd (j+1) f (by simpa using hj)) hb (by simp only [List.length_cons] at hlen;omega);rw [hk] at h1;have:=h1.append h2;rw [drop_take_append] at this;exact this
       ·cases hg
      ·cases hg
    have:=key fs.toList 0 0 us (fun j f hj=>by rw [Nat.zero_add];rw [<-Array.getElem?_toList];exact hj) h (by simp);simpa using this
   |array ht cs l hc hl hf=>rw [ht] at hu;cases hu;cases h
   |bool ht b=>rw [ht] at hu;cases hu;simp only at h;split at h<;>cases h;exact one ht (by simp) (by simp) rfl (by assumption) rfl
   |int ht m hm=>rw [ht] at hu;cases hu;simp only at h;split at h<;>cases h;exact one ht (by simp) (by simp) rfl (by assumption) rfl
   |str ht s hs=>rw [ht] at hu;cases hu;simp only at h;split at h<;>cases h;exact one ht (by simp) (by simp) rfl (by assumption) rfl
   |nil ht=>rw [ht] at hu;cases hu;simp only at h;split at h<;>cases h;exact one ht (by simp) (by simp) rfl (by assumption) rfl
   |slice ht a l c hc hm hw h0 xs hx hr=>rw [ht] at hu;cases hu;simp only at h;split at h<;>cases h;exact one ht (by simp) (by simp) rfl (by assumption) rfl
   |other c hh=>
    cases td with
    |struct fs=>rw [hu] at hh;exact hh.elim
    |array m e=>rw [hu] at hh;exact hh.elim
    |_=>simp only at h;split at h<;>cases h;exact one hu (by simp) (by simp) rfl (by assumption) rfl
theorem RepS.str_inv{P:Program}{H:LHeap}{t:TypeId}{c:LV}{d:D}(ht:P.underlying t=some .string)(h:RepS P H t [c] d):∃s:List UInt8,c=.str s/\s.length<=maxLen:=by
 generalize hcs:[c]=cs at h;cases h with
 |str h s hs=>cases hcs;exact ⟨s,rfl,hs⟩
 |other _ h=>rw [ht] at h;exact h.elim
 |_=>simp_all
theorem RepS.int_inv{P:Program}{H:LHeap}{t:TypeId}{k:IntKind}{c:LV}{d:D}(ht:P.underlying t=some (.int k))(h:RepS P H t [c] d):∃n:Int,c=.int k n/\k.min<=n/\n<=k.max:=by
 generalize hcs:[c]=cs at h;cases h with
 |int h n hn=>cases hcs;rw [ht] at h;cases h;exact ⟨n,rfl,hn⟩
 |other _ h=>rw [ht] at h;exact h.elim
 |_=>simp_all
structure SliceAtS (P:Program) (H:LHeap) (e:TypeId) (a:Option LAddr) (n:Nat) (c:Cap) (xs:Nat->List LV) (ds:List D):Prop where
 len:ds.length=n
 cap:n<=maxLen
 wt:n*P.bytesOf e<=reachBytes
 some:∀i,i<n->a.isSome=true
 load:∀i,i<n->loadN H ⟨(adr a).id,(adr a).ver,(adr a).off+i*P.cellsOf e⟩ (P.cellsOf e)=Option.some (xs i)
 rep:∀(i:Nat) (d:D),ds[i]? =Option.some d->RepS P H e (xs i) d
 zero:∀ad,a=Option.some ad->loadN H ad 0=Option.some []
theorem SliceAtS.lt{P:Program}{W:World}{dm:LAddr}{e:TypeId}{a:Option LAddr}{n:Nat}{c:Cap}{xs:Nat->List LV}{ds:List D}(h:SliceAtS P (heapOf W dm) e a n c xs ds):∀i,i<n->(adr a).id<(heapOf W dm).next:=
 fun i hi=>heapOf_lt (a:=⟨(adr a).id,(adr a).ver,(adr a).off+i*P.cellsOf e⟩) (h.load i hi)
theorem RepS.slice_inv{P:Program}{H:LHeap}{t e:TypeId}{c:LV}{d:D}(ht:P.underlying t=some (.slice e))(h:RepS P H t [c] d):
  ∃a n q xs ds,c=.slice a n q/\SliceAtS P H e a n q xs ds/\((∃m,q=.exact m)/\(a=none->q=.exact 0)):=by
 generalize hcs:[c]=cs at h;cases h with
 |nil h=>
  cases hcs;exact ⟨none,0,.exact 0,fun _=>[],[],rfl,⟨rfl,Nat.zero_le _,by rw [Nat.zero_mul];exact Nat.zero_le _,fun i hi=>by omega,fun i hi=>by omega,fun i d h=>by simp at h,fun ad e=>by cases e⟩,⟨_,rfl⟩,fun _=>rfl⟩
 |slice h a l q hq hm hw h0 xs hx hr=>
  cases hcs;rw [ht] at h;cases h;exact ⟨some a,l.length,.exact q,xs,l,rfl,⟨rfl,Nat.le_trans hq hm,Nat.le_trans (Nat.mul_le_mul_right _ hq) hw,fun _ _=>rfl,hx,hr,fun ad e=>by cases e;exact h0⟩,⟨_,rfl⟩,fun h=>by cases h⟩
 |other _ h=>rw [ht] at h;exact h.elim
 |_=>simp_all
section
variable {H:Type} {enc:TypeId×Value->H} {P:Program} {W:World} {base:Nat} {held:Bool} {dm:LAddr}
theorem argS_struct(hP:coversAll P=true)(hd:ghOf W dm.id dm.ver≠none){t:TypeId}{fs:Array Field}(hu:P.underlying t=some (.struct fs))(ht:t<P.types.size){v:Value}{r:Reach}{b0:Nat}(hv:Value.okWide P W r b0 t v)
  {d:DataW H} {ps:List MemPlace} (h:DataW.Trod enc P W base (fun _=>true) held t v d ps) (hwt:∀m∈d.weights P t,m<=reachBytes):∃cs d,VRel (ghOf W) (.agg cs) v/\RepS P (heapOf W dm) t cs d:=by
 unfold Value.okWide at hv;rw [hu] at hv;obtain ⟨cs,rfl,_⟩:=hv;obtain ⟨d,hr⟩:=repS_of_arg hP (dm:=dm) hd ht h hwt;exact ⟨cs.toList.map (embC W dm),d,embV_rel hd (.agg cs),hr⟩
theorem argS_cell(hP:coversAll P=true)(hd:ghOf W dm.id dm.ver≠none){t:TypeId}(hu:isAggT P t=some false)(ht:t<P.types.size){v:Value}
  {d:DataW H} {ps:List MemPlace} (h:DataW.Trod enc P W base (fun _=>true) held t v d ps) (hwt:∀m∈d.weights P t,m<=reachBytes) (hv:v.oneCell'=true):∃x d,VRel (ghOf W) x v/\RepS P (heapOf W dm) t [x] d:=by
 obtain ⟨d,hr⟩:=repS_of_arg hP (dm:=dm) hd ht h hwt;rw [oneCell_cells hv] at hr;exact ⟨embC W dm v,d,embC_rel hd v,hr⟩
end
end Go.Lm

/- Loops over functions: the frame, its rounds, and what waits behind. -/
namespace Go.Lm
def loop0(f:FuncId)(vs:List LV)(params:Array Tmp)(a b:Code)(d:Nat):LLoop:=
 { state:=.ready,pending:=none,fn:=f,tmps:=vs,params,assign:=a,body:=b,defers:=d }
end Go.Lm

/- Slices that grow: what they hold, and what an append comes to. -/
namespace Go.Lm
structure RowT (P:Program) (t e:TypeId) (size bytes:Nat):Prop where
 elem:elemOfSlice P t=some e
 sized:sizeOfT P e=some size
 pos:0<size
 bytes:bytesOfT P e=some bytes
 und:(P.underlying t).isNone=false
 noInt:isIntT P t=false
 zero:∃z,zeroOf P e=some z/\(Nat.beq z.cells.length size&&allCells z.cells)=true
inductive RowAt (H:LHeap) (e:TypeId) (size:Nat):Option LAddr->Nat->Cap->List LV->Prop
 |nil:RowAt H e size none 0 (.exact 0) []
 |full (a:LAddr) (n:Nat) (cs:List LV) (hi:a.id<H.next) (h:loadN H a (n*size)=some cs) (hl:cs.length=n*size) (hc:allCells cs=true):RowAt H e size (some a) n (.exact n) cs
 |free (r n m:Nat) (cs:List LV) (hi:r<H.next) (h:H.get r=some (.cells cs e (n*size) m .none false false)) (hm:m<=n*size) (hl:cs.length=n*size) (hc:allCells cs=true):RowAt H e size (some ⟨r,n*size,0⟩) n (.free size) cs
theorem allCells_app:∀{a b:List LV},allCells a=true->allCells b=true->allCells (a++b)=true
 |[],_,_,h=>h
 |v::a,b,h,k=>by
  simp only [List.cons_append,allCells,Bool.and_eq_true] at h |-;exact ⟨h.1,allCells_app h.2 k⟩
theorem RowAt.len{H:LHeap}{e:TypeId}{size:Nat}{a:Option LAddr}{n:Nat}{q:Cap}{cs:List LV}(h:RowAt H e size a n q cs):cs.length=n*size:=by
 cases h<;>simp_all
theorem RowAt.cells{H:LHeap}{e:TypeId}{size:Nat}{a:Option LAddr}{n:Nat}{q:Cap}{cs:List LV}(h:RowAt H e size a n q cs):allCells cs=true:=by
 cases h<;>first |rfl |assumption
theorem RowAt.id{H:LHeap}{e:TypeId}{size:Nat}{a:LAddr}{n:Nat}{q:Cap}{cs:List LV}(h:RowAt H e size (some a) n q cs):a.id<H.next:=by
 cases h<;>assumption
theorem RowAt.on{H H':LHeap}{e:TypeId}{size:Nat}{a:Option LAddr}{n:Nat}{q:Cap}{cs:List LV}(h:RowAt H e size a n q cs)(hn:H.next<=H'.next)(hk:∀ad,a=some ad->Keep H H' ad.id)(hg:∀ad,a=some ad->q=.free size->H'.get ad.id=H.get ad.id):RowAt H' e size a n q cs:=by
 cases h with
 |nil=>exact .nil
 |full a n cs hi h hl hc=>exact .full a n cs (Nat.lt_of_lt_of_le hi hn) ((hk a rfl).loads a _ _ rfl h) hl hc
 |free r n m cs hi h hm hl hc=>exact .free r n m cs (Nat.lt_of_lt_of_le hi hn) (by rw [hg _ rfl rfl];exact h) hm hl hc
theorem RowAt.loadAll{H:LHeap}{e:TypeId}{size:Nat}{a:Option LAddr}{n:Nat}{q:Cap}{cs:List LV}(h:RowAt H e size a n q cs):firstCellsL H size n (.slice a n q)=some cs:=by
 cases h with
 |nil=>simp [firstCellsL]
 |full a n cs hi h hl hc=>simp only [firstCellsL,Nat.ble_eq,Nat.le_refl,if_true];exact h
 |free r n m cs hi h hm hl hc=>
  simp only [firstCellsL,Nat.ble_eq,Nat.le_refl,if_true];unfold loadN;rw [h];simp only [Nat.zero_add,dropN_eq,List.drop_zero];rw [if_pos (by simp [hm]),takeN_of _ _ (by omega),<-hl,List.take_length]
theorem RowAt.load{H:LHeap}{e:TypeId}{size:Nat}{a:Option LAddr}{n:Nat}{q:Cap}{cs:List LV}(h:RowAt H e size a n q cs){i:Nat}(hi:i<n):
  a.isSome=true/\(adr a).id<H.next/\loadN H ⟨(adr a).id,(adr a).ver,(adr a).off+i*size⟩ size=some ((cs.drop (i*size)).take size):=by
 have hmul:i*size+size<=n*size:=by
  have:=Nat.mul_le_mul_right size (show i+1<=n from hi)
  rwa [Nat.add_mul,Nat.one_mul] at this
 cases h with
 |nil=>omega
 |full a n cs hid h hl hc=>
  refine ⟨rfl,hid,?_⟩;show loadN H ⟨a.id,a.ver,a.off+i*size⟩ size=_;unfold loadN at h |-;split at h
  ·rename_i c1 c2 c3 mv c5 c6 c7 hg;split at h
   ·rename_i hb;simp only [Bool.and_eq_true,Nat.ble_eq] at hb;simp only [hg];rw [if_pos (by simp only [Bool.and_eq_true,Nat.ble_eq];exact ⟨hb.1,by omega⟩)];rw [dropN_eq] at h |-;obtain ⟨h3,h4⟩:=takeN_some _ _ _ h;rw [takeN_of _ _ (by rw [List.length_drop] at h3 |-;omega)];rw [h4,List.drop_take,List.take_take,List.drop_drop];congr 1;rw [Nat.min_eq_left (by omega)]
   ·cases h
  ·cases h
 |free r n m cs hid h hm hl hc=>
  refine ⟨rfl,hid,?_⟩;show loadN H ⟨r,n*size,0+i*size⟩ size=_;unfold loadN;simp only [h,Nat.zero_add];rw [if_pos (by simp only [Bool.and_eq_true,Nat.ble_eq];exact ⟨hm,hmul⟩),dropN_eq,takeN_of _ _ (by rw [List.length_drop];omega)]
theorem newRow_get{H:LHeap}{e:TypeId}{cs:List LV}(hc:allCells cs=true):newRow H e cs false=some (⟨H.next,cs.length,0⟩,H.push (.cells cs e cs.length cs.length .none false false)):=by
 unfold newRow;rw [if_pos hc]
theorem RowAt.append2{P:Program}{t e:TypeId}{size bytes:Nat}(hT:RowT P t e size bytes){H:LHeap}{a:Option LAddr}{n:Nat}{q:Cap}{cs:List LV}(h:RowAt H e size a n q cs){x:LV}{m:Nat}{new:List LV}
  (hx:lenL x=some m) (hf:firstCellsL H size m x=some new) (hnl:new.length=m*size) (hnc:allCells new=true) (hb:(2*(n+m)+1000)*(bytes+1)<=140737488355328):
  ∃Y a' q' H',appendL P H [t,t] [.slice a n q,x]=some (.slice a' (n+m) q',H')/\PresX Y H H'/\RowAt H' e size a' (n+m) q' (cs++new)/\(∀i∈Y,∃ad,a=some ad/\ad.id=i)/\
   (∀ad',a'=some ad'->(∃ad,a=some ad/\ad.id=ad'.id)\/H.next<=ad'.id)/\(0<m->q'=.free size):=by
 obtain ⟨s,rfl⟩:∃s,size=s+1:=⟨size-1,by have:=hT.pos;omega⟩;obtain ⟨z,hz,hzl⟩:=hT.zero;have happ:appendL P H [t,t] [.slice a n q,x]=appendCells P H e (s+1) bytes (.slice a n q) new m:=by
  unfold appendL;simp only [hT.elem,hT.sized,hT.bytes,hT.noInt,hT.und,hx,hf,Bool.false_eq_true,if_false]
 rw [happ];by_cases hm:m=0
 ·subst hm;have:new=[]:=List.eq_nil_of_length_eq_zero (by omega);subst this;exact ⟨[],a,q,H,by simp [appendCells],.refl _ _,by simpa using h,(fun i hi=>by cases hi),fun ad' h=>.inl ⟨ad',h,rfl⟩,fun h=>absurd h (Nat.lt_irrefl _)⟩
 ·have hm':Nat.beq m 0=false:=by
   cases hbq:Nat.beq m 0 with
   |true=>exact absurd (Nat.eq_of_beq_eq_true hbq) hm
   |false=>rfl
  have hg1:(!(Nat.ble ((2*(n+m)+1000)*(bytes+1)) 140737488355328&&Nat.beq new.length (m*(s+1))))=false:=by
   have h1:Nat.ble ((2*(n+m)+1000)*(bytes+1)) 140737488355328=true:=by rw [Nat.ble_eq];exact hb
   have h2:Nat.beq new.length (m*(s+1))=true:=by rw [hnl];exact Nat.beq_refl _
   rw [h1,h2];rfl
  have hg2:(!(Nat.beq z.cells.length (s+1)&&allCells z.cells))=false:=by rw [hzl];rfl
  have hgrow:firstCellsL H (s+1) n (.slice a n q)=some cs->∀H',H'=H.push (.cells (cs++new) e (cs++new).length (cs++new).length .none false false)->
    growL H e cs new (s+1) (n+m)=some (.slice (some ⟨H.next,(n+m)*(s+1),0⟩) (n+m) (.free (s+1)),H')/\RowAt H' e (s+1) (some ⟨H.next,(n+m)*(s+1),0⟩) (n+m) (.free (s+1)) (cs++new):=by
   intro _ H' hH';have hl:(cs++new).length=(n+m)*(s+1):=by rw [List.length_append,h.len,hnl,Nat.add_mul]
   have hc:=allCells_app h.cells hnc;refine ⟨?_,?_⟩
   ·unfold growL;rw [newRow_get hc];simp only [hl,hH']
   ·refine .free H.next (n+m) ((n+m)*(s+1)) (cs++new) (by rw [hH'];exact Nat.lt_succ_self _) ?_ (Nat.le_refl _) hl hc;rw [hH',LHeap.get_push,if_pos rfl,hl]
  have hrow:=h.loadAll;cases h with
  |nil=>
   obtain ⟨h1,h2⟩:=hgrow hrow _ rfl;refine ⟨[],_,_,_,?_,.push _ _ _,h2,(fun i hi=>by cases hi),(fun ad' h=>by cases h;exact .inr (Nat.le_refl _)),fun _=>rfl⟩;unfold appendCells;simp only [hm',hg1,hz,hg2,Bool.false_eq_true,if_false];rw [if_neg (by simp only [Nat.ble_eq];omega),hrow];exact h1
  |full ad n cs hid hld hl hc=>
   obtain ⟨h1,h2⟩:=hgrow hrow _ rfl;refine ⟨[],_,_,_,?_,.push _ _ _,h2,(fun i hi=>by cases hi),(fun ad' h=>by cases h;exact .inr (Nat.le_refl _)),fun _=>rfl⟩;unfold appendCells;simp only [hm',hg1,hz,hg2,Bool.false_eq_true,if_false];rw [if_neg (by simp only [Nat.ble_eq];omega),hrow];exact h1
  |free r n mv cs hid hg hmv hl hc=>
   have hnm:(n+m)*(s+1)=n*(s+1)+m*(s+1):=Nat.add_mul ..;have hpos:0<m*(s+1):=Nat.mul_pos (by omega) (by omega);refine ⟨[r],some ⟨r,n*(s+1)+new.length,0⟩,.free (s+1),H.put r (.cells (cs++new) e (n*(s+1)+new.length) mv .none false false),?_,.put _ _ _,?_,(fun i hi=>⟨_,rfl,(List.mem_singleton.1 hi).symm⟩),(fun ad' h=>by cases h;exact .inl ⟨_,rfl,rfl⟩),fun _=>rfl⟩
   ·unfold appendCells;simp only [hm',hg1,hz,hg2,Bool.false_eq_true,if_false,Nat.beq_refl,Bool.not_true];rw [if_neg (by simp only [Nat.ble_eq];omega)];unfold appendEnd;simp only [hg,Nat.zero_add,Nat.beq_refl,Bool.and_self,Bool.true_and,FZ.apart,hnc,if_true]
   ·have he:n*(s+1)+new.length=(n+m)*(s+1):=by rw [hnl,Nat.add_mul]
    rw [he];refine .free r (n+m) mv (cs++new) hid ?_ (by omega) (by rw [List.length_append,hl,hnl,Nat.add_mul]) (allCells_app hc hnc);rw [LHeap.get_put,if_pos rfl]
theorem RowAt.append{P:Program}{t e:TypeId}{size bytes:Nat}(hT:RowT P t e size bytes){H:LHeap}{a:Option LAddr}{n:Nat}{q:Cap}{cs:List LV}(h:RowAt H e size a n q cs){x:LV}{m:Nat}{new:List LV}
  (hx:lenL x=some m) (hf:firstCellsL H size m x=some new) (hnl:new.length=m*size) (hnc:allCells new=true) (hb:(2*(n+m)+1000)*(bytes+1)<=140737488355328):
  ∃Y a' q' H',appendL P H [t,t] [.slice a n q,x]=some (.slice a' (n+m) q',H')/\PresX Y H H'/\RowAt H' e size a' (n+m) q' (cs++new)/\(∀i∈Y,∃ad,a=some ad/\ad.id=i)/\
   (∀ad',a'=some ad'->(∃ad,a=some ad/\ad.id=ad'.id)\/H.next<=ad'.id):=by
 obtain ⟨Y,a',q',H',h1,h2,h3,h4,h5,_⟩:=h.append2 hT hx hf hnl hnc hb;exact ⟨Y,a',q',H',h1,h2,h3,h4,h5⟩
end Go.Lm

/- Slices that grow: an element written in place. -/
namespace Go.Lm
theorem over_mid{α:Type}:∀(a b c v:List α),b.length=v.length->over a.length (a++(b++c)) v=some (a++(v++c))
 |[],b,c,v,h=>by
  induction v generalizing b with
  |nil=>
   have:b=[]:=List.eq_nil_of_length_eq_zero (by simpa using h);subst this;simp [over]
  |cons y v ih=>
   cases b with
   |nil=>simp at h
   |cons x b=>
    have:=ih b (by simpa using h);simp only [List.length_nil,List.nil_append,List.cons_append] at this |-;simp only [over,this,Option.map_some]
 |x::a,b,c,v,h=>by
  simp only [List.length_cons,List.cons_append,over,over_mid a b c v h,Option.map_some]
theorem allCells_parts:∀{a b:List LV},allCells (a++b)=true->allCells a=true/\allCells b=true
 |[],b,h=>⟨rfl,h⟩
 |v::a,b,h=>by
  simp only [List.cons_append,allCells,Bool.and_eq_true] at h |-;obtain ⟨h1,h2⟩:=allCells_parts h.2;exact ⟨⟨h.1,h1⟩,h2⟩
theorem RowAt.store{H:LHeap}{e:TypeId}{size:Nat}{a:Option LAddr}{n:Nat}{A B C:List LV}(h:RowAt H e size a n (.free size) (A++(B++C))){i:Nat}(hA:A.length=i*size){V:List LV}(hV:V.length=size)(hB:B.length=size)(hc:allCells V=true)(hp:0<size):
  ∃H',storeN H ⟨(adr a).id,(adr a).ver,(adr a).off+i*size⟩ V=some H'/\RowAt H' e size a n (.free size) (A++(V++C))/\PresX [(adr a).id] H H':=by
 cases h with
 |free r n m cs hi hg hm hl hcc=>
  refine ⟨H.put r (.cells (A++(V++C)) e (n*size) (n*size) .none false false),?_,.free r n (n*size) _ hi (by rw [LHeap.get_put,if_pos rfl]) (Nat.le_refl _) ?_ ?_,.put _ _ _⟩
  ·obtain ⟨x,V',rfl⟩:∃x V',V=x::V':=by
    cases V with
    |nil=>simp at hV;omega
    |cons x V'=>exact ⟨x,V',rfl⟩
   unfold storeN;simp only [adr,hg,Nat.beq_refl,Bool.not_false,Bool.and_self,FZ.apart,hc,if_true,Nat.zero_add];rw [<-hA,over_mid A B C (x::V') (by rw [hB,hV])]
  ·simp only [List.length_append] at hl |-;omega
  ·obtain ⟨h1,h2⟩:=allCells_parts hcc;exact allCells_app h1 (allCells_app hc (allCells_parts h2).2)
theorem loadN_join{H:LHeap}{a:LAddr}{k s:Nat}{A B:List LV}(h:loadN H a k=some A)(h':loadN H ⟨a.id,a.ver,a.off+k⟩ s=some B):loadN H a (k+s)=some (A++B):=by
 unfold loadN at h h' |-;split at h
 ·rename_i cs e ver mv fz ro wh hg;simp only [hg] at h' |-;split at h
  ·rename_i hb;split at h'
   ·rename_i hb';simp only [Bool.and_eq_true,Nat.ble_eq] at hb hb';rw [if_pos (by simp only [Bool.and_eq_true,Nat.ble_eq];exact ⟨hb.1,by omega⟩)];rw [dropN_eq] at h h' |-;obtain ⟨h1,h2⟩:=takeN_some _ _ _ h;obtain ⟨h3,h4⟩:=takeN_some _ _ _ h';rw [List.length_drop] at h1 h3;rw [takeN_of _ _ (by rw [List.length_drop];omega),h2,h4,<-List.drop_drop,List.take_add]
   ·cases h'
  ·cases h
 ·cases h
theorem loadN_rows{H:LHeap}{a:LAddr}{s:Nat}(h0:loadN H a 0=some []):∀(n:Nat) (xs:Nat->List LV),(∀i,i<n->loadN H ⟨a.id,a.ver,a.off+i*s⟩ s=some (xs i))->loadN H a (n*s)=some ((List.range n).flatMap xs)
 |0,xs,_=>by rw [Nat.zero_mul];exact h0
 |n+1,xs,h=>by
  have:=loadN_join (loadN_rows h0 n xs fun i hi=>h i (by omega)) (h n (by omega));rw [Nat.add_mul,Nat.one_mul,this,List.range_succ,List.flatMap_append];simp
theorem RowAt.zero{H:LHeap}{e:TypeId}{size:Nat}{a:LAddr}{n:Nat}{q:Cap}{cs:List LV}(h:RowAt H e size (some a) n q cs):loadN H a 0=some []:=by
 cases h with
 |full a n cs hi h hl hc=>
  unfold loadN at h |-;split at h
  ·split at h
   ·rename_i hb;simp only [Bool.and_eq_true,Nat.ble_eq] at hb;rw [if_pos (by simp only [Bool.and_eq_true,Nat.ble_eq];exact ⟨hb.1,by omega⟩)];rw [dropN_eq,takeN_of _ _ (Nat.zero_le _)];rfl
   ·cases h
  ·cases h
 |free r n m cs hi h hm hl hc=>
  unfold loadN;simp only [h];rw [if_pos (by simp only [Bool.and_eq_true,Nat.ble_eq];exact ⟨hm,by omega⟩)];rw [dropN_eq,takeN_of _ _ (Nat.zero_le _)];rfl
end Go.Lm

/- A call on a row that may grow: how far it goes may be learnt first. -/
namespace Go.Lm
theorem CallL.learn{C:Cfg}{f:FuncId}{args:List LV}{H:LHeap}{R:LV->LHeap->Prop}(t:Nat){a:LAddr}{n sz:Nat}{cs:List LV}{e:TypeId}{minv:Nat}{fz:FZ}
  (hv:args[t]? =some (.slice (some a) n (.free sz))) (hsz:0<sz) (hg:H.get a.id=some (.cells cs e a.ver minv fz false false))
  (h:∀c,n<=c->a.ver<=a.off+c*sz->CallL C f (setNth args t (.slice (some ⟨a.id,a.off+c*sz,a.off⟩) n (.exact c))) (H.put a.id (.cells (cs++List.replicate (a.off+c*sz-a.ver) .junk) e (a.off+c*sz) minv fz false false)) R):
  CallL C f args H R:=by
 have ht:t<args.length:=(List.getElem?_eq_some_iff.1 hv).1;obtain ⟨g0,hg0,_⟩:=h (n+a.ver) (Nat.le_add_right _ _) (by
  have:=Nat.le_mul_of_pos_right (n+a.ver) hsz;omega)
 obtain ⟨fn,c,hfn,hb⟩:∃fn c,C.P.funcs[f]? =some fn/\fn.body=some c:=by
  unfold enterF at hg0;split at hg0
  ·rename_i fn hfn;split at hg0
   ·rename_i c hc;exact ⟨fn,c,hfn,hc⟩
   ·cases hg0
  ·cases hg0
 have hE:∀x:List LV,enterF C f x false=some { fn:=f,tmps:=x++replU (fn.ntmps-x.length),todo:=[.code c],defers:=[],mode:=.run,deferred:=false,roundOf:=none }:=by
  intro x;unfold enterF;rw [hfn];simp only [hb]
 refine ⟨_,hE args,fun cs' p k=>.learn (t:=t) (a:=a) (n:=n) (sz:=sz) rfl rfl ?_ hg fun c h1 h2=> ?_⟩
 ·show (args++_)[t]? =_;rw [List.getElem?_append_left ht];exact hv
 ·obtain ⟨g',hg',he⟩:=h c h1 h2;rw [hE] at hg';cases hg';have:=he cs' p k;unfold learnS;have hs:∀(v:LV) (m:List LV),setNth (args++m) t v=setNth args t v++m:=fun v m=>by
   rw [setNth_eq,setNth_eq,List.set_append_left _ _ ht]
  have hl:∀v:LV,(setNth args t v).length=args.length:=fun v=>by rw [setNth_eq,List.length_set]
  simp only [hs];rw [hl] at this;exact this
end Go.Lm

/- Rows that are written in place, and slices of them. -/
namespace Go.Lm
structure WAtW (wh:Bool) (H:LHeap) (a:LAddr) (e:TypeId) (A cs B:List LV):Prop where
 get:∃minv,H.get a.id=some (.cells (A++(cs++B)) e a.ver minv .none false wh)/\minv<=a.ver
 off:A.length=a.off
 len:(A++(cs++B)).length=a.ver
 lt:a.id<H.next
 all:allCells (A++(cs++B))=true
abbrev WAt:=WAtW false
variable {wh:Bool}
theorem WAtW.on{H H':LHeap}{a:LAddr}{e:TypeId}{A cs B:List LV}(h:WAtW wh H a e A cs B){X:List Nat}(k:PresX X H H')(hx:a.id∉X):WAtW wh H' a e A cs B:=by
 obtain ⟨m,h1,h2⟩:=h.get;exact ⟨⟨m,by rw [(k.keep a.id h.lt hx).get];exact h1,h2⟩,h.off,h.len,Nat.lt_of_lt_of_le h.lt k.next,h.all⟩
theorem WAtW.cells{H:LHeap}{a:LAddr}{e:TypeId}{A cs B:List LV}(h:WAtW wh H a e A cs B):allCells cs=true:=(allCells_parts (allCells_parts h.all).2).1
theorem WAtW.sub{H:LHeap}{a:LAddr}{e:TypeId}{A P Q S B:List LV}(h:WAtW wh H a e A (P++(Q++S)) B):WAtW wh H ⟨a.id,a.ver,a.off+P.length⟩ e (A++P) Q (S++B):=by
 have he:A++P++(Q++(S++B))=A++(P++(Q++S)++B):=by simp only [List.append_assoc]
 obtain ⟨m,h1,h2⟩:=h.get;exact ⟨⟨m,by rw [he];exact h1,h2⟩,by rw [List.length_append,h.off],by rw [he];exact h.len,h.lt,by rw [he];exact h.all⟩
theorem WAtW.sup{H:LHeap}{a:LAddr}{e:TypeId}{A P Q S B:List LV}(h:WAtW wh H ⟨a.id,a.ver,a.off+P.length⟩ e (A++P) Q (S++B))(ho:A.length=a.off):WAtW wh H a e A (P++(Q++S)) B:=by
 have he:A++P++(Q++(S++B))=A++(P++(Q++S)++B):=by simp only [List.append_assoc]
 obtain ⟨m,h1,h2⟩:=h.get;exact ⟨⟨m,by rw [<-he];exact h1,h2⟩,ho,by rw [<-he];exact h.len,h.lt,by rw [<-he];exact h.all⟩
theorem WAtW.load{H:LHeap}{a:LAddr}{e:TypeId}{A cs B:List LV}(h:WAtW wh H a e A cs B):loadN H a cs.length=some cs:=by
 obtain ⟨m,h1,h2⟩:=h.get;have hl:=h.len;rw [List.length_append,List.length_append,h.off] at hl;unfold loadN;rw [h1];simp only;rw [if_pos (by simp only [Bool.and_eq_true,Nat.ble_eq];omega),dropN_eq,<-h.off,List.drop_left,takeN_of _ _ (by simp),List.take_left]
theorem WAtW.loadAt{H:LHeap}{a:LAddr}{e:TypeId}{A P Q S B:List LV}(h:WAtW wh H a e A (P++(Q++S)) B):loadN H ⟨a.id,a.ver,a.off+P.length⟩ Q.length=some Q:=h.sub.load
theorem WAtW.put{H:LHeap}{a:LAddr}{e:TypeId}{A cs B:List LV}(h:WAtW wh H a e A cs B){V:List LV}(hV:V.length=cs.length)(hc:allCells V=true):
  ∃H',storeN H a V=some H'/\WAtW wh H' a e A V B/\PresX [a.id] H H':=by
 obtain ⟨m,h1,h2⟩:=h.get;cases V with
 |nil=>
  obtain rfl:cs=[]:=List.eq_nil_of_length_eq_zero hV.symm;exact ⟨H,rfl,h,.refl _ _⟩
 |cons x V=>
  refine ⟨H.put a.id (.cells (A++(x::V++B)) e a.ver a.ver .none false wh),?_,⟨⟨a.ver,by rw [LHeap.get_put,if_pos rfl],Nat.le_refl _⟩,h.off,?_,h.lt,?_⟩,.put _ _ _⟩
  ·unfold storeN;simp only [h1,Nat.beq_refl,Bool.not_false,Bool.and_self,FZ.apart,hc,if_true];rw [<-h.off,over_mid A cs B (x::V) hV.symm]
  ·have:=h.len;simp only [List.length_append] at this |-;omega
  ·exact allCells_app (allCells_parts h.all).1 (allCells_app hc (allCells_parts (allCells_parts h.all).2).2)
theorem WAtW.putAt{H:LHeap}{a:LAddr}{e:TypeId}{A P Q S B:List LV}(h:WAtW wh H a e A (P++(Q++S)) B){V:List LV}(hV:V.length=Q.length)(hc:allCells V=true):
  ∃H',storeN H ⟨a.id,a.ver,a.off+P.length⟩ V=some H'/\WAtW wh H' a e A (P++(V++S)) B/\PresX [a.id] H H':=by
 obtain ⟨H',h1,h2,h3⟩:=h.sub.put hV hc;exact ⟨H',h1,h2.sup h.off,h3⟩
theorem copyL_of{P:Program}{H H':LHeap}{t u e:TypeId}{size dl sl k:Nat}{a:LAddr}{q:Cap}{x:LV}{V:List LV}(he:elemOfSlice P t=some e)(hs:sizeOfT P e=some (size+1))(hl:lenL x=some sl)(hk:min sl dl=k)
  (hf:firstCellsL H (size+1) k x=some V) (hp:storeN H a V=some H'):copyL P H [t,u] [.slice (some a) dl q,x]=some (.int .i64 (k:Nat),H'):=by
 unfold copyL;simp only [he,hs,hl,hk,hf,hp]
def opB(C:Cfg)(H:LHeap)(b:Builtin)(ts:List TypeId)(args:List LV):Option (List (LNext×LHeap)):=
 match builtinL C H b ts args with
 |some x=>some [x]
 |none=>none
theorem opB_copy{C:Cfg}{H H':LHeap}{ts:List TypeId}{args:List LV}{v:LV}(h:copyL C.P H ts args=some (v,H')):opB C H .copy ts args=some [(.value v,H')]:=by
 unfold opB builtinL;simp only [h]
theorem opB_clear{C:Cfg}{H H':LHeap}{ts:List TypeId}{args:List LV}{v:LV}(h:clearL C.P H ts args=some (v,H')):opB C H .clear ts args=some [(.value v,H')]:=by
 unfold opB builtinL;simp only [h]
def QOK(a:LAddr)(n size:Nat)(q:Cap):Prop:=(∃c,q=.exact c/\n<=c)\/(q=.free size/\a.off+n*size<=a.ver)
theorem slice_hi{P:Program}{t e:TypeId}{size:Nat}(hu:P.underlying t=some (.slice e))(hs:sizeOfT P e=some size)(hp:1<=size){a:LAddr}{n:Nat}{q:Cap}(hq:QOK a n size q){k:IntKind}{i:Nat}(hi:i<=n):
  sliceL P t (.slice (some a) n q) none (some (.int k i)) none=some (.slice (some a) i q):=by
 unfold sliceL;rcases hq with ⟨c,rfl,hc⟩ |⟨rfl,hf⟩
 ·simp only [hu,hs];unfold sliceExact;simp only [boundO,bound,Option.isNone_some,Option.isSome_none,Bool.and_false,Bool.false_eq_true,if_false];rw [if_pos (by rw [Nat.ble_eq];omega)];simp only [Nat.zero_mul,Nat.add_zero,Option.map_some,Nat.sub_zero,ite_self]
 ·simp only [hu,hs,Nat.beq_refl,Bool.true_and];rw [if_pos (by rw [Nat.ble_eq];exact hp)];unfold sliceFree sliceFree2;simp only [boundO,bound];have hm:i<=mostOf a n size:=by
   unfold mostOf;split
   ·omega
   ·rename_i m;refine Nat.le_trans hi ((Nat.le_div_iff_mul_le (by omega)).2 (by omega))
  rw [if_pos (by rw [Nat.ble_eq];exact hm)];simp only [Nat.zero_mul,Nat.add_zero,Nat.sub_zero]
theorem slice_ext{P:Program}{t e:TypeId}{size:Nat}(hu:P.underlying t=some (.slice e))(hs:sizeOfT P e=some size){a:LAddr}{n c:Nat}{k:IntKind}{i:Nat}(hi:i<=c):
  sliceL P t (.slice (some a) n (.exact c)) none (some (.int k i)) none=some (.slice (some a) i (.exact c)):=by
 unfold sliceL;simp only [hu,hs];unfold sliceExact;simp only [boundO,bound,Option.isNone_some,Option.isSome_none,Bool.and_false,Bool.false_eq_true,if_false];rw [if_pos (by rw [Nat.ble_eq];omega)];simp only [Nat.zero_mul,Nat.add_zero,Option.map_some,Nat.sub_zero,ite_self]
theorem slice_lo{P:Program}{t e:TypeId}{size:Nat}(hu:P.underlying t=some (.slice e))(hs:sizeOfT P e=some size)(hp:1<=size){a:LAddr}{n:Nat}{q:Cap}(hq:QOK a n size q){k:IntKind}{i:Nat}(hi:i<=n):
  ∃b q',sliceL P t (.slice (some a) n q) (some (.int k i)) none none=some (.slice (some b) (n-i) q')/\(b.id=a.id/\b.ver=a.ver/\b.off<=a.off+i*size)/\QOK b (n-i) size q'/\(i<n->b=⟨a.id,a.ver,a.off+i*size⟩):=by
 unfold sliceL;rcases hq with ⟨c,rfl,hc⟩ |⟨rfl,hf⟩
 ·simp only [hu,hs];unfold sliceExact;simp only [boundO,bound,Option.isNone_none,Option.isSome_none,Bool.and_false,Bool.false_eq_true,if_false];rw [if_pos (by rw [Nat.ble_eq];omega)];simp only;by_cases hci:c=i
  ·subst hci;simp only [Nat.beq_refl,if_true];exact ⟨a,_,rfl,⟨rfl,rfl,Nat.le_add_right _ _⟩,.inl ⟨_,rfl,by omega⟩,fun h=>by omega⟩
  ·rw [if_neg (by rw [Nat.beq_eq];exact hci)];exact ⟨_,_,rfl,⟨rfl,rfl,Nat.le_refl _⟩,.inl ⟨_,rfl,by omega⟩,fun _=>rfl⟩
 ·simp only [hu,hs,Nat.beq_refl,Bool.true_and];rw [if_pos (by rw [Nat.ble_eq];exact hp)];unfold sliceFree sliceFree2;simp only [boundO,bound];rw [if_pos (by rw [Nat.ble_eq];exact hi)];refine ⟨_,_,rfl,⟨rfl,rfl,Nat.le_refl _⟩,.inr ⟨rfl,?_⟩,fun _=>rfl⟩;simp only;have:n*size=i*size+(n-i)*size:=by rw [<-Nat.add_mul];congr 1;omega
  omega
theorem RowAt.wat{H:LHeap}{e:TypeId}{size:Nat}{a:Option LAddr}{n:Nat}{cs:List LV}(h:RowAt H e size a n (.free size) cs):∃ad,a=some ad/\ad.off=0/\ad.ver=n*size/\WAt H ad e [] cs []:=by
 cases h with
 |free r n m cs hi hg hm hl hc=>exact ⟨_,rfl,rfl,rfl,⟨⟨m,by simpa using hg,hm⟩,rfl,by simpa using hl,hi,by simpa using hc⟩⟩
end Go.Lm
