/- Regions, frames and runs: a run of this machine is a call of the model; no condition. -/
import Derived.Test.YtjihhflffkoffaaGreatDoorLc
import Derived.Orders
import Derived.Defers
import Derived.RangeFuncLeaves
set_option linter.unusedSimpArgs false
set_option linter.unusedVariables false
set_option linter.unusedSectionVars false
set_option linter.unnecessarySimpa false
/- Orders of a region's operations. -/
namespace Go.Lm
def befOne(acc:List (List Nat))(o:Oper):List Nat:=
 o.after.toList.foldl (fun s e=>if binds e then e.on::((nth acc e.on).getD []++s) else s) []
theorem mem_befOne{acc:List (List Nat)}{o:Oper}{x:Nat}:x∈befOne acc o↔∃e∈o.after.toList,binds e=true/\(x=e.on\/x∈(nth acc e.on).getD []):=by
 have key:∀(l:List Edge) (s:List Nat),x∈l.foldl (fun s e=>if binds e then e.on::((nth acc e.on).getD []++s) else s) s↔
   x∈s\/∃e∈l,binds e=true/\(x=e.on\/x∈(nth acc e.on).getD []):=by
  intro l;induction l with
  |nil=>simp
  |cons e l ih=>
   intro s;rw [List.foldl_cons,ih];by_cases hb:binds e=true
   ·simp only [hb,if_true,List.mem_cons,List.mem_append];constructor
    ·rintro ((h |h |h) |⟨e',h1,h2⟩)
     ·exact .inr ⟨e,.inl rfl,hb,.inl h⟩
     ·exact .inr ⟨e,.inl rfl,hb,.inr h⟩
     ·exact .inl h
     ·exact .inr ⟨e',.inr h1,h2⟩
    ·rintro (h |⟨e',h1 |h1,h2,h3⟩)
     ·exact .inl (.inr (.inr h))
     ·subst h1;rcases h3 with h3 |h3
      ·exact .inl (.inl h3)
      ·exact .inl (.inr (.inl h3))
     ·exact .inr ⟨e',h1,h2,h3⟩
   ·simp only [hb,Bool.false_eq_true,if_false,List.mem_cons];constructor
    ·rintro (h |⟨e',h1,h2⟩)
     ·exact .inl h
     ·exact .inr ⟨e',.inr h1,h2⟩
    ·rintro (h |⟨e',h1 |h1,h2⟩)
     ·exact .inl h
     ·subst h1;exact absurd h2.1 hb
     ·exact .inr ⟨e',h1,h2⟩
 simpa [befOne] using key o.after.toList []
theorem befs_cons(o:Oper)(l:List Oper)(acc:List (List Nat)):befs (o::l) acc=befs l (acc++[befOne acc o]):=rfl
theorem befs_prefix:∀(l:List Oper) (acc:List (List Nat)),∃r,befs l acc=acc++r/\r.length=l.length
 |[],acc=>⟨[],by simp [befs],rfl⟩
 |o::l,acc=>by
  obtain ⟨r,h1,h2⟩:=befs_prefix l (acc++[befOne acc o]);exact ⟨befOne acc o::r,by rw [befs_cons,h1];simp,by simp [h2]⟩
theorem befs_get:∀(l:List Oper) (acc:List (List Nat)) (i:Nat) (o:Oper),l[i]? =some o->(befs l acc)[acc.length+i]? =some (befOne ((befs l acc).take (acc.length+i)) o)
 |[],_,_,_,h=>by simp at h
 |p::l,acc,0,o,h=>by
  simp at h;subst h;obtain ⟨r,h1,_⟩:=befs_prefix l (acc++[befOne acc p]);rw [befs_cons,h1];simp
 |p::l,acc,i+1,o,h=>by
  have:=befs_get l (acc++[befOne acc p]) i o (by simpa using h);rw [befs_cons];have e:(acc++[befOne acc p]).length+i=acc.length+(i+1):=by simp;omega
  rw [e] at this;exact this
def bf(ops:Array Oper):List (List Nat):=befs ops.toList []
theorem bf_len(ops:Array Oper):(bf ops).length=ops.size:=by
 obtain ⟨r,h1,h2⟩:=befs_prefix ops.toList [];rw [bf,h1];simpa using h2
theorem mem_bef{ops:Array Oper}{i:Nat}{o:Oper}(ho:ops[i]? =some o){x:Nat}:
  x∈befOf (bf ops) i↔∃e∈o.after.toList,binds e=true/\(x=e.on\/(e.on<i/\x∈befOf (bf ops) e.on)):=by
 have h:=befs_get ops.toList [] i o (by simpa using ho);simp only [List.length_nil,Nat.zero_add] at h;have e1:befOf (bf ops) i=befOne ((bf ops).take i) o:=by
  unfold befOf bf;rw [nth_eq,h];rfl
 rw [e1,mem_befOne];constructor
 ·rintro ⟨e,h1,h2,h3 |h3⟩
  ·exact ⟨e,h1,h2,.inl h3⟩
  ·rw [nth_eq,List.getElem?_take] at h3;split at h3
   ·rename_i hlt;refine ⟨e,h1,h2,.inr ⟨hlt,?_⟩⟩;unfold befOf;rw [nth_eq];exact h3
   ·simp at h3
 ·rintro ⟨e,h1,h2,h3 |⟨hlt,h3⟩⟩
  ·exact ⟨e,h1,h2,.inl h3⟩
  ·refine ⟨e,h1,h2,.inr ?_⟩;rw [nth_eq,List.getElem?_take,if_pos hlt,<-nth_eq];exact h3
theorem bef_none{ops:Array Oper}{i:Nat}(ho:ops[i]? =none):befOf (bf ops) i=[]:=by
 have:ops.size<=i:=by simpa using ho
 unfold befOf;rw [nth_eq,List.getElem?_eq_none (by rw [bf_len];exact this)];rfl
def Closed(ops:Array Oper)(S:Nat->Prop):Prop:=∀i o,S i->ops[i]? =some o->∀e∈o.after.toList,binds e=true->S e.on
theorem Closed.bef{ops:Array Oper}{S:Nat->Prop}(h:Closed ops S):∀i,S i->∀x∈befOf (bf ops) i,S x:=by
 intro i;induction i using Nat.strongRecOn with
 |_ i ih=>
  intro hi x hx;cases ho:ops[i]? with
  |none=>rw [bef_none ho] at hx;cases hx
  |some o=>
   obtain ⟨e,h1,h2,h3⟩:=(mem_bef ho).1 hx;have he:=h i o hi ho e h1 h2;rcases h3 with rfl |⟨hlt,h3⟩
   ·exact he
   ·exact ih e.on hlt he x h3
theorem zipIdx_all{α:Type}{p:α×Nat->Bool}{l:List α}:l.zipIdx.all p=true↔∀i a,l[i]? =some a->p (a,i)=true:=by
 rw [List.all_eq_true];constructor
 ·intro h i a ha;exact h (a,i) (List.mem_zipIdx_iff_getElem?.2 ha)
 ·rintro h ⟨a,i⟩ hm;exact h i a (List.mem_zipIdx_iff_getElem?.1 hm)
structure DrawOk (P:Program) (ops:Array Oper):Prop where
 back:∀(i:Nat) (o:Oper),ops[i]? =some o->∀e∈o.after.toList,binds e=true->e.on<i
 wr:∀(i:Nat) (o:Oper) (d:Tmp),ops[i]? =some o->o.dst=some d->writer ops.toList 0 d=some i
 guard:∀(i:Nat) (o:Oper) (g:Nat) (w:Bool),ops[i]? =some o->o.guard=some (g,w)->g∈befOf (bf ops) i
 eff:∀(i j:Nat) (o p:Oper),ops[i]? =some o->ops[j]? =some p->isE P o.op=true->isE P p.op=true->j<i->j∈befOf (bf ops) i
theorem drawOk_spec{P:Program}{ops:Array Oper}(h:drawOk P ops=true):DrawOk P ops:=by
 unfold drawOk at h;simp only at h;rw [zipIdx_all] at h;have h':∀(i:Nat) (o:Oper),ops[i]? =some o->opOk P ops (bf ops) i o=true:=fun i o ho=>h i o (by simpa using ho);refine ⟨fun i o ho e he hb=> ?_,fun i o d ho hd=> ?_,fun i o g w ho hg=> ?_,fun i j o p ho hp hE hF hlt=> ?_⟩
 ·have:=h' i o ho;simp only [opOk,Bool.and_eq_true,List.all_eq_true] at this;have:=this.1.1.1.1 e he;simp only [hb,Bool.not_true,Bool.false_or,Nat.ble_eq] at this;omega
 ·have:=h' i o ho;simp only [opOk,Bool.and_eq_true,hd] at this;exact eq_of_beq this.1.1.1.2
 ·have:=h' i o ho;simp only [opOk,Bool.and_eq_true,hg] at this;exact (memN_iff _ _).1 this.1.2
 ·have:=h' i o ho;simp only [opOk,Bool.and_eq_true] at this;have:=this.2;simp only [hE,Bool.not_true,Bool.false_or] at this;rw [zipIdx_all] at this;have:=this j p (by simpa using hp);simp only [hF,Bool.not_true,Bool.false_or,Bool.or_eq_true,Nat.ble_eq] at this;rcases this with h |h
  ·omega
  ·exact (memN_iff _ _).1 h
theorem writer_some{d:Tmp}:∀{l:List Oper} {k i:Nat},writer l k d=some i->k<=i/\∃o,l[i-k]? =some o/\o.dst=some d
 |[],_,_,h=>by simp [writer] at h
 |o::l,k,i,h=>by
  have step:writer l (k+1) d=some i->k<=i/\∃p,(o::l)[i-k]? =some p/\p.dst=some d:=by
   intro h;obtain ⟨h1,p,h2,h3⟩:=writer_some h;refine ⟨by omega,p,?_,h3⟩;have e:i-k=(i-(k+1))+1:=by omega
   rw [e];simpa using h2
  unfold writer at h;split at h
  ·rename_i d' hd;split at h
   ·rename_i hb;have:=Nat.eq_of_beq_eq_true hb;subst this;simp at h;subst h;exact ⟨Nat.le_refl _,o,by simp,hd⟩
   ·exact step h
  ·exact step h
theorem pickNext_some{P:Program}{ops:Array Oper}{done:List Nat}:∀{l:List Nat} {j:Nat},pickNext P ops done l=some j->j∈l/\∃o,ops[j]? =some o/\isE P o.op=false/\depsIn o done=true
 |[],_,h=>by simp [pickNext] at h
 |i::l,j,h=>by
  unfold pickNext at h;split at h
  ·rename_i o ho;split at h
   ·rename_i hc;simp only [Bool.and_eq_true,Bool.not_eq_true'] at hc;cases h;exact ⟨List.mem_cons_self,o,ho,hc⟩
   ·obtain ⟨h1,h2⟩:=pickNext_some h;exact ⟨List.mem_cons_of_mem _ h1,h2⟩
  ·cases h
theorem pickNext_none{P:Program}{ops:Array Oper}{done:List Nat}:∀{l:List Nat},(∀j∈l,j<ops.size)->pickNext P ops done l=none->∀j∈l,∀o,ops[j]? =some o->isE P o.op=false->depsIn o done=false
 |[],_,_,j,hj,_,_,_=>by cases hj
 |i::l,hb,h,j,hj,o,ho,hE=>by
  unfold pickNext at h;split at h
  ·rename_i p hp;split at h
   ·cases h
   ·rename_i hc;rcases List.mem_cons.1 hj with rfl |hj
    ·rw [hp] at ho;cases ho;simpa [hE] using hc
    ·exact pickNext_none (fun q hq=>hb q (List.mem_cons_of_mem _ hq)) h j hj o ho hE
  ·rename_i hn;have:=hb i List.mem_cons_self;simp at hn;omega
theorem depsIn_iff{o:Oper}{done:List Nat}:depsIn o done=true↔∀e∈o.after.toList,binds e=true->e.on∈done:=by
 unfold depsIn;rw [List.all_eq_true];constructor
 ·intro h e he hb;have:=h e he;simp only [hb,Bool.not_true,Bool.false_or] at this;exact (memN_iff _ _).1 this
 ·intro h e he;by_cases hb:binds e=true
  ·simp only [hb,Bool.not_true,Bool.false_or];exact (memN_iff _ _).2 (h e he hb)
  ·simp [hb]
inductive Sched (ops:Array Oper):List Nat->List Nat->Prop
 |nil {D:List Nat} (all:∀i,i<ops.size->i∈D):Sched ops D []
 |cons {D:List Nat} {i:Nat} {L:List Nat} {o:Oper} (ho:ops[i]? =some o) (hn:i∉D) (hd:∀e∈o.after.toList,binds e=true->e.on∈D) (h:Sched ops (i::D) L):Sched ops D (i::L)
theorem Sched.mem{ops:Array Oper}:∀{D L:List Nat},Sched ops D L->∀i,i<ops.size->i∈D\/i∈L
 |_,_,.nil all,i,hi=>.inl (all i hi)
 |_,_,.cons (i:=j) _ _ _ h,i,hi=>by
  rcases h.mem i hi with h1 |h1
  ·rcases List.mem_cons.1 h1 with rfl |h1
   ·exact .inr List.mem_cons_self
   ·exact .inl h1
  ·exact .inr (List.mem_cons_of_mem _ h1)
theorem binds_any(e:Edge):Region.binds .any e=binds e:=by
 unfold Region.binds binds;cases e.ground<;>rfl
theorem count_set_lt:∀{l:List Bool} {i:Nat},l[i]? =some false->(l.set i true).count false+1=l.count false
 |[],i,h=>by simp at h
 |b::l,0,h=>by
  simp at h;subst h;simp
 |b::l,i+1,h=>by
  have:=count_set_lt (l:=l) (i:=i) (by simpa using h);simp only [List.set_cons_succ,List.count_cons];omega
theorem sched_go{ops:Array Oper}(hb:∀(i:Nat) (o:Oper),ops[i]? =some o->∀e∈o.after.toList,binds e=true->e.on<i):
  ∀(fuel t:Nat) (listed:Array Bool) (D:List Nat),listed.size=ops.size->(∀j,j<ops.size->(listed[j]? =some true↔j∈D))->listed.toList.count false<=fuel->Sched ops D (Region.linearise.go .any ops fuel t listed []):=by
 intro fuel;induction fuel with
 |zero=>
  intro t listed D hs hD hc;refine .nil fun i hi=> ?_;have h0:false∉listed.toList:=List.count_eq_zero.1 (by omega);rw [<-hD i hi];have hl:i<listed.size:=by omega
  rw [Array.getElem?_eq_getElem hl];cases h:listed[i] with
  |true=>rfl
  |false=>exact absurd (by rw [<-h];exact Array.mem_toList_iff.2 (Array.getElem_mem hl)) h0
 |succ fuel ih=>
  intro t listed D hs hD hc;simp only [Region.linearise.go];change Sched ops D (match (Region.ready .any ops listed)[t%(Region.ready .any ops listed).length]? with
   |some i=>Region.linearise.go .any ops fuel (t / (Region.ready .any ops listed).length) (listed.setIfInBounds i true) [i]
   |none=>[].reverse)
  cases hi:(Region.ready .any ops listed)[t%(Region.ready .any ops listed).length]? with
  |none=>
   have hnil:Region.ready .any ops listed=[]:=by
    cases hr:Region.ready .any ops listed with
    |nil=>rfl
    |cons x xs=>
     rw [hr] at hi;have hlt:t%(x::xs).length<(x::xs).length:=Nat.mod_lt _ (by simp);simp at hi;simp at hlt;omega
   simp only [List.reverse_nil];refine .nil fun i=> ?_;induction i using Nat.strongRecOn with
   |_ i ih'=>
    intro hi';apply Classical.byContradiction;intro hn;have hl:i<listed.size:=by omega
    have hf:listed[i]=false:=by
     cases h:listed[i] with
     |false=>rfl
     |true=>exact absurd ((hD i hi').1 (by rw [Array.getElem?_eq_getElem hl,h])) hn
    have:i∈Region.ready .any ops listed:=by
     rw [mem_ready];refine ⟨by simp [Array.getElem?_eq_getElem hl,hf],ops[i],Array.getElem?_eq_getElem hi',fun e he hbe=> ?_⟩;rw [binds_any] at hbe;have hlt:=hb i ops[i] (Array.getElem?_eq_getElem hi') e (Array.mem_toList_iff.2 he) hbe;have hm:=(hD e.on (by omega)).2 (ih' e.on hlt (by omega));simp [hm]
    rw [hnil] at this;cases this
  |some i=>
   simp only [];have hr:=mem_ready.1 (List.mem_of_getElem? hi);obtain ⟨h0,o,ho,hall⟩:=hr;have hi':i<ops.size:=(Array.getElem?_eq_some_iff.1 ho).1;have hl:i<listed.size:=by omega
   have hf:listed[i]? =some false:=by
    rw [Array.getElem?_eq_getElem hl];simpa [Array.getElem?_eq_getElem hl] using h0
   rw [linearise_go_acc,List.reverse_singleton,List.singleton_append];refine .cons ho (fun hm=> ?_) (fun e he hbe=> ?_) (ih _ _ (i::D) (by simpa using hs) (fun j hj=> ?_) ?_)
   ·have:=(hD i hi').2 hm;rw [hf] at this;cases this
   ·have hlt:=hb i o ho e he hbe;have:=hall e (Array.mem_toList_iff.1 he) (by rw [binds_any];exact hbe);refine (hD e.on (by omega)).1 ?_;have hel:e.on<listed.size:=by omega
    rw [Array.getElem?_eq_getElem hel];simpa [Array.getElem?_eq_getElem hel] using this
   ·by_cases hji:i=j
    ·subst hji;simp [Array.getElem?_setIfInBounds,hl]
    ·rw [Array.getElem?_setIfInBounds_ne hji,hD j hj,List.mem_cons];exact ⟨.inr,fun h=>h.resolve_left (fun e=>hji e.symm)⟩
   ·have:=count_set_lt (l:=listed.toList) (i:=i) (by simpa using hf);rw [Array.toList_setIfInBounds];omega
theorem sched_all{ops:Array Oper}(hb:∀(i:Nat) (o:Oper),ops[i]? =some o->∀e∈o.after.toList,binds e=true->e.on<i)(t:Nat):Sched ops [] (Region.linearise .any ops t):=by
 unfold Region.linearise;refine sched_go hb _ _ _ [] (by simp) (fun j hj=>by simp [hj]) ?_;have:=List.count_le_length (a:=false) (l:=(Array.replicate ops.size false).toList);simpa using this
end Go.Lm

/- Both machines side by side: frames, stacks, and how they go on. -/
namespace Go.Lm
open Go.RowKit (Below)
inductive ItemRel (ι:Gh):LItem->Item->Prop
 |code (c:Code):ItemRel ι (.code c) (.code c)
 |inBlock (i:Nat):ItemRel ι (.inBlock i) (.inBlock i)
 |inLoop (c:Code):ItemRel ι (.inLoop c) (.inLoop c)
 |inScope (c:Code):ItemRel ι (.inScope c) (.inScope c)
 |inRegion (ops:Array Oper) (l:List Nat):ItemRel ι (.inRegion ops l) (.inRegion ops l)
 |inRangeFunc {i:Nat} {l:Loc} (h:ι i 0=some l):ItemRel ι (.inRangeFunc i) (.inRangeFunc l.blk)
 |endRangeFunc {i:Nat} {l:Loc} (h:ι i 0=some l):ItemRel ι (.endRangeFunc i) (.endRangeFunc l.blk)
 |beginRound:ItemRel ι .beginRound .beginRound
theorem ItemRel.mono{ι κ:Gh}(h:ι.le κ){a:LItem}{b:Item}:ItemRel ι a b->ItemRel κ a b
 | .code c=>.code c
 | .inBlock i=>.inBlock i
 | .inLoop c=>.inLoop c
 | .inScope c=>.inScope c
 | .inRegion o l=>.inRegion o l
 | .inRangeFunc e=>.inRangeFunc (h _ _ _ e)
 | .endRangeFunc e=>.endRangeFunc (h _ _ _ e)
 | .beginRound=>.beginRound
structure Waits (C:Cfg) (ι:Gh) (H:LHeap) (o:Oper) (ρ:Operand->LV) (v:LV) (id:Nat):Prop where
 lt:id<H.next
 fresh:∀u,ι id u=none
 made:∃H0 H1,H0.next=id/\opL C ρ H0 o=some [(.value v,H1)]/\H.get id=H1.get id
structure Beside (us:List (Nat×Nat)) (ι:Gh) (H:LHeap) (κ:Gh) (K:LHeap):Prop where
 le:ι.le κ
 next:H.next<=K.next
 keep:∀p∈us,(∀u,ι p.2 u=none)->p.2<H.next->K.get p.2=H.get p.2/\∀u,κ p.2 u=none
theorem Beside.refl(us:List (Nat×Nat))(ι:Gh)(H:LHeap):Beside us ι H ι H:=⟨.refl _,Nat.le_refl _,fun _ _ h _=>⟨rfl,h⟩⟩
theorem Beside.of_on{us:List (Nat×Nat)}{ι κ:Gh}{H K:LHeap}{W X:World}{n0:Nat}(h:On ι H W κ K X n0):Beside us ι H κ K:=
 ⟨h.le,h.next,fun p _ hf hl=>⟨h.keep p.2 hf hl,fun u=>by
  cases e:κ p.2 u with
  |none=>rfl
  |some l=>
   rcases h.fresh _ _ _ e with ⟨u',l',e'⟩ |e'
   ·rw [hf u'] at e';cases e'
   ·omega⟩⟩
theorem Waits.mono{C:Cfg}{us:List (Nat×Nat)}{ι κ:Gh}{H K:LHeap}(h:Beside us ι H κ K){o:Oper}{ρ:Operand->LV}{v:LV}{i id:Nat}(hm:(i,id)∈us)(w:Waits C ι H o ρ v id):Waits C κ K o ρ v id:=by
 obtain ⟨hk,hf⟩:=h.keep _ hm w.fresh w.lt;obtain ⟨H0,H1,h1,h2,h3⟩:=w.made;exact ⟨Nat.lt_of_lt_of_le w.lt h.next,hf,H0,H1,h1,h2,hk.trans h3⟩
structure Draw (C:Cfg) (ι:Gh) (H:LHeap) (us:List (Nat×Nat)) (ops:Array Oper) (tm0 tmps:List LV) (done pend D L:List Nat) (ct:List Value):Prop where
 ok:DrawOk C.P ops
 sched:Sched ops D L
 cover:∀i,i<ops.size->i∈done\/i∈pend
 bound:∀i∈pend,i<ops.size
 apart:∀i∈done,i∉pend
 nodup:pend.Nodup
 sub:∀i∈D,i∈done
 cl:Closed ops (·∈done)
 cD:Closed ops (·∈D)
 eff:∀i∈done,∀o,ops[i]? =some o->isE C.P o.op=true->i∈D
 len0:tm0.length=ct.length
 len:tmps.length=ct.length
 same:∀t,(∀j,writer ops.toList 0 t=some j->j∉done)->tmps[t]? =tm0[t]?
 old:∀t x v,(∀j,writer ops.toList 0 t=some j->j∉D)->tm0[t]? =some x->ct[t]? =some v->VRel ι x v
 new:∀t j y v,writer ops.toList 0 t=some j->j∈D->tmps[t]? =some y->ct[t]? =some v->VRel ι y v
 waits:∀i∈done,i∉D->∀o,ops[i]? =some o->isA o.op=true->wantedL ops tmps o=some true->
  ∃id v,(i,id)∈us/\(∀d,o.dst=some d->d<tmps.length->tmps[d]? =some v)/\Waits C ι H o (viewL C ops (bf ops) i tm0 tmps) v id
 vals:∀i∈done,i∉D->∀o,ops[i]? =some o->isE C.P o.op=false->∃b,wantedL ops tmps o=some b/\(b=false->∀d,o.dst=some d->d<tmps.length->tmps[d]? =some .undef)/\
  (b=true->isA o.op=false->readsH o.op=false->∃v H0,opL C (viewL C ops (bf ops) i tm0 tmps) H0 o=some [(.value v,H0)]/\∀d,o.dst=some d->d<tmps.length->tmps[d]? =some v)
 ids:(us.map (·.2)).Nodup
theorem Draw.mono{C:Cfg}{ι κ:Gh}{H K:LHeap}{us:List (Nat×Nat)}{ops:Array Oper}{tm0 tmps:List LV}{done pend D L:List Nat}{ct:List Value}(h:Beside us ι H κ K)
  (d:Draw C ι H us ops tm0 tmps done pend D L ct):Draw C κ K us ops tm0 tmps done pend D L ct:=
 { d with
   old:=fun t x v h1 h2 h3=>(d.old t x v h1 h2 h3).mono h.le
   new:=fun t j y v h1 h2 h3 h4=>(d.new t j y v h1 h2 h3 h4).mono h.le
   waits:=fun i h1 h2 o h3 h4 h5=>by
    obtain ⟨id,v,w1,w2,w3⟩:=d.waits i h1 h2 o h3 h4 h5;exact ⟨id,v,w1,w2,w3.mono h w1⟩ }
inductive Todo (C:Cfg) (ι:Gh) (H:LHeap):List (Nat×Nat)->Bool->List LV->List LItem->List Value->List Item->Prop
 |plain {top:Bool} {tmps:List LV} {ct:List Value} {k:List LItem} {k':List Item} (ht:VRels ι tmps ct) (hk:Rels (ItemRel ι) k k'):Todo C ι H [] top tmps k ct k'
 |drawn {us:List (Nat×Nat)} {top st:Bool} {ops:Array Oper} {tm0 tmps:List LV} {done pend D L:List Nat} {ct:List Value} {k:List LItem} {k':List Item} (hd:Draw C ι H us ops tm0 tmps done pend D L ct)
  (hk:Rels (ItemRel ι) k k') (hc:top=true->st=false->checkOk C H ops (bf ops) tm0 tmps done=true) (hp:top=false->∃e r r',pend=e::r/\L=e::r'/\e∉D/\st=true):
  Todo C ι H us top tmps (.drawn ops (bf ops) tm0 done pend st::k) ct (.inRegion ops L::k')
theorem Todo.mono{C:Cfg}{ι κ:Gh}{H K:LHeap}{us:List (Nat×Nat)}{tmps:List LV}{k:List LItem}{ct:List Value}{k':List Item}(h:Beside us ι H κ K)(t:Todo C ι H us false tmps k ct k'):Todo C κ K us false tmps k ct k':=by
 cases t with
 |plain ht hk=>exact .plain (ht.mono h.le) (hk.mono fun _ _=>ItemRel.mono h.le)
 |drawn hd hk hc hp=>exact .drawn (hd.mono h) (hk.mono fun _ _=>ItemRel.mono h.le) (fun e=>by cases e) hp
inductive ChainRel (ι:Gh):List LEntryP->List PanicEntry->Prop
 |nil:ChainRel ι [] []
 |cons {v:LV} {u:Value} {r:Bool} {l:List LEntryP} {m:List PanicEntry} (h:VRel ι v u) (t:ChainRel ι l m):ChainRel ι (⟨v,r⟩::l) (⟨u,r,false⟩::m)
theorem ChainRel.mono{ι κ:Gh}(h:ι.le κ):∀{l:List LEntryP} {m:List PanicEntry},ChainRel ι l m->ChainRel κ l m
 |_,_,.nil=>.nil
 |_,_,.cons e t=>.cons (e.mono h) (t.mono h)
theorem ChainRel.append{ι:Gh}{l l':List LEntryP}{m m':List PanicEntry}(h:ChainRel ι l m)(h':ChainRel ι l' m'):ChainRel ι (l++l') (m++m'):=
 match h with
 | .nil=>h'
 | .cons e t=>.cons e (ChainRel.append t h')
inductive ModeRel (C:Cfg) (ι:Gh) (H:LHeap) (us:List (Nat×Nat)) (top:Bool) (f:LFrame) (g:Frame):Prop
 |run (h1:f.mode=.run) (h2:g.mode=.run) (h:Todo C ι H us top f.tmps f.todo g.tmps.toList g.todo)
 |returning (h1:f.mode=.returning) (h2:g.mode=.returning) (h:VRels ι f.tmps g.tmps.toList) (hu:us=[])
 |panicking {ch:List LEntryP} {ch':List PanicEntry} (h1:f.mode=.panicking ch) (h2:g.mode=.panicking ch') (hc:ChainRel ι ch ch') (h:VRels ι f.tmps g.tmps.toList) (hu:us=[])
structure FRel (C:Cfg) (ι:Gh) (H:LHeap) (us:List (Nat×Nat)) (top:Bool) (f:LFrame) (g:Frame):Prop where
 fn:g.fn=f.fn
 func:f.roundOf=none->∃fn,C.P.funcs[f.fn]? =some fn
 defers:Rels (DefRel ι) f.defers g.defers
 kind:g.kind=if f.deferred then .deferred else .normal
 round:match f.roundOf with
  |none=>g.roundOf=none
  |some l=>∃lo,ι l 0=some lo/\g.roundOf=some lo.blk
 mode:ModeRel C ι H us top f g
theorem FRel.mono{C:Cfg}{ι κ:Gh}{H K:LHeap}{us:List (Nat×Nat)}{f:LFrame}{g:Frame}(h:Beside us ι H κ K)(r:FRel C ι H us false f g):FRel C κ K us false f g:=
 ⟨r.fn,r.func,r.defers.mono fun _ _=>DefRel.mono h.le,r.kind,by
  have:=r.round;split<;>simp_all;obtain ⟨lo,h1,h2⟩:=this;exact ⟨lo,h.le _ _ _ h1,h2⟩,by
  cases r.mode with
  |run h1 h2 t=>exact .run h1 h2 (t.mono h)
  |returning h1 h2 t hu=>exact .returning h1 h2 (t.mono h.le) hu
  |panicking h1 h2 hc t hu=>exact .panicking h1 h2 (hc.mono h.le) (t.mono h.le) hu⟩
inductive Stack (C:Cfg) (ι:Gh) (H:LHeap):List (Nat×Nat)->List LFrame->List Frame->Prop
 |nil:Stack C ι H [] [] []
 |cons {us vs:List (Nat×Nat)} {f:LFrame} {g:Frame} {fs:List LFrame} {gs:List Frame} (h:FRel C ι H us false f g) (t:Stack C ι H vs fs gs):Stack C ι H (us++vs) (f::fs) (g::gs)
theorem Beside.left{us vs:List (Nat×Nat)}{ι κ:Gh}{H K:LHeap}(h:Beside (us++vs) ι H κ K):Beside us ι H κ K:=⟨h.le,h.next,fun p hp=>h.keep p (List.mem_append_left _ hp)⟩
theorem Beside.right{us vs:List (Nat×Nat)}{ι κ:Gh}{H K:LHeap}(h:Beside (us++vs) ι H κ K):Beside vs ι H κ K:=⟨h.le,h.next,fun p hp=>h.keep p (List.mem_append_right _ hp)⟩
theorem Stack.mono{C:Cfg}{ι κ:Gh}{H K:LHeap}:∀{us:List (Nat×Nat)} {fs:List LFrame} {gs:List Frame},Beside us ι H κ K->Stack C ι H us fs gs->Stack C κ K us fs gs
 |_,_,_,_,.nil=>.nil
 |_,_,_,h,.cons e t=>.cons (e.mono h.left) (Stack.mono h.right t)
def GlobOK(C:Cfg)(ι:Gh):Prop:=∀g,VRel ι (C.glob g) (.pointer (some ⟨g,0,none⟩))
theorem GlobOK.mono{C:Cfg}{ι κ:Gh}(h:ι.le κ)(r:GlobOK C ι):GlobOK C κ:=fun g=>(r g).mono h
structure MSim (C:Cfg) (n0:Nat) (tail:List Frame) (ι:Gh) (s:LState) (g:Frame) (cs:List Frame) (W:World):Prop where
 heap:HRel ι s.H W n0
 glob:GlobOK C ι
 all:∃us vs gs,cs=gs++tail/\FRel C ι s.H us true s.fr g/\Stack C ι s.H vs s.cs gs/\((us++vs).map (·.2)).Nodup/\∀p∈us++vs,p.2<s.H.next/\∀u,ι p.2 u=none
end Go.Lm

/- A region whose order is open: one operation more, of this machine, of the model, of both. -/
namespace Go.Lm
open Go.RowKit (Below)
def putG{α:Type}(ops:Array Oper)(i:Nat)(l:List α)(v:α):List α:=
 match (ops[i]?).bind (·.dst) with
 |some d=>l.set d v
 |none=>l
theorem putT_eq(ops:Array Oper)(i:Nat)(l:List LV)(v:LV):putT ops i l v=putG ops i l v:=by
 unfold putT putG;cases ho:ops[i]? with
 |none=>rfl
 |some o=>
  cases hd:o.dst with
  |none=>simp [hd]
  |some d=>simp [hd,setNth_eq]
theorem putG_len{α:Type}(ops:Array Oper)(i:Nat)(l:List α)(v:α):(putG ops i l v).length=l.length:=by
 unfold putG;split<;>simp
theorem putG_get{P:Program}{α:Type}{ops:Array Oper}(ok:DrawOk P ops){i:Nat}{o:Oper}(ho:ops[i]? =some o)(l:List α)(v:α)(t:Nat):
  (putG ops i l v)[t]? =if writer ops.toList 0 t=some i then (if t<l.length then some v else none) else l[t]? :=by
 unfold putG;rw [ho];simp only [Option.bind_some];cases hd:o.dst with
 |none=>
  simp only;split
  ·rename_i hw;obtain ⟨_,p,h1,h2⟩:=writer_some hw;simp only [Nat.sub_zero,Array.getElem?_toList] at h1;rw [ho] at h1;cases h1;rw [hd] at h2;cases h2
  ·rfl
 |some d=>
  have hw:=ok.wr i o d ho hd;simp only [List.getElem?_set];by_cases htd:d=t
  ·subst htd;simp [hw]
  ·rw [if_neg htd];split
   ·rename_i hw';obtain ⟨_,p,h1,h2⟩:=writer_some hw';simp only [Nat.sub_zero,Array.getElem?_toList] at h1;rw [ho] at h1;cases h1;rw [hd] at h2;cases h2;exact absurd rfl htd
   ·rfl
theorem writer_dst{ops:Array Oper}{t i:Nat}(h:writer ops.toList 0 t=some i):∃o,ops[i]? =some o/\o.dst=some t:=by
 obtain ⟨_,p,h1,h2⟩:=writer_some h;exact ⟨p,by simpa using h1,h2⟩
section
variable {C:Cfg} {ι:Gh} {H:LHeap} {us:List (Nat×Nat)} {ops:Array Oper} {tm0 tmps:List LV} {done pend D L:List Nat} {ct:List Value}
theorem view_put(ok:DrawOk C.P ops){S:Nat->Prop}(cl:Closed ops S){i:Nat}(hi:S i){j:Nat}(hj:¬S j){o:Oper}(ho:ops[j]? =some o)(v:LV):
  viewL C ops (bf ops) i tm0 (putG ops j tmps v)=viewL C ops (bf ops) i tm0 tmps:=by
 funext x;cases x with
 |tmp t=>
  have ev:writer ops.toList 0 t≠some j->evalL C (putG ops j tmps v) (.tmp t)=evalL C tmps (.tmp t):=by
   intro hne;simp only [evalL,nth_eq,putG_get ok ho,if_neg hne]
  simp only [viewL];cases hw:writer ops.toList 0 t with
  |none=>simp only;exact ev (by rw [hw];simp)
  |some k=>
   simp only;split
   ·rename_i hm;have hk:S k:=cl.bef i hi k ((memN_iff _ _).1 hm);exact ev (by rw [hw];intro e;cases e;exact hj hk)
   ·rfl
 |_=>rfl
theorem wanted_get{o:Oper}{l m:List LV}(h:∀g w p d,o.guard=some (g,w)->ops[g]? =some p->p.dst=some d->m[d]? =l[d]?):wantedL ops m o=wantedL ops l o:=by
 unfold wantedL;cases hg:o.guard with
 |none=>rfl
 |some gw=>
  obtain ⟨g,w⟩:=gw;simp only;have:yieldedL ops m g=yieldedL ops l g:=by
   unfold yieldedL;cases hp:ops[g]? with
   |none=>rfl
   |some p=>
    simp only;cases hd:p.dst with
    |none=>rfl
    |some d=>simp only [nth_eq,h g w p d hg hp hd]
  rw [this]
theorem wanted_put(ok:DrawOk C.P ops){S:Nat->Prop}(cl:Closed ops S){i:Nat}(hi:S i){p:Oper}(hp:ops[i]? =some p){j:Nat}(hj:¬S j){o:Oper}(ho:ops[j]? =some o)(v:LV):
  wantedL ops (putG ops j tmps v) p=wantedL ops tmps p:=by
 apply wanted_get;intro g w q d hg hq hd;rw [putG_get ok ho,if_neg];intro hw;rw [ok.wr g q d hq hd] at hw;cases hw;exact hj (cl.bef i hi j (ok.guard i p j w hp hg))
theorem Draw.lm(d:Draw C ι H us ops tm0 tmps done pend D L ct){i:Nat}(hi:i∈pend){pend':List Nat}(hp:∀j,j∈pend↔j=i\/j∈pend')(hn:i∉pend')(hnd:pend'.Nodup){o:Oper}(ho:ops[i]? =some o)(hE:isE C.P o.op=false)
  (hdep:depsIn o done=true) (v:LV) {K:LHeap} {vs:List (Nat×Nat)} (hb:Beside us ι H ι K) (hids:((us++vs).map (·.2)).Nodup)
  (hw:isA o.op=true->wantedL ops tmps o=some true->∃id,(i,id)∈vs/\Waits C ι K o (viewL C ops (bf ops) i tm0 tmps) v id)
  (hval:∃b,wantedL ops tmps o=some b/\(b=false->v=.undef)/\(b=true->isA o.op=false->readsH o.op=false->∃H0,opL C (viewL C ops (bf ops) i tm0 tmps) H0 o=some [(.value v,H0)])):
  Draw C ι K (us++vs) ops tm0 (putG ops i tmps v) (i::done) pend' D L ct:=by
 have hid:i∉done:=fun h=>d.apart i h hi;have hiD:i∉D:=fun h=>hid (d.sub i h);have hcl:Closed ops (·∈i::done):=by
  intro j p hj hjp e he hbd;rcases List.mem_cons.1 hj with rfl |hj
  ·rw [ho] at hjp;cases hjp;exact List.mem_cons_of_mem _ (depsIn_iff.1 hdep e he hbd)
  ·exact List.mem_cons_of_mem _ (d.cl j p hj hjp e he hbd)
 have hnew:wantedL ops (putG ops i tmps v) o=wantedL ops tmps o:=by
  refine wanted_get fun g w q dd hg hq hd=> ?_;rw [putG_get d.ok ho,if_neg];intro hw';rw [d.ok.wr g q dd hq hd] at hw';cases hw';obtain ⟨e,he,hbe,h3⟩:=(mem_bef ho).1 (d.ok.guard _ o _ w ho hg);have hlt:=d.ok.back _ o ho e he hbe;rcases h3 with h3 |⟨_,h3⟩
  ·omega
  ·exact hid (d.cl.bef e.on (depsIn_iff.1 hdep e he hbe) _ h3)
 have hvnew:viewL C ops (bf ops) i tm0 (putG ops i tmps v)=viewL C ops (bf ops) i tm0 tmps:=by
  funext x;cases x with
  |tmp t=>
   have ev:writer ops.toList 0 t≠some i->evalL C (putG ops i tmps v) (.tmp t)=evalL C tmps (.tmp t):=by
    intro hne;simp only [evalL,nth_eq,putG_get d.ok ho,if_neg hne]
   simp only [viewL];cases hwx:writer ops.toList 0 t with
   |none=>simp only;exact ev (by rw [hwx];simp)
   |some k=>
    simp only;split
    ·rename_i hm;refine ev ?_;rw [hwx];intro e;cases e;have hm':=(memN_iff _ _).1 hm;obtain ⟨e,he,hbe,h3⟩:=(mem_bef ho).1 hm';have hlt:=d.ok.back _ o ho e he hbe;rcases h3 with h3 |⟨_,h3⟩
     ·omega
     ·exact hid (d.cl.bef e.on (depsIn_iff.1 hdep e he hbe) _ h3)
    ·rfl
  |_=>rfl
 refine
  { ok:=d.ok,sched:=d.sched
    cover:=fun j hj=> ?_
    bound:=fun j hj=>d.bound j ((hp j).2 (.inr hj))
    apart:=fun j hj hj'=> ?_
    nodup:=hnd
    sub:=fun j hj=>List.mem_cons_of_mem _ (d.sub j hj)
    cl:=hcl
    cD:=d.cD
    eff:=fun j hj p hjp hEp=> ?_
    len0:=d.len0
    len:=by rw [putG_len];exact d.len
    same:=fun t ht=> ?_
    old:=d.old
    new:=fun t j y v' hwr hjD hy hv'=> ?_
    waits:=fun j hj hjD p hjp hA hwt=> ?_
    vals:=fun j hj hjD p hjp hEp=> ?_
    ids:=hids }
 ·rcases d.cover j hj with h |h
  ·exact .inl (List.mem_cons_of_mem _ h)
  ·rcases (hp j).1 h with rfl |h
   ·exact .inl List.mem_cons_self
   ·exact .inr h
 ·rcases List.mem_cons.1 hj with rfl |hj
  ·exact hn hj'
  ·exact d.apart j hj ((hp j).2 (.inr hj'))
 ·rcases List.mem_cons.1 hj with rfl |hj
  ·rw [ho] at hjp;cases hjp;rw [hE] at hEp;cases hEp
  ·exact d.eff j hj p hjp hEp
 ·rw [putG_get d.ok ho,if_neg (fun hw'=>ht i hw' List.mem_cons_self)];exact d.same t fun j hj hjd=>ht j hj (List.mem_cons_of_mem _ hjd)
 ·rw [putG_get d.ok ho,if_neg (fun hw'=>by rw [hwr] at hw';cases hw';exact hiD hjD)] at hy;exact d.new t j y v' hwr hjD hy hv'
 ·rcases List.mem_cons.1 hj with rfl |hj
  ·rw [ho] at hjp;cases hjp;have hwt':wantedL ops tmps o=some true:=by
    rw [<-hwt];refine (wanted_get fun g w q dd hg hq hd=> ?_).symm;rw [putG_get d.ok ho,if_neg];intro hw';rw [d.ok.wr g q dd hq hd] at hw';cases hw';obtain ⟨e,he,hbe,h3⟩:=(mem_bef ho).1 (d.ok.guard _ o _ w ho hg);have hlt:=d.ok.back _ o ho e he hbe;rcases h3 with h3 |⟨_,h3⟩
    ·omega
    ·exact hid (d.cl.bef e.on (depsIn_iff.1 hdep e he hbe) _ h3)
   obtain ⟨id,h1,h2⟩:=hw hA hwt';have hview:viewL C ops (bf ops) j tm0 (putG ops j tmps v)=viewL C ops (bf ops) j tm0 tmps:=by
    funext x;cases x with
    |tmp t=>
     have ev:writer ops.toList 0 t≠some j->evalL C (putG ops j tmps v) (.tmp t)=evalL C tmps (.tmp t):=by
      intro hne;simp only [evalL,nth_eq,putG_get d.ok ho,if_neg hne]
     simp only [viewL];cases hwx:writer ops.toList 0 t with
     |none=>simp only;exact ev (by rw [hwx];simp)
     |some k=>
      simp only;split
      ·rename_i hm;refine ev ?_;rw [hwx];intro e;cases e;have hm':=(memN_iff _ _).1 hm;obtain ⟨e,he,hbe,h3⟩:=(mem_bef ho).1 hm';have hlt:=d.ok.back _ o ho e he hbe;rcases h3 with h3 |⟨_,h3⟩
       ·omega
       ·exact hid (d.cl.bef e.on (depsIn_iff.1 hdep e he hbe) _ h3)
      ·rfl
    |_=>rfl
   refine ⟨id,v,List.mem_append_right _ h1,fun dd hd hlt=> ?_,by rw [hview];exact h2⟩;rw [putG_len] at hlt;rw [putG_get d.ok ho,if_pos (d.ok.wr _ o dd ho hd),if_pos hlt]
  ·have hwt':wantedL ops tmps p=some true:=by rw [<-wanted_put d.ok d.cl hj hjp hid ho v];exact hwt
   obtain ⟨id,v',h1,h2,h3⟩:=d.waits j hj hjD p hjp hA hwt';refine ⟨id,v',List.mem_append_left _ h1,fun dd hd hlt=> ?_,?_⟩
   ·rw [putG_len] at hlt;rw [putG_get d.ok ho,if_neg (fun hw'=>by rw [d.ok.wr j p dd hjp hd] at hw';cases hw';exact hid hj)];exact h2 dd hd hlt
   ·rw [view_put d.ok d.cl hj hid ho];exact h3.mono hb h1
 ·rcases List.mem_cons.1 hj with rfl |hj
  ·rw [ho] at hjp;cases hjp;obtain ⟨b,v1,v2,v3⟩:=hval;refine ⟨b,by rw [hnew];exact v1,fun hb' dd hd hlt=> ?_,fun hb' hA' hr'=> ?_⟩
   ·rw [putG_len] at hlt;rw [putG_get d.ok ho,if_pos (d.ok.wr _ o dd ho hd),if_pos hlt,v2 hb']
   ·obtain ⟨H0,w1⟩:=v3 hb' hA' hr';refine ⟨v,H0,by rw [hvnew];exact w1,fun dd hd hlt=> ?_⟩;rw [putG_len] at hlt;rw [putG_get d.ok ho,if_pos (d.ok.wr _ o dd ho hd),if_pos hlt]
  ·obtain ⟨b,v1,v2,v3⟩:=d.vals j hj hjD p hjp hEp;have keep:∀dd y,p.dst=some dd->tmps[dd]? =some y->(putG ops i tmps v)[dd]? =some y:=fun dd y hd hy=>by
    rw [putG_get d.ok ho,if_neg (fun hw'=>by rw [d.ok.wr j p dd hjp hd] at hw';cases hw';exact hid hj)];exact hy
   refine ⟨b,by rw [wanted_put d.ok d.cl hj hjp hid ho v];exact v1,fun hb' dd hd hlt=>keep dd _ hd (v2 hb' dd hd (by rw [putG_len] at hlt;exact hlt)),fun hb' hA' hr'=> ?_⟩;obtain ⟨v',H0,w1,w2⟩:=v3 hb' hA' hr';exact ⟨v',H0,by rw [view_put d.ok d.cl hj hid ho];exact w1,fun dd hd hlt=>keep dd _ hd (w2 dd hd (by rw [putG_len] at hlt;exact hlt))⟩
theorem Sched.tail{i:Nat}(h:Sched ops D (i::L)):∃o,ops[i]? =some o/\i∉D/\(∀e∈o.after.toList,binds e=true->e.on∈D)/\Sched ops (i::D) L:=by
 cases h with
 |cons ho hn hd h=>exact ⟨_,ho,hn,hd,h⟩
theorem Draw.model{i:Nat}(d:Draw C ι H us ops tm0 tmps done pend D (i::L) ct)(hi:i∈done){κ:Gh}{u:Value}(hb:Beside (us.filter (fun p=>p.1 != i)) ι H κ H)
  (hu:∀o dd y,ops[i]? =some o->o.dst=some dd->tmps[dd]? =some y->VRel κ y u):
  Draw C κ H (us.filter (fun p=>p.1 != i)) ops tm0 tmps done pend (i::D) L (putG ops i ct u):=by
 obtain ⟨o,ho,hn,hdep,hs⟩:=d.sched.tail;refine
  { ok:=d.ok,sched:=hs
    cover:=d.cover,bound:=d.bound,apart:=d.apart,nodup:=d.nodup
    sub:=fun j hj=> ?_
    cl:=d.cl
    cD:=fun j p hj hjp e he hbd=> ?_
    eff:=fun j hj p hjp hEp=>List.mem_cons_of_mem _ (d.eff j hj p hjp hEp)
    len0:=by rw [putG_len];exact d.len0
    len:=by rw [putG_len];exact d.len
    same:=d.same
    old:=fun t x v h1 h2 h3=> ?_
    new:=fun t j y v hwr hjD hy hv'=> ?_
    waits:=fun j hj hjD p hjp hA hwt=> ?_
    vals:=fun j hj hjD p hjp hEp=>d.vals j hj (fun h=>hjD (List.mem_cons_of_mem _ h)) p hjp hEp
    ids:= ?_ }
 ·rcases List.mem_cons.1 hj with rfl |hj
  ·exact hi
  ·exact d.sub j hj
 ·rcases List.mem_cons.1 hj with rfl |hj
  ·rw [ho] at hjp;cases hjp;exact List.mem_cons_of_mem _ (hdep e he hbd)
  ·exact List.mem_cons_of_mem _ (d.cD j p hj hjp e he hbd)
 ·rw [putG_get d.ok ho,if_neg (fun hw=>h1 i hw List.mem_cons_self)] at h3;exact (d.old t x v (fun j hj hjD=>h1 j hj (List.mem_cons_of_mem _ hjD)) h2 h3).mono hb.le
 ·by_cases hji:j=i
  ·subst hji;rw [putG_get d.ok ho,if_pos hwr] at hv';split at hv'
   ·cases hv';obtain ⟨p,hp,hd⟩:=writer_dst hwr;exact hu p t y hp hd hy
   ·cases hv'
  ·rw [putG_get d.ok ho,if_neg (fun hw=>by rw [hwr] at hw;cases hw;exact hji rfl)] at hv';exact (d.new t j y v hwr ((List.mem_cons.1 hjD).resolve_left hji) hy hv').mono hb.le
 ·have hji:j≠i:=fun e=>hjD (e▸List.mem_cons_self);obtain ⟨id,v,w1,w2,w3⟩:=d.waits j hj (fun h=>hjD (List.mem_cons_of_mem _ h)) p hjp hA hwt;have hm:(j,id)∈us.filter (fun p=>p.1 != i):=List.mem_filter.2 ⟨w1,by simpa using hji⟩;exact ⟨id,v,hm,w2,w3.mono hb hm⟩
 ·exact List.Nodup.sublist (List.Sublist.map _ List.filter_sublist) d.ids
theorem Draw.both{e:Nat}{r:List Nat}(d:Draw C ι H us ops tm0 tmps done (e::r) D (e::L) ct){v:LV}{u:Value}(hv:VRel ι v u):
  Draw C ι H us ops tm0 (putG ops e tmps v) (e::done) r (e::D) L (putG ops e ct u):=by
 obtain ⟨o,ho,hn,hdep,hs⟩:=d.sched.tail;have hed:e∉done:=fun h=>d.apart e h List.mem_cons_self;have hnd:=List.nodup_cons.1 d.nodup;refine
  { ok:=d.ok,sched:=hs
    cover:=fun j hj=> ?_
    bound:=fun j hj=>d.bound j (List.mem_cons_of_mem _ hj)
    apart:=fun j hj hj'=> ?_
    nodup:=hnd.2
    sub:=fun j hj=> ?_
    cl:=fun j p hj hjp ed he hbd=> ?_
    cD:=fun j p hj hjp ed he hbd=> ?_
    eff:=fun j hj p hjp hEp=> ?_
    len0:=by rw [putG_len];exact d.len0
    len:=by rw [putG_len,putG_len];exact d.len
    same:=fun t ht=> ?_
    old:=fun t x v h1 h2 h3=> ?_
    new:=fun t j y v' hwr hjD hy hv'=> ?_
    waits:=fun j hj hjD p hjp hA hwt=> ?_
    vals:=fun j hj hjD p hjp hEp=> ?_
    ids:=d.ids }
 ·rcases d.cover j hj with h |h
  ·exact .inl (List.mem_cons_of_mem _ h)
  ·rcases List.mem_cons.1 h with rfl |h
   ·exact .inl List.mem_cons_self
   ·exact .inr h
 ·rcases List.mem_cons.1 hj with rfl |hj
  ·exact hnd.1 hj'
  ·exact d.apart j hj (List.mem_cons_of_mem _ hj')
 ·rcases List.mem_cons.1 hj with rfl |hj
  ·exact List.mem_cons_self
  ·exact List.mem_cons_of_mem _ (d.sub j hj)
 ·rcases List.mem_cons.1 hj with rfl |hj
  ·rw [ho] at hjp;cases hjp;exact List.mem_cons_of_mem _ (d.sub _ (hdep ed he hbd))
  ·exact List.mem_cons_of_mem _ (d.cl j p hj hjp ed he hbd)
 ·rcases List.mem_cons.1 hj with rfl |hj
  ·rw [ho] at hjp;cases hjp;exact List.mem_cons_of_mem _ (hdep ed he hbd)
  ·exact List.mem_cons_of_mem _ (d.cD j p hj hjp ed he hbd)
 ·rcases List.mem_cons.1 hj with rfl |hj
  ·exact List.mem_cons_self
  ·exact List.mem_cons_of_mem _ (d.eff j hj p hjp hEp)
 ·rw [putG_get d.ok ho,if_neg (fun hw'=>ht e hw' List.mem_cons_self)];exact d.same t fun j hj hjd=>ht j hj (List.mem_cons_of_mem _ hjd)
 ·rw [putG_get d.ok ho,if_neg (fun hw=>h1 e hw List.mem_cons_self)] at h3;exact d.old t x v (fun j hj hjD=>h1 j hj (List.mem_cons_of_mem _ hjD)) h2 h3
 ·rw [putG_get d.ok ho] at hy hv';by_cases hje:j=e
  ·subst hje;rw [if_pos hwr] at hy hv';split at hy
   ·split at hv'
    ·cases hy;cases hv';exact hv
    ·cases hv'
   ·cases hy
  ·have hne:¬writer ops.toList 0 t=some e:=fun hw=>by rw [hwr] at hw;cases hw;exact hje rfl
   rw [if_neg hne] at hy hv';exact d.new t j y v' hwr ((List.mem_cons.1 hjD).resolve_left hje) hy hv'
 ·have hje:j≠e:=fun h=>hjD (h▸List.mem_cons_self);have hjd:j∈done:=(List.mem_cons.1 hj).resolve_left hje;have hwt':wantedL ops tmps p=some true:=by rw [<-wanted_put d.ok d.cl hjd hjp hed ho v];exact hwt
  obtain ⟨id,v',h1,h2,h3⟩:=d.waits j hjd (fun h=>hjD (List.mem_cons_of_mem _ h)) p hjp hA hwt';refine ⟨id,v',h1,fun dd hd hlt=> ?_,?_⟩
  ·rw [putG_len] at hlt;rw [putG_get d.ok ho,if_neg (fun hw'=>by rw [d.ok.wr j p dd hjp hd] at hw';cases hw';exact hed hjd)];exact h2 dd hd hlt
  ·rw [view_put d.ok d.cl hjd hed ho];exact h3
 ·have hje:j≠e:=fun h=>hjD (h▸List.mem_cons_self);have hjd:j∈done:=(List.mem_cons.1 hj).resolve_left hje;obtain ⟨b,v1,v2,v3⟩:=d.vals j hjd (fun h=>hjD (List.mem_cons_of_mem _ h)) p hjp hEp;have keep:∀dd y,p.dst=some dd->tmps[dd]? =some y->(putG ops e tmps v)[dd]? =some y:=fun dd y hd hy=>by
   rw [putG_get d.ok ho,if_neg (fun hw'=>by rw [d.ok.wr j p dd hjp hd] at hw';cases hw';exact hed hjd)];exact hy
  refine ⟨b,by rw [wanted_put d.ok d.cl hjd hjp hed ho v];exact v1,fun hb' dd hd hlt=>keep dd _ hd (v2 hb' dd hd (by rw [putG_len] at hlt;exact hlt)),fun hb' hA' hr'=> ?_⟩;obtain ⟨v',H0,w1,w2⟩:=v3 hb' hA' hr';exact ⟨v',H0,by rw [view_put d.ok d.cl hjd hed ho];exact w1,fun dd hd hlt=>keep dd _ hd (w2 dd hd (by rw [putG_len] at hlt;exact hlt))⟩
theorem Draw.view{i:Nat}(d:Draw C ι H us ops tm0 tmps done pend D L ct)(hg:GlobOK C ι){o:Oper}(ho:ops[i]? =some o)(hi:i∉D)(hdep:∀e∈o.after.toList,binds e=true->e.on∈D){σ:Operand->Value}
  (hσ:∀t,σ (.tmp t)=ct[t]?.getD undef) (hc:∀v,σ (.const v)=v) (hgl:∀g,σ (.global g)=.pointer (some ⟨g,0,none⟩)) (hf:∀f,σ (.func f)=.func (.func f) #[] #[]) (x:Operand):
  VRel ι (viewL C ops (bf ops) i tm0 tmps x) (σ x):=by
 have hbD:∀j∈befOf (bf ops) i,j∈D:=by
  intro j hj;obtain ⟨e,he,hbe,h3⟩:=(mem_bef ho).1 hj;rcases h3 with rfl |⟨_,h3⟩
  ·exact hdep e he hbe
  ·exact d.cD.bef e.on (hdep e he hbe) _ h3
 have undefRel:VRel ι .undef undef:=.tuple .nil;have byLen:∀(l:List LV) (t:Nat),l.length=ct.length->(∀x v,l[t]? =some x->ct[t]? =some v->VRel ι x v)->VRel ι (evalL C l (.tmp t)) (σ (.tmp t)):=by
  intro l t hl h;rw [hσ];simp only [evalL,nth_eq];by_cases ht:t<ct.length
  ·have h1:l[t]? =some l[t]:=List.getElem?_eq_getElem (by omega);have h2:ct[t]? =some ct[t]:=List.getElem?_eq_getElem ht;rw [h1,h2];exact h _ _ h1 h2
  ·rw [List.getElem?_eq_none (by omega),List.getElem?_eq_none (by omega)];exact undefRel
 cases x with
 |tmp t=>
  simp only [viewL];cases hw:writer ops.toList 0 t with
  |none=>
   simp only;refine byLen tmps t d.len fun x v h1 h2=> ?_;rw [d.same t (fun j hj=>by rw [hw] at hj;cases hj)] at h1;exact d.old t x v (fun j hj=>by rw [hw] at hj;cases hj) h1 h2
  |some j=>
   simp only;split
   ·rename_i hm;exact byLen tmps t d.len fun x v h1 h2=>d.new t j x v hw (hbD j ((memN_iff _ _).1 hm)) h1 h2
   ·split
    ·rename_i hm;refine byLen tm0 t d.len0 fun x v h1 h2=>d.old t x v (fun k hk hkD=> ?_) h1 h2;rw [hw] at hk;cases hk;exact hi (d.cD.bef j hkD i ((memN_iff _ _).1 hm))
    ·exact .lost _
 |const v=>
  simp only [viewL,evalL,hc];split
  ·rename_i y hy;exact toLV_rel ι _ _ _ hy
  ·exact .lost _
 |global g=>
  simp only [viewL,evalL,hgl];exact hg g
 |func f=>
  simp only [viewL,evalL,hf];exact .func (.func f) .nil .nil
end
theorem wanted_rel{ι:Gh}{ops:Array Oper}{o:Oper}{l:List LV}{m:Array Value}(hl:l.length=m.size)
  (h:∀g w p d,o.guard=some (g,w)->ops[g]? =some p->p.dst=some d->∀x v,l[d]? =some x->m[d]? =some v->VRel ι x v) {b:Bool} (hw:wantedL ops l o=some b):Region.wanted o (yielded ops m)=b:=by
 unfold wantedL at hw;unfold Region.wanted;cases hg:o.guard with
 |none=>rw [hg] at hw;cases hw;rfl
 |some gw=>
  obtain ⟨g,w⟩:=gw;rw [hg] at hw;simp only at hw |-;unfold yieldedL at hw;unfold yielded;cases hp:ops[g]? with
  |none=>
   rw [hp] at hw;cases hw;rfl
  |some p=>
   rw [hp] at hw;simp only at hw;cases hd:p.dst with
   |none=>
    rw [hd] at hw;cases hw;simp [hd]
   |some d=>
    rw [hd] at hw;simp only [nth_eq] at hw;simp only [Option.bind_some,hd];by_cases hlt:d<l.length
    ·have h1:l[d]? =some l[d]:=List.getElem?_eq_getElem hlt;have hlt':d<m.size:=hl▸hlt;have h2:m[d]? =some m[d]:=Array.getElem?_eq_getElem hlt';have hr:=h g w p d hg hp hd _ _ h1 h2;rw [h1] at hw;rw [h2];generalize l[d]=x at hr hw;generalize m[d]=v at hr;cases hr<;>simp_all
    ·rw [List.getElem?_eq_none (Nat.le_of_not_lt hlt)] at hw;rw [Array.getElem?_eq_none (hl▸Nat.le_of_not_lt hlt)];cases hw;rfl
end Go.Lm

/- Behind an operation: both machines go on side by side. -/
namespace Go.Lm
open Go.RowKit (Below)
section
variable {C:Cfg} {n0:Nat} {ι:Gh} {H:LHeap} {W:World}
theorem eval_rel(hg:GlobOK C ι){l:List LV}{g:Frame}(h:VRels ι l g.tmps.toList)(x:Operand):VRel ι (evalL C l x) (g.eval x):=by
 cases x with
 |tmp t=>
  simp only [evalL,nth_eq,Frame.eval];have hl:l.length=g.tmps.size:=h.len.trans Array.length_toList;by_cases ht:t<l.length
  ·have h1:l[t]? =some l[t]:=List.getElem?_eq_getElem ht;obtain ⟨v,h2,h3⟩:=h.get h1;rw [Array.getElem?_toList] at h2;rw [h1,Array.getD_eq_getD_getElem?,h2];exact h3
  ·rw [List.getElem?_eq_none (Nat.le_of_not_lt ht),Array.getD_eq_getD_getElem?,Array.getElem?_eq_none (hl▸Nat.le_of_not_lt ht)];exact .tuple .nil
 |const v=>
  simp only [evalL,Frame.eval];split
  ·rename_i y hy;exact toLV_rel ι _ _ _ hy
  ·exact .lost _
 |global g=>exact hg g
 |func f=>exact .func (.func f) .nil .nil
theorem finish_tmps{g:Frame}{ops:Array Oper}{i:Nat}{rest:List Nat}{k:List Item}(h:g.todo=.inRegion ops (i::rest)::k)(u:Value):
  g.finish u={ g with tmps:=(putG ops i g.tmps.toList u).toArray,todo:=.inRegion ops rest::k }:=by
 unfold Frame.finish putG;rw [h];simp only;cases (ops[i]?).bind (·.dst) with
 |none=>rfl
 |some d=>
  have:g.tmps.setIfInBounds d u=(g.tmps.toList.set d u).toArray:=Array.ext' (by simp);simp [this]
theorem VRels.putG{l:List LV}{m:List Value}(h:VRels ι l m)(ops:Array Oper)(i:Nat){v:LV}{u:Value}(hv:VRel ι v u):VRels ι (Go.Lm.putG ops i l v) (Go.Lm.putG ops i m u):=by
 unfold Go.Lm.putG;split
 ·exact h.set _ hv
 ·exact h
theorem FRel.finish{us:List (Nat×Nat)}{f f':LFrame}{g:Frame}(h:FRel C ι H us false f g){v:LV}{u:Value}(hv:VRel ι v u)(hf:finishL f v=some f'):FRel C ι H us true f' (g.finish u):=by
 unfold finishL at hf;split at hf
 ·rename_i hrun;have ht:Todo C ι H us false f.tmps f.todo g.tmps.toList g.todo/\g.mode=.run:=by
   cases h.mode with
   |run _ h2 h=>exact ⟨h,h2⟩
   |returning h1=>rw [hrun] at h1;cases h1
   |panicking h1=>rw [hrun] at h1;cases h1
  obtain ⟨ht,hg⟩:=ht;split at hf
  ·rename_i ops i rest k hk;cases hf;generalize hgt:g.todo=gt at ht;generalize hgm:g.tmps.toList=gm at ht;rw [hk] at ht;cases ht with
   |plain ht hkr=>
    cases hkr with
    |cons h1 hkr=>
     cases h1;rw [finish_tmps hgt,hgm];refine ⟨h.fn,h.func,h.defers,h.kind,h.round,.run hrun hg ?_⟩;rw [putT_eq];exact .plain (ht.putG ops i hv) (.cons (.inRegion _ _) hkr)
  ·rename_i ops b tm0 done i rest st k hk;cases hf;generalize hgt:g.todo=gt at ht;generalize hgm:g.tmps.toList=gm at ht;rw [hk] at ht;cases ht with
   |plain ht hkr=>cases hkr with |cons h1 hkr=>cases h1
   |drawn hd hkr hc hp=>
    obtain ⟨e,r,r',he,hL,hn,_⟩:=hp rfl;cases he;subst hL;rw [finish_tmps hgt,hgm];refine ⟨h.fn,h.func,h.defers,h.kind,h.round,.run hrun hg ?_⟩;rw [putT_eq];exact .drawn (hd.both hv) hkr (fun _ h=>by cases h) (fun h=>by cases h)
  ·rename_i l k hk;cases hf;generalize hgt:g.todo=gt at ht;generalize hgm:g.tmps.toList=gm at ht;rw [hk] at ht;cases ht with
   |plain ht hkr=>
    cases hkr with
    |cons h1 hkr=>
     cases h1 with |inRangeFunc hl=>
     unfold Frame.finish;rw [hgt];exact ⟨h.fn,h.func,h.defers,h.kind,h.round,.run hrun hg (.plain (by rw [hgm];exact ht) (.cons (.endRangeFunc hl) hkr))⟩
  ·rename_i k hk;cases hf;generalize hgt:g.todo=gt at ht;generalize hgm:g.tmps.toList=gm at ht;rw [hk] at ht;cases ht with
   |plain ht hkr=>
    cases hkr with
    |cons h1 hkr=>
     cases h1;unfold Frame.finish;rw [hgt];exact ⟨h.fn,h.func,h.defers,h.kind,h.round,.run hrun hg (.plain (by rw [hgm];exact ht) hkr)⟩
  ·cases hf
 ·cases hf
theorem enter_rel{f:FuncId}{x:List LV}{a:Array Value}(hx:VRels ι x a.toList){d:Bool}{g:LFrame}(hg:enterF C f x d=some g)(H:LHeap):
  FRel C ι H [] true g (Frame.enter C.P f a (if d then .deferred else .normal)):=by
 unfold enterF at hg;split at hg
 ·rename_i fn hf;split at hg
  ·rename_i c hc;cases hg;refine ⟨rfl,fun _=>⟨fn,hf⟩,.nil,rfl,rfl,.run rfl rfl (.plain ?_ ?_)⟩
   ·have hl:x.length=a.size:=hx.len.trans Array.length_toList;simp only [Frame.enter,hf,Option.map_some,Option.getD_some,Array.toList_append,Array.toList_replicate,replU_eq];rw [hl];exact hx.append (.replicate (.tuple .nil) _)
   ·simp only [Frame.enter,hf,Option.bind_some,hc,Option.getD_some];exact .cons (.code c) .nil
  ·cases hg
 ·cases hg
theorem loseT_get:∀(l:List Oper) (tmps:List LV) (t:Nat) (x:LV),(loseT l tmps)[t]? =some x->(x=.lost/\∃o∈l,o.dst=some t)\/(tmps[t]? =some x/\∀o∈l,o.dst≠some t)
 |[],tmps,t,x,h=>.inr ⟨h,by simp⟩
 |o::l,tmps,t,x,h=>by
  unfold loseT at h;rcases loseT_get l _ t x h with ⟨rfl,p,hp,hd⟩ |⟨h1,h2⟩
  ·exact .inl ⟨rfl,p,List.mem_cons_of_mem _ hp,hd⟩
  ·cases hd:o.dst with
   |none=>
    rw [hd] at h1;exact .inr ⟨h1,fun p hp=>by
     rcases List.mem_cons.1 hp with rfl |hp
     ·rw [hd];simp
     ·exact h2 p hp⟩
   |some d=>
    rw [hd] at h1;simp only [setNth_eq] at h1;rw [List.getElem?_set] at h1;split at h1
    ·rename_i hdt;subst hdt;split at h1
     ·cases h1;exact .inl ⟨rfl,o,List.mem_cons_self,hd⟩
     ·cases h1
    ·rename_i hdt;exact .inr ⟨h1,fun p hp=>by
      rcases List.mem_cons.1 hp with rfl |hp
      ·rw [hd];simpa using hdt
      ·exact h2 p hp⟩
theorem loseT_len:∀(l:List Oper) (tmps:List LV),(loseT l tmps).length=tmps.length
 |[],tmps=>rfl
 |o::l,tmps=>by
  unfold loseT;rw [loseT_len l];split
  ·rw [setNth_eq,List.length_set]
  ·rfl
theorem FRel.raise{us:List (Nat×Nat)}{top:Bool}{f:LFrame}{g:Frame}(h:FRel C ι H us top f g){vs:List LEntryP}{ws:List PanicEntry}(hv:ChainRel ι vs ws):FRel C ι H [] true (raiseL f vs) (g.raise ws):=by
 cases h.mode with
 |run h1 h2 ht=>
  have hr:VRels ι (match f.todo with | .drawn ops _ _ _ _ _::_=>loseT ops.toList f.tmps |_=>f.tmps) g.tmps.toList:=by
   generalize hgt:g.todo=gt at ht;generalize hgm:g.tmps.toList=gm at ht;generalize hk:f.todo=k at ht;cases ht with
   |plain ht hkr=>
    cases hkr with
    |nil=>exact ht
    |cons h1 _=>cases h1<;>exact ht
   |@drawn _ _ st ops tm0 _ done pend D L _ k k' hd hkr hc hp=>
    refine VRels.iff.2 ⟨by rw [loseT_len];exact hd.len,fun t x v hx hv=> ?_⟩;rcases loseT_get _ _ _ _ hx with ⟨rfl,_⟩ |⟨h1,h2⟩
    ·exact .lost v
    ·have hw:writer ops.toList 0 t=none:=by
      cases hw:writer ops.toList 0 t with
      |none=>rfl
      |some j=>
       obtain ⟨o,ho,hd'⟩:=writer_dst hw;exact absurd hd' (h2 o (Array.mem_toList_iff.2 (Array.mem_of_getElem? ho)))
     rw [hd.same t (fun j hj=>by rw [hw] at hj;cases hj)] at h1;exact hd.old t x v (fun j hj=>by rw [hw] at hj;cases hj) h1 hv
  unfold raiseL Frame.raise;rw [h1,h2];exact ⟨h.fn,h.func,h.defers,h.kind,h.round,.panicking rfl rfl hv hr rfl⟩
 |returning h1 h2 ht hu=>
  unfold raiseL Frame.raise;rw [h1,h2];exact ⟨h.fn,h.func,h.defers,h.kind,h.round,.panicking rfl rfl hv ht rfl⟩
 |panicking h1 h2 hc ht hu=>
  unfold raiseL Frame.raise;rw [h1,h2];exact ⟨h.fn,h.func,h.defers,h.kind,h.round,.panicking rfl rfl (hv.append hc) ht rfl⟩
end
end Go.Lm

/- What comes behind an operation. -/
namespace Go.Lm
open Go.RowKit (Below)
def Goes(C:Cfg)(n0:Nat)(tail:List Frame)(l:List LState)(g:Frame)(cs:List Frame)(W:World):Prop:=
 ∃s'∈l,∃ι g' cs' W',Steps C.P (lone g cs W) (lone g' cs' W')/\MSim C n0 tail ι s' g' cs' W'/\Below n0 W W'
theorem Goes.head{C:Cfg}{n0:Nat}{tail:List Frame}{l:List LState}{g g':Frame}{cs cs':List Frame}{W W':World}(h:Steps C.P (lone g cs W) (lone g' cs' W'))(hb:Below n0 W W')(k:Goes C n0 tail l g' cs' W'):Goes C n0 tail l g cs W:=by
 obtain ⟨s',hs,ι,g2,cs2,W2,h1,h2,h3⟩:=k;exact ⟨s',hs,ι,g2,cs2,W2,h.trans h1,h2,hb.trans h3⟩
section
variable {C:Cfg} {n0:Nat} {ι:Gh} {H:LHeap} {W:World}
structure Before (C:Cfg) (n0:Nat) (ι:Gh) (H:LHeap) (us vs:List (Nat×Nat)) (f:LFrame) (g:Frame) (fs:List LFrame) (gs:List Frame):Prop where
 glob:GlobOK C ι
 frame:FRel C ι H us false f g
 stack:Stack C ι H vs fs gs
 nodup:((us++vs).map (·.2)).Nodup
 far:∀p∈us++vs,p.2<H.next/\∀u,ι p.2 u=none
theorem Before.mono{us vs:List (Nat×Nat)}{f:LFrame}{g:Frame}{fs:List LFrame}{gs:List Frame}(h:Before C n0 ι H us vs f g fs gs){κ:Gh}{K:LHeap}(hb:Beside (us++vs) ι H κ K):Before C n0 κ K us vs f g fs gs:=
 ⟨h.glob.mono hb.le,h.frame.mono hb.left,h.stack.mono hb.right,h.nodup,fun p hp=>⟨Nat.lt_of_lt_of_le (h.far p hp).1 hb.next,(hb.keep p hp (h.far p hp).2 (h.far p hp).1).2⟩⟩
theorem Before.sim{us vs:List (Nat×Nat)}{f f':LFrame}{g g':Frame}{fs:List LFrame}{gs tail:List Frame}(h:Before C n0 ι H us vs f g fs gs)(hW:HRel ι H W n0)(hf:FRel C ι H us true f' g'):
 MSim C n0 tail ι ⟨f',fs,H⟩ g' (gs++tail) W:=⟨hW,h.glob,us,vs,gs,rfl,hf,h.stack,h.nodup,h.far⟩
theorem Before.enter{us vs:List (Nat×Nat)}{f f':LFrame}{g g':Frame}{fs:List LFrame}{gs tail:List Frame}(h:Before C n0 ι H us vs f g fs gs)(hW:HRel ι H W n0)(hf:FRel C ι H [] true f' g'):
 MSim C n0 tail ι ⟨f',f::fs,H⟩ g' (g::(gs++tail)) W:=⟨hW,h.glob,[],us++vs,g::gs,rfl,hf,.cons h.frame h.stack,h.nodup,h.far⟩
theorem nodup_right{us vs:List (Nat×Nat)}(h:((us++vs).map (·.2)).Nodup):((([]:List (Nat×Nat))++vs).map (·.2)).Nodup:=by
 rw [List.map_append,List.nodup_append] at h;exact h.2.1
theorem Before.drop{us vs:List (Nat×Nat)}{f f':LFrame}{g g':Frame}{fs:List LFrame}{gs tail:List Frame}(h:Before C n0 ι H us vs f g fs gs)(hW:HRel ι H W n0)(hf:FRel C ι H [] true f' g'):
  MSim C n0 tail ι ⟨f',fs,H⟩ g' (gs++tail) W:=
 ⟨hW,h.glob,[],vs,gs,rfl,hf,h.stack,nodup_right h.nodup,fun p hp=>h.far p (List.mem_append_right _ hp)⟩
theorem Stack.recovered{vs:List (Nat×Nat)}{c:LFrame}{rest:List LFrame}{gs:List Frame}(h:Stack C ι H vs (c::rest) gs){v:LV}{older:List LEntryP}(hm:c.mode=.panicking (⟨v,false⟩::older)):
  ∃d gs' u older',gs=d::gs'/\d.mode=.panicking (⟨u,false,false⟩::older')/\VRel ι v u/\Stack C ι H vs ({ c with mode:=.panicking (⟨v,true⟩::older) }::rest) ({ d with mode:=.panicking (⟨u,true,false⟩::older') }::gs'):=by
 cases h with
 |@cons us vs _ d _ gs' hF t=>
  cases hF.mode with
  |run h1=>rw [hm] at h1;cases h1
  |returning h1=>rw [hm] at h1;cases h1
  |panicking h1 h2 hc ht hu=>
   rw [hm] at h1;cases h1;cases hc with
   |cons hv hc=>
    exact ⟨d,gs',_,_,rfl,h2,hv,.cons ⟨hF.fn,hF.func,hF.defers,hF.kind,hF.round,.panicking rfl rfl (.cons hv hc) ht hu⟩ t⟩
theorem Stack.not_recovered{vs:List (Nat×Nat)}{c:LFrame}{rest:List LFrame}{gs:List Frame}(h:Stack C ι H vs (c::rest) gs)(hm:∀v older,c.mode≠.panicking (⟨v,false⟩::older)):
  ∃d gs',gs=d::gs'/\∀u older,d.mode≠.panicking (⟨u,false,false⟩::older):=by
 cases h with
 |@cons us vs _ d _ gs' hF t=>
  refine ⟨d,gs',rfl,fun u older hd=> ?_⟩;cases hF.mode with
  |run _ h2=>rw [hd] at h2;cases h2
  |returning _ h2=>rw [hd] at h2;cases h2
  |panicking h1 h2 hc ht hu=>
   rw [hd] at h2;cases h2;cases hc with
   |cons hv hc=>exact hm _ _ h1
theorem after_from{us vs:List (Nat×Nat)}{f:LFrame}{g g0:Frame}{W0:World}{fs:List LFrame}{gs tail:List Frame}(hB:Before C n0 ι H us vs f g fs gs)(hrun:f.mode=.run){sem:Sem Next}(hb0:Below n0 W0 W)
  (happly:(stepG C.P true { frame:=g0,callers:=gs++tail,status:=.running,dying:=none } W0).bare=(stepG.apply C.P true g (gs++tail) none sem W).bare)
  (hcall:∀d w r s k,g.todo≠.call d w r s::k) {outs:List (LNext×LHeap)} (hop:OpSound C.P n0 ι H W outs (sem.run C.P W)) {l:List LState} (hl:mapO (afterL C f fs) outs=some l):
  Goes C n0 tail l g0 (gs++tail) W0:=by
 obtain ⟨y,hy,κ,X,hH,hOn,hOut⟩:=hop;obtain ⟨s',hs',ha⟩:=(mapO_mem hl).2 y hy;obtain ⟨nx,K⟩:=y;have hB':=hB.mono (Beside.of_on hOn);have hbel:=hb0.trans hOn.below;generalize hr:sem.run C.P W=r at hOut;have hgmode:g.mode=.run:=by
  cases hB.frame.mode with
  |run _ h2 _=>exact h2
  |returning h1=>rw [hrun] at h1;cases h1
  |panicking h1=>rw [hrun] at h1;cases h1
 cases hOut with
 |value hv=>
  simp only [afterL,Option.map_eq_some_iff] at ha;obtain ⟨f',hf',rfl⟩:=ha;refine ⟨_,hs',κ,_,_,X,.one (step_lone_go ?_),hB'.sim hH (hB'.frame.finish hv hf'),hbel⟩;rw [happly];simp [stepG.apply,hr]
 |skip=>
  simp only [afterL,Option.map_eq_some_iff] at ha;obtain ⟨f',hf',rfl⟩:=ha;refine ⟨_,hs',κ,_,_,X,.one (step_lone_go ?_),hB'.sim hH (hB'.frame.finish (u:=undef) (.tuple .nil) hf'),hbel⟩;rw [happly];simp [stepG.apply,hr]
 |enter hx=>
  simp only [afterL,Option.map_eq_some_iff] at ha;obtain ⟨f',hf',rfl⟩:=ha;refine ⟨_,hs',κ,_,_,X,.one (step_lone_go ?_),hB'.enter hH (enter_rel hx hf' K),hbel⟩;rw [happly];simp [stepG.apply,hr];split<;>first |rfl |exact absurd (by assumption) (hcall _ _ _ _ _)
 |@call x ff a hc=>
  simp only [afterL,Option.map_eq_some_iff] at ha;obtain ⟨f',hf',rfl⟩:=ha;obtain ⟨e,X2,fr,⟨v,rfl,hv,hgrow⟩,hsteps,hfn,hleave⟩:=hc (g::(gs++tail));have henter:step C.P (lone g0 (gs++tail) W0)=.next (lone (Frame.enter C.P ff a .normal) (g::(gs++tail)) X):=step_lone_go (by
   rw [happly];simp [stepG.apply,hr];split<;>first |rfl |exact absurd (by assumption) (hcall _ _ _ _ _))
  have hon2:On κ K X κ K X2 n0:=.grow hH.size hgrow;refine ⟨_,hs',κ,_,_,X2,.head henter (Steps.trans hsteps (.one (step_leave_returned hleave))),hB'.sim (hH.grow hgrow) (hB'.frame.finish hv hf'),hbel.trans hon2.below⟩
 |@defer d e hd=>
  simp only [afterL] at ha;split at ha
  ·cases ha
  ·rename_i hro;simp only [Option.map_eq_some_iff] at ha;obtain ⟨f',hf',rfl⟩:=ha;have hF:=hB'.frame;have hF2:FRel C κ K us false { f with defers:=d::f.defers } { g with defers:=e::g.defers }:=⟨hF.fn,hF.func,.cons hd hF.defers,hF.kind,hF.round,by
    cases hF.mode with
    |run h1 h2 h=>exact .run h1 h2 h
    |returning h1 h2 h hu=>exact .returning h1 h2 h hu
    |panicking h1 h2 hc h hu=>exact .panicking h1 h2 hc h hu⟩
   refine ⟨_,hs',κ,_,_,X,.one (step_lone_go ?_),hB'.sim hH (hF2.finish (u:=undef) (.tuple .nil) hf'),hbel⟩;rw [happly];simp [stepG.apply,hr]
 |recover=>
  simp only [afterL] at ha;split at ha
  ·cases ha
  ·rename_i hro;have hro':f.roundOf=none:=by simpa using hro
   have hground:g.roundOf=none:=by
    have:=hB.frame.round;rw [hro'] at this;exact this
   split at ha
   ·rename_i v cs' htry;simp only [Option.map_eq_some_iff] at ha;obtain ⟨f',hf',rfl⟩:=ha;unfold tryRecoverL at htry;split at htry
    ·rename_i hdef;cases htry;have hk:g.kind=.normal:=by rw [hB.frame.kind,hdef];rfl
     have htr:tryRecover g (gs++tail)=none:=by
      cases hgs:gs++tail<;>simp [tryRecover,hk]
     refine ⟨_,hs',κ,_,_,X,.one (step_lone_go ?_),hB'.sim hH (hB'.frame.finish .nilIface hf'),hbel⟩;rw [happly];simp [stepG.apply,hr,hground,htr]
    ·cases htry
    ·rename_i c rest hdef;have hk:g.kind=.deferred:=by rw [hB.frame.kind,hdef];rfl
     split at htry
     ·rename_i v' older hcm;cases htry;obtain ⟨d,gs',u,older',rfl,hdm,hv,hst⟩:=hB'.stack.recovered hcm;have htr:tryRecover g (d::gs'++tail)=some (u,{ d with mode:=.panicking ({ v:=u,recovered:=true }::older') }::(gs'++tail)):=by
       simp [tryRecover,hk,hdm]
      refine ⟨_,hs',κ,_,_,X,.one (step_lone_go ?_),⟨hH,hB'.glob,us,vs,_,rfl,hB'.frame.finish hv hf',hst,hB'.nodup,hB'.far⟩,hbel⟩;rw [happly];simp only [stepG.apply,Sem.runT_eq,hr,hground,htr,GStep.bare_after];rfl
     ·rename_i hno;cases htry;obtain ⟨d,gs',rfl,hnd⟩:=hB'.stack.not_recovered (fun v older e=>hno v older e);have htr:tryRecover g (d::gs'++tail)=none:=by
       simp only [tryRecover,hk,List.cons_append]
      refine ⟨_,hs',κ,_,_,X,.one (step_lone_go ?_),hB'.sim hH (hB'.frame.finish .nilIface hf'),hbel⟩;rw [happly];simp only [stepG.apply,Sem.runT_eq,hr,hground,htr,GStep.bare_after];rfl
   ·cases ha
 |@panic x v hv=>
  simp only [afterL,Option.some.injEq] at ha;subst ha;refine ⟨_,hs',κ,_,_,X,.one (step_lone_go ?_),hB'.drop hH (hB'.frame.raise (.cons hv .nil)),hbel⟩;rw [happly];simp [stepG.apply,hr]
 |@round i lo ff x a b c hlo hx=>
  simp only [afterL,Option.some.injEq] at ha;subst ha;refine ⟨_,hs',κ,_,_,X,.one (step_lone_go ?_),hB'.enter hH (g':=Frame.round lo.blk ff a b c .normal) ⟨rfl,fun h=>by (cases h),.nil,rfl,⟨lo,hlo,rfl⟩,.run rfl rfl (.plain hx (.cons (.code b) (.cons .beginRound (.cons (.code c) .nil))))⟩,hbel⟩;rw [happly];simp [stepG.apply,hr]
theorem after_sim{us vs:List (Nat×Nat)}{f:LFrame}{g:Frame}{fs:List LFrame}{gs tail:List Frame}(hB:Before C n0 ι H us vs f g fs gs)(hrun:f.mode=.run){sem:Sem Next}
 (happly:stepG C.P true { frame:=g,callers:=gs++tail,status:=.running,dying:=none } W=stepG.apply C.P true g (gs++tail) none sem W)
 (hcall:∀d w r s k,g.todo≠.call d w r s::k) {outs:List (LNext×LHeap)} (hop:OpSound C.P n0 ι H W outs (sem.run C.P W)) {l:List LState} (hl:mapO (afterL C f fs) outs=some l):
 Goes C n0 tail l g (gs++tail) W:=after_from hB hrun (.refl _ _) (congrArg GStep.bare happly) hcall hop hl
end
end Go.Lm

/- Objects that the model makes later than this machine. -/
namespace Go.Lm
open Go.RowKit (Below)
variable {P:Program}
structure OnB (ι:Gh) (W:World) (κ:Gh) (X:World) (n0 id:Nat):Prop where
 le:ι.le κ
 other:∀j u,j≠id->κ j u=ι j u
 below:Below n0 W X
theorem HRel.born_cells{ι:Gh}{H:LHeap}{W:World}{n0:Nat}(h:HRel ι H W n0){id:Nat}(hnone:∀u,ι id u=none)(hlt:id<H.next){cs:List LV}{c:Array Value}(e:TypeId)(wh:Bool)
  (hc:VRels ι cs c.toList) (ha:allCells cs=true) (hg:H.get id=some (.cells cs e cs.length cs.length .none false wh)):
  let κ:=ι.add id cs.length ⟨W.heap.size,0,c.size⟩
  let X:World:={ W with heap:=W.heap.push (.cells c e (0,0)) }
  HRel κ H X n0/\OnB ι W κ X n0 id:=by
 intro κ X;have hcs:c.size=cs.length:=by rw [hc.len,Array.length_toList]
 have hle:ι.le κ:=Gh.add_le _ _ (.inl (hnone _));have hX:Below n0 W X:=Below.push _ h.size;refine ⟨h.step id (.cells cs e cs.length cs.length .none false wh) hle (fun j u hj=>Gh.add_other _ _ (fun c=>hj c.1)) hX ?_ (fun _ _=>rfl) (Nat.le_refl _) hlt hg ?_ ?_ ?_ ?_,hle,fun j u hj=>Gh.add_other _ _ (fun c=>hj c.1),hX⟩
 ·intro b hb _;show (W.heap.push _)[b]? =_;rw [Array.getElem?_push,if_neg (by omega)]
 ·refine ⟨rfl,Nat.le_refl _,ha,⟨_,Gh.add_self _ _ _ _⟩,fun hw=>⟨rfl,fun l hl=> ?_⟩,fun u l hu=> ?_,?_⟩
  ·rw [show κ id cs.length=some ⟨W.heap.size,0,c.size⟩ from Gh.add_self _ _ _ _] at hl;cases hl;exact ⟨rfl,hcs⟩
  ·by_cases hq:u=cs.length
   ·subst hq;rw [show κ id cs.length=some ⟨W.heap.size,0,c.size⟩ from Gh.add_self _ _ _ _] at hu;cases hu;refine ⟨Nat.le_refl _,fun _=>⟨c,(0,0),?_,rfl,by simp;omega,fun _=>.inl rfl,fun _ j v hv=>hc.oneCell ha v (List.mem_of_getElem? (by rw [Array.getElem?_toList];exact hv)),fun j x hx hj _=> ?_⟩⟩
    ·show (W.heap.push _)[W.heap.size]? =_;simp
    ·obtain ⟨v,hv,hr⟩:=hc.get hx;refine ⟨v,?_,hr.mono hle⟩;simpa using hv
   ·rw [show κ id u=ι id u from Gh.add_other _ _ (fun c=>hq c.2),hnone] at hu;cases hu
  ·intro u u' l l' hu hu' _;by_cases hq:u=cs.length
   ·by_cases hq':u'=cs.length
    ·subst hq;subst hq';rw [hu] at hu';cases hu';rfl
    ·rw [show κ id u'=ι id u' from Gh.add_other _ _ (fun c=>hq' c.2),hnone] at hu';cases hu'
   ·rw [show κ id u=ι id u from Gh.add_other _ _ (fun c=>hq c.2),hnone] at hu;cases hu
 ·rintro ⟨u,l,hu⟩;rw [hnone] at hu;cases hu
 ·rintro ⟨cs',e',v,m,fz',wh',hro⟩;rw [hg] at hro;cases hro
 ·intro u l hu;by_cases hq:u=cs.length
  ·subst hq;rw [show κ id cs.length=some ⟨W.heap.size,0,c.size⟩ from Gh.add_self _ _ _ _] at hu;cases hu;exact ⟨by simp [X],h.size,.inr (Nat.le_refl _)⟩
  ·rw [show κ id u=ι id u from Gh.add_other _ _ (fun c=>hq c.2),hnone] at hu;cases hu
structure Here (ι:Gh) (H H0 H':LHeap):Prop where
 none:∀u,ι H0.next u=none
 lt:H0.next<H.next
 get:H.get H0.next=H'.get H0.next
theorem newRow_born{ι:Gh}{H H0:LHeap}{W:World}{n0:Nat}(h:HRel ι H W n0){e:TypeId}{cs:List LV}{wh:Bool}{a:LAddr}{H':LHeap}(hn:newRow H0 e cs wh=some (a,H'))(hh:Here ι H H0 H')
  {c:Array Value} (hc:VRels ι cs c.toList):
  ∃κ X,(Go.newRow e c).run P W=.ok ⟨W.heap.size,0,none⟩ X/\HRel κ H X n0/\OnB ι W κ X n0 H0.next/\PRel κ a ⟨W.heap.size,0,none⟩/\a.off=0/\a.ver=cs.length:=by
 unfold newRow at hn;split at hn
 ·rename_i ha;cases hn;have hg:=hh.get;rw [LHeap.get_push,if_pos rfl] at hg;obtain ⟨h1,h2⟩:=h.born_cells hh.none hh.lt (cs:=cs) (c:=c) e wh hc ha hg;refine ⟨_,_,?_,h1,h2,⟨_,Gh.add_self _ _ _ _,by simp,by simp⟩,rfl,rfl⟩;simp [Go.newRow]
 ·cases hn
theorem allocL_born{ι:Gh}{H H0:LHeap}{W:World}{n0:Nat}(h:HRel ι H W n0){t:TypeId}{z:LV}(hz:zeroOf P t=some z){a:LAddr}{H':LHeap}(hn:newRow H0 t z.cells true=some (a,H'))(hh:Here ι H H0 H')(old:Value):
  ∃κ X,(Instr.alloc t true old).run P W=.ok (.pointer (some ⟨W.heap.size,0,none⟩)) X/\HRel κ H X n0/\OnB ι W κ X n0 H0.next/\PRel κ a ⟨W.heap.size,0,none⟩:=by
 obtain ⟨v,hv,hrun⟩:=run_zeroValue hz ι;have hnl:z≠.lost:=by
  rintro rfl;simp [newRow,LV.cells,allCells,LV.isCell] at hn
 obtain ⟨κ,X,h1,h2,h3,h4,_⟩:=newRow_born (P:=P) h hn hh (hv.cells' hnl);refine ⟨κ,X,?_,h2,h3,h4⟩;simp only [Instr.alloc,Sem.run_bind,hrun,Result.andThen_ok,newVar,h1,Sem.run_pure]
theorem boxL_born{ι:Gh}{H H0:LHeap}{W:World}{n0:Nat}(h:HRel ι H W n0){t:TypeId}{x:LV}{v:Value}(hx:VRel ι x v){a:LAddr}{H':LHeap}(hn:newRow H0 t x.cells true=some (a,H'))(hh:Here ι H H0 H'):
  ∃κ X,(Instr.box t v).run P W=.ok (.pointer (some ⟨W.heap.size,0,none⟩)) X/\HRel κ H X n0/\OnB ι W κ X n0 H0.next/\PRel κ a ⟨W.heap.size,0,none⟩:=by
 have hnl:x≠.lost:=by
  rintro rfl;simp [newRow,LV.cells,allCells,LV.isCell] at hn
 obtain ⟨κ,X,h1,h2,h3,h4,_⟩:=newRow_born (P:=P) h hn hh (hx.cells' hnl);refine ⟨κ,X,?_,h2,h3,h4⟩;simp only [Instr.box,Sem.run_bind,newVar,h1,Result.andThen_ok,Sem.run_pure]
theorem buildSliceL_born{ι:Gh}{H H0:LHeap}{W:World}{n0:Nat}(h:HRel ι H W n0){t:TypeId}{len:Nat}{parts:List (Nat×LV)}{cp:Array (Nat×Value)}(hp:PartsRel ι parts cp.toList){r:LV}{H':LHeap}
  (hb:buildSliceL P H0 t len parts=some (r,H')) (hh:Here ι H H0 H'):
  ∃κ X,(Instr.buildSlice t len cp).run P W=.ok (.slice (some ⟨W.heap.size,0,none⟩) len len) X/\VRel κ r (.slice (some ⟨W.heap.size,0,none⟩) len len)/\HRel κ H X n0/\OnB ι W κ X n0 H0.next:=by
 unfold buildSliceL at hb;split at hb
 ·cases hb
 ·rename_i e he;have hu:P.underlying t=some (.slice e):=by
   unfold elemOfSlice at he;split at he
   ·cases he;assumption
   ·cases he
  split at hb
  ·split at hb
   ·rename_i n a H1 hn hr;cases hb;have hcp:cp.toList=[]:=by
     generalize cp.toList=l at hp;cases hp;rfl
    obtain ⟨κ,X,h1,h2,h3,h4,_⟩:=newRow_born (P:=P) h hr hh (c:=#[]) .nil;refine ⟨κ,X,?_,.slice (fun _=>h4) (h4.imp fun _ x=>x.1) (Nat.le_refl _),h2,h3⟩;simp only [Instr.buildSlice,Sem.run_bind,run_underlying hu,Result.andThen_ok,run_sizeOf hn,Nat.zero_mul,if_true,hcp,Instr.fill];simp;rw [show (Array.map (fun _=>(default:Value)) (Array.range 0))=#[] by simp,h1];rfl
   ·cases hb
  split at hb
  ·rename_i n z hn hz;split at hb
   ·rename_i hc;simp only [Bool.and_eq_true,Nat.ble_eq] at hc;obtain ⟨⟨hc1,hc2⟩,hc3⟩:=hc
    replace hc3:=Nat.eq_of_beq_eq_true hc3
    split at hb
    ·rename_i cs hf;split at hb
     ·rename_i a H1 hr;cases hb;obtain ⟨it,zv,hit,hzv,hto⟩:=zeroOf_some hz;obtain ⟨it',hit',hsz⟩:=sizeOfT_some hn;rw [hit] at hit';cases hit';have hzr:VRels ι z.cells zv.cells.toList:=(toLV_rel ι _ _ _ hto).cells' (toLV_not_lost hto);have hzl:=hzr.len;have hzs:zv.cells.size=n:=by
       have:zv.cells.toList.length=zv.cells.size:=Array.length_toList;omega
      have hn0:0<n:=by
       rcases Nat.eq_zero_or_pos n with h |h
       ·subst h;simp at hc2
       ·exact h
      have h0:VRels ι (repl len z.cells []) ((Array.range (len*n)).map (fun i=>zv.cells[i%zv.cells.size]!)).toList:=by
       rw [repl_eq,List.append_nil,range_map_rep hzs hn0];exact hzr.rep len
      obtain ⟨d,hd1,hd2⟩:=fillL_rel hp h0 hf;obtain ⟨κ,X,h1,h2,h3,h4,_⟩:=newRow_born (P:=P) h hr hh hd2;refine ⟨κ,X,?_,.slice (fun _=>h4) (h4.imp fun _ x=>x.1) (Nat.le_refl _),h2,h3⟩;subst hsz;have:=run_buildSlice W t e len cp d it zv hu hit hzv (by omega) (by omega) hd1;rw [this];simp [Go.newRow] at h1;rw [<-h1]
     ·cases hb
    ·cases hb
   ·cases hb
  ·cases hb
end Go.Lm

/- The model catches up within a region whose order is open. -/
namespace Go.Lm
open Go.RowKit (Below)
section
variable {C:Cfg} {n0:Nat} {Kw:World->Prop} {ι:Gh} {H:LHeap} {W:World}
theorem convert_same{P:Program}{H H':LHeap}{src dst:TypeId}{x r:LV}(h:convertL P H src dst x=some (r,H'))(hE:∀e,P.underlying dst≠some (.slice e)):H'=H:=by
 unfold convertL at h;split at h
 ·rename_i s d hs hd;rw [hd] at hE;split at h
  all_goals first
   |(cases h;rfl;done)
   |(exact absurd rfl (hE _);done)
   |(repeat' split at h
     all_goals first
      |(cases h;rfl;done)
      |(cases h;done)
      |(exact absurd rfl (hE _);done))
 ·cases h
theorem pure_same{ρ:Operand->LV}{o:Oper}{outs:List (LNext×LHeap)}(h:opL C ρ H o=some outs)(hE:isE C.P o.op=false)(hA:isA o.op=false):∃v,outs=[(.value v,H)]:=by
 obtain ⟨dst,op,ty,pos,after,guard⟩:=o;cases op
 case convert s d x=>
  simp only [opL] at h;split at h
  ·rename_i z H' hz;cases h;have:=convert_same hz (fun e he=>by simp [isE,he] at hE);subst this;exact ⟨_,rfl⟩
  ·cases h
 case call c=>
  simp only [opL] at h;split at h
  ·rename_i b hb;split at h
   ·rename_i y hy;cases h;obtain ⟨z,H'⟩:=y;simp only [isE,hb] at hE;unfold builtinL at hy;cases b<;>simp only at hE hy<;>first
     |(cases hE;done)
     |(repeat' split at hy
       all_goals first
        |(cases hy;exact ⟨_,rfl⟩;done)
        |(cases hy;done))
   ·cases h
  ·rename_i hb;simp only [isE] at hE;split at hE<;>first
    |(cases hE;done)
    |(rename_i hcal;exact absurd hcal (hb _))
 all_goals first
  |(simp [isE] at hE;done)
  |(simp [isA] at hA;done)
  |(simp only [opL] at h
    repeat' split at h
    all_goals first
     |(cases h;exact ⟨_,rfl⟩;done)
     |(cases h;done))
theorem born_op(h:HRel ι H W n0){ρ:Operand->LV}{σ:Operand->Value}(hρ:∀x,VRel ι (ρ x) (σ x)){o:Oper}{H0 H1:LHeap}{v:LV}(hA:isA o.op=true)(hop:opL C ρ H0 o=some [(.value v,H1)])(hh:Here ι H H0 H1):
  ∃κ X u,(execOp σ o).run C.P W=.ok (.value u) X/\VRel κ v u/\HRel κ H X n0/\OnB ι W κ X n0 H0.next:=by
 obtain ⟨dst,op,ty,pos,after,guard⟩:=o;cases op<;>first |(simp [isA] at hA;done) |skip
 case alloc t=>
  simp only [opL] at hop;split at hop
  ·rename_i z hz;split at hop
   ·rename_i a H' hn;cases hop;obtain ⟨κ,X,q1,q2,q3,q4⟩:=allocL_born h hz hn hh (.tuple #[]);refine ⟨κ,X,_,?_,.ptr q4,q2,q3⟩;simp only [execOp,Sem.run_bind,q1,Result.andThen_ok,Sem.run_pure]
   ·cases hop
  ·cases hop
 case box t x=>
  simp only [opL] at hop;split at hop
  ·rename_i a H' hn;cases hop;obtain ⟨κ,X,q1,q2,q3,q4⟩:=boxL_born (P:=C.P) h (hρ x) hn hh;refine ⟨κ,X,_,?_,.ptr q4,q2,q3⟩;simp only [execOp,Sem.run_bind,q1,Result.andThen_ok,Sem.run_pure]
  ·cases hop
 case buildSlice t n parts=>
  simp only [opL] at hop;split at hop
  ·rename_i z H' hz;cases hop;obtain ⟨κ,X,q1,q2,q3,q4⟩:=buildSliceL_born (cp:=parts.map fun (i,x)=>(i,σ x)) h (by rw [Array.toList_map];exact parts_rel hρ _) hz hh;refine ⟨κ,X,_,?_,q2,q3,q4⟩;simp only [execOp,Sem.run_bind,q1,Result.andThen_ok,Sem.run_pure]
  ·cases hop
theorem value_steps{κ:Gh}{X:World}{v:LV}{r:Result Next}(ho:OutRel C.P κ X (.value v) r){g:Frame}{cs:List Frame}{sem:Sem Next}(hr:sem.run C.P W=r)
  (happly:stepG C.P true { frame:=g,callers:=cs,status:=.running,dying:=none } W=stepG.apply C.P true g cs none sem W) (hcall:∀d w r s k,g.todo≠.call d w r s::k):
  ∃u X2,Steps C.P (lone g cs W) (lone (g.finish u) cs X2)/\VRel κ v u/\Below X.heap.size X X2:=by
 cases ho with
 |value hv=>
  refine ⟨_,X,.one (step_lone_go ?_),hv,.refl _ _⟩;rw [happly];simp [stepG.apply,hr]
 |skip=>
  refine ⟨undef,X,.one (step_lone_go ?_),.tuple .nil,.refl _ _⟩;rw [happly];simp [stepG.apply,hr]
 |@call x ff a hc=>
  obtain ⟨e,X2,fr,⟨u,rfl,hv,hgrow⟩,hsteps,hfn,hleave⟩:=hc (g::cs);have henter:step C.P (lone g cs W)=.next (lone (Frame.enter C.P ff a .normal) (g::cs) X):=step_lone_go (by
   rw [happly];simp [stepG.apply,hr];split<;>first |rfl |exact absurd (by assumption) (hcall _ _ _ _ _))
  exact ⟨u,X2,.head henter (Steps.trans hsteps (.one (step_leave_returned hleave))),hv,hgrow⟩
theorem apply_op{g:Frame}{cs:List Frame}{ops:Array Oper}{i:Nat}{rest:List Nat}{k:List Item}{o:Oper}(hm:g.mode=.run)(ht:g.todo=.inRegion ops (i::rest)::k)(ho:ops[i]? =some o)
  (hw:Region.wanted o (yielded ops g.tmps)=true) (hd:g.roundOf=none\/∀c,o.op≠.defer c):
  stepG C.P true { frame:=g,callers:=cs,status:=.running,dying:=none } W=stepG.apply C.P true g cs none (execOp g.eval o) W:=by
 have h1:stepG C.P true { frame:=g,callers:=cs,status:=.running,dying:=none } W=stepG.oper C.P true g cs none W:=by
  simp [stepG,hm,stepG.exec,ht,ho,hw]
 rw [h1];unfold stepG.oper;have h2:g.oper? =some o:=by simp [Frame.oper?,ht,ho]
 rw [h2];simp only;split
 ·rename_i l c hr hop;rcases hd with hd |hd
  ·rw [hd] at hr;cases hr
  ·exact absurd hop (hd c)
 ·rfl
theorem skip_op{g:Frame}{cs:List Frame}{ops:Array Oper}{i:Nat}{rest:List Nat}{k:List Item}{o:Oper}(hm:g.mode=.run)(ht:g.todo=.inRegion ops (i::rest)::k)(ho:ops[i]? =some o)
  (hw:Region.wanted o (yielded ops g.tmps)=false):step C.P (lone g cs W)=.next (lone (g.finish undef) cs W):=
 step_lone_go (by simp [stepG,hm,stepG.exec,ht,ho,hw])
theorem nodup_inj{α β:Type}{f:α->β}:∀{l:List α},(l.map f).Nodup->∀{a b:α},a∈l->b∈l->f a=f b->a=b
 |[],_,_,_,h,_,_=>by cases h
 |x::l,hn,a,b,ha,hb,hf=>by
  rw [List.map_cons,List.nodup_cons] at hn;rcases List.mem_cons.1 ha with ha' |ha'
  ·rcases List.mem_cons.1 hb with hb' |hb'
   ·rw [ha',hb']
   ·rw [ha'] at hf;exact absurd (List.mem_map.2 ⟨b,hb',hf.symm⟩) hn.1
  ·rcases List.mem_cons.1 hb with hb' |hb'
   ·rw [hb'] at hf;exact absurd (List.mem_map.2 ⟨a,ha',hf⟩) hn.1
   ·exact nodup_inj hn.2 ha' hb' hf
theorem heapless{ρ:Operand->LV}{o:Oper}{H0:LHeap}{v:LV}(h:opL C ρ H0 o=some [(.value v,H0)])(hE:isE C.P o.op=false)(hA:isA o.op=false)(hr:readsH o.op=false)(H:LHeap):opL C ρ H o=some [(.value v,H)]:=by
 obtain ⟨dst,op,ty,pos,after,guard⟩:=o;cases op
 all_goals first
  |(simp [isE] at hE;done)
  |(simp [isA] at hA;done)
  |(simp [readsH] at hr;done)
  |(simp only [opL] at h |-
    repeat' split at h
    all_goals first
     |(cases h;done)
     |(simp_all;done))
theorem draw_one(hC:CfgOK C n0 Kw)(hKw:Kw W){us vs:List (Nat×Nat)}{ops:Array Oper}{tm0 tmps:List LV}{done pend D L:List Nat}{i:Nat}{k:List Item}{g:Frame}{cs:List Frame}(hm:g.mode=.run)(ht:g.todo=.inRegion ops (i::L)::k)
  (d:Draw C ι H us ops tm0 tmps done pend D (i::L) g.tmps.toList) (hi:i∈done) (hW:HRel ι H W n0) (hg:GlobOK C ι) (hchk:againOk C H ops (bf ops) tm0 tmps i=true)
  (hnd:((us++vs).map (·.2)).Nodup) (hfar:∀p∈us++vs,p.2<H.next/\∀u,ι p.2 u=none):
  ∃κ X u,Steps C.P (lone g cs W) (lone (g.finish u) cs X)/\HRel κ H X n0/\Beside (us.filter (fun p=>p.1 != i)++vs) ι H κ H/\Below n0 W X/\
   Draw C κ H (us.filter (fun p=>p.1 != i)) ops tm0 tmps done pend (i::D) L (g.finish u).tmps.toList:=by
 obtain ⟨o,ho,hn,hdep,hs⟩:=d.sched.tail;have hE:isE C.P o.op=false:=by
  cases h:isE C.P o.op with
  |false=>rfl
  |true=>exact absurd (d.eff i hi o ho h) hn
 have hbD:∀j∈befOf (bf ops) i,j∈D:=by
  intro j hj;obtain ⟨e,he,hbe,h3⟩:=(mem_bef ho).1 hj;rcases h3 with rfl |⟨_,h3⟩
  ·exact hdep e he hbe
  ·exact d.cD.bef e.on (hdep e he hbe) _ h3
 have hlen:tmps.length=g.tmps.size:=d.len.trans Array.length_toList;have hwant:∀{b:Bool},wantedL ops tmps o=some b->Region.wanted o (yielded ops g.tmps)=b:=fun hw=>
  wanted_rel hlen (fun gg w p dd hgd hp hd x v hx hv=>d.new dd gg x v (d.ok.wr gg p dd hp hd) (hbD gg (d.ok.guard i o gg w ho hgd)) hx (by rw [Array.getElem?_toList];exact hv)) hw
 have hfin:∀u,(g.finish u).tmps.toList=putG ops i g.tmps.toList u:=fun u=>by rw [finish_tmps ht]
 have hview:=d.view hg ho hn hdep (σ:=g.eval) (fun t=>by simp only [Frame.eval,Array.getD_eq_getD_getElem?,Array.getElem?_toList]) (fun _=>rfl) (fun _=>rfl) (fun _=>rfl);have hcall:∀d w r s k,g.todo≠.call d w r s::k:=fun _ _ _ _ _ h=>by rw [ht] at h;cases h
 have hndf:g.roundOf=none\/∀c,o.op≠.defer c:=.inr fun c h=>by rw [h] at hE;simp [isE] at hE
 have fin:∀{κ:Gh} {X:World} {u:Value},Steps C.P (lone g cs W) (lone (g.finish u) cs X)->HRel κ H X n0->Beside (us.filter (fun p=>p.1 != i)++vs) ι H κ H->Below n0 W X->
   (∀dd y,o.dst=some dd->tmps[dd]? =some y->VRel κ y u)->∃κ X u,Steps C.P (lone g cs W) (lone (g.finish u) cs X)/\HRel κ H X n0/\Beside (us.filter (fun p=>p.1 != i)++vs) ι H κ H/\Below n0 W X/\
   Draw C κ H (us.filter (fun p=>p.1 != i)) ops tm0 tmps done pend (i::D) L (g.finish u).tmps.toList:=by
  intro κ X u h1 h2 h3 h4 h5;refine ⟨κ,X,u,h1,h2,h3,h4,?_⟩;rw [hfin];exact d.model hi h3.left (fun o' dd y ho' hd hy=>by rw [ho] at ho';cases ho';exact h5 dd y hd hy)
 obtain ⟨b,v1,v2,v3⟩:=d.vals i hi hn o ho hE;cases b with
 |false=>
  refine fin (.one (skip_op hm ht ho (hwant v1))) hW (Beside.refl _ _ _) (Below.refl _ _) fun dd y hd hy=> ?_;have hlt:dd<tmps.length:=(List.getElem?_eq_some_iff.1 hy).1;rw [v2 rfl dd hd hlt] at hy;cases hy;exact .tuple .nil
 |true=>
  have hw:=v1;have happly:=apply_op (C:=C) (W:=W) (cs:=cs) hm ht ho (hwant hw) hndf;by_cases hA:isA o.op=true
  ·
   obtain ⟨id,v,h1,h2,h3⟩:=d.waits i hi hn o ho hA hw;obtain ⟨H0,H1,rfl,hop,hget⟩:=h3.made;obtain ⟨κ,X,u,q1,q2,q3,q4⟩:=born_op hW hview hA hop ⟨h3.fresh,h3.lt,hget⟩;refine fin (u:=u) (.one (step_lone_go ?_)) q3 ⟨q4.le,Nat.le_refl _,fun p hp hf hl=>⟨rfl,fun u=> ?_⟩⟩ q4.below fun dd y hd hy=> ?_
   ·rw [happly];simp [stepG.apply,q1]
   ·have hne:p.2≠H0.next:=by
     intro he;have h1':(i,H0.next)∈us++vs:=List.mem_append_left _ h1;have hp':p∈us++vs:=by
      rcases List.mem_append.1 hp with hp |hp
      ·exact List.mem_append_left _ (List.mem_filter.1 hp).1
      ·exact List.mem_append_right _ hp
     have:=nodup_inj hnd hp' h1' he;subst this;rcases List.mem_append.1 hp with hp |hp
     ·have:=(List.mem_filter.1 hp).2;simp at this
     ·rw [List.map_append,List.nodup_append] at hnd;exact hnd.2.2 _ (List.mem_map.2 ⟨_,h1,rfl⟩) _ (List.mem_map.2 ⟨_,hp,rfl⟩) rfl
    rw [q4.other _ _ hne];exact hf u
   ·have hlt:dd<tmps.length:=(List.getElem?_eq_some_iff.1 hy).1;rw [h2 dd hd hlt] at hy;cases hy;exact q2
  ·have key:∀{v:LV} {H':LHeap},opL C (viewL C ops (bf ops) i tm0 tmps) H o=some [(.value v,H')]->(∀dd y,o.dst=some dd->tmps[dd]? =some y->y=v)->
     ∃κ X u,Steps C.P (lone g cs W) (lone (g.finish u) cs X)/\HRel κ H X n0/\Beside (us.filter (fun p=>p.1 != i)++vs) ι H κ H/\Below n0 W X/\
     Draw C κ H (us.filter (fun p=>p.1 != i)) ops tm0 tmps done pend (i::D) L (g.finish u).tmps.toList:=by
    intro v H' hop hval;obtain ⟨v',hv'⟩:=pure_same hop hE (by simpa using hA);cases hv';obtain ⟨y,hy,κ,X,q1,q2,q3⟩:=opL_rel hC hKw hW hview hop (fun y hy f x he=>by
     rw [List.mem_singleton.1 hy] at he;cases he)
    rw [List.mem_singleton.1 hy] at q1 q2 q3;obtain ⟨u,X2,s1,s2,s3⟩:=value_steps q3 rfl happly hcall;have hon2:On κ H X κ H X2 n0:=.grow q1.size s3;exact fin s1 (q1.grow s3) (Beside.of_on (q2.trans hon2)) (q2.below.trans hon2.below) fun dd y hd hy=>by
     rw [hval dd y hd hy];exact s2
   by_cases hr:readsH o.op=true
   ·unfold againOk at hchk;rw [ho] at hchk;have hA':isA o.op=false:=by simpa using hA
    simp only [hE,hA',hr,Bool.or_self,Bool.not_true,Bool.false_eq_true,if_false,hw] at hchk;split at hchk
    ·rename_i v H' hop hd;exact key hop fun dd y hd' _=>by rw [hd] at hd';cases hd'
    ·rename_i v H' d' hop hd;refine key hop fun dd y hd' hy=> ?_;rw [hd] at hd';cases hd';simp only [nth_eq,hy] at hchk;exact (LV.beq_eq _ _ hchk).symm
    ·cases hchk
   ·obtain ⟨v,H0,w1,w2⟩:=v3 rfl (by simpa using hA) (by simpa using hr);refine key (heapless w1 hE (by simpa using hA) (by simpa using hr) H) fun dd y hd hy=> ?_;have hlt:dd<tmps.length:=(List.getElem?_eq_some_iff.1 hy).1;rw [w2 dd hd hlt] at hy;cases hy;rfl
theorem Beside.trans{us:List (Nat×Nat)}{ι κ μ:Gh}{H I J:LHeap}(h:Beside us ι H κ I)(k:Beside us κ I μ J):Beside us ι H μ J:=
 ⟨h.le.trans k.le,Nat.le_trans h.next k.next,fun p hp hf hl=>by
  obtain ⟨a,b⟩:=h.keep p hp hf hl;obtain ⟨c,d⟩:=k.keep p hp b (Nat.lt_of_lt_of_le hl h.next);exact ⟨c.trans a,d⟩⟩
theorem Beside.sub{us vs:List (Nat×Nat)}{ι κ:Gh}{H K:LHeap}(hs:∀p∈vs,p∈us)(h:Beside us ι H κ K):Beside vs ι H κ K:=⟨h.le,h.next,fun p hp=>h.keep p (hs p hp)⟩
theorem draw_catch(hC:CfgOK C n0 Kw){ops:Array Oper}{tm0 tmps:List LV}{done pend:List Nat}{k:List Item}{cs:List Frame}{vs:List (Nat×Nat)}:∀(L:List Nat) {D:List Nat} {us:List (Nat×Nat)} {g:Frame} {W:World} {ι:Gh},g.mode=.run->g.todo=.inRegion ops L::k->
  Draw C ι H us ops tm0 tmps done pend D L g.tmps.toList->HRel ι H W n0->Kw W->GlobOK C ι->(∀i∈done,i∉D->againOk C H ops (bf ops) tm0 tmps i=true)->
  ((us++vs).map (·.2)).Nodup->(∀p∈us++vs,p.2<H.next/\∀u,ι p.2 u=none)->
  ∃κ X ct us' D' L',Steps C.P (lone g cs W) (lone { g with tmps:=ct,todo:=.inRegion ops L'::k } cs X)/\HRel κ H X n0/\Below n0 W X/\Draw C κ H us' ops tm0 tmps done pend D' L' ct.toList/\Beside (us'++vs) ι H κ H/\
   ((us'++vs).map (·.2)).Nodup/\(∀p∈us',p∈us)/\(∀e r,L'=e::r->e∉done)
 |[],D,us,g,W,ι,hm,ht,d,hW,hKw,hg,hchk,hnd,hfar=>by
  refine ⟨ι,W,g.tmps,us,D,[],?_,hW,.refl _ _,d,.refl _ _ _,hnd,fun _ h=>h,fun _ _ h=>by cases h⟩;rw [<-ht];exact .refl _ _
 |i::L,D,us,g,W,ι,hm,ht,d,hW,hKw,hg,hchk,hnd,hfar=>by
  by_cases hi:i∈done
  ·obtain ⟨o,ho,hn,_,_⟩:=d.sched.tail;obtain ⟨κ,X,u,s1,s2,s3,s4,s5⟩:=draw_one (cs:=cs) hC hKw hm ht d hi hW hg (hchk i hi hn) hnd hfar;have hsub:∀p∈us.filter (fun p=>p.1 != i)++vs,p∈us++vs:=by
    intro p hp;rcases List.mem_append.1 hp with hp |hp
    ·exact List.mem_append_left _ (List.mem_filter.1 hp).1
    ·exact List.mem_append_right _ hp
   have hfin:=finish_tmps ht u;obtain ⟨μ,Y,ct,us',D',L',t1,t2,t3,t4,t5,t6,t7,t8⟩:=draw_catch hC L (g:=g.finish u) (by rw [hfin];exact hm) (by rw [hfin]) s5 s2 (hC.keep _ _ hKw s4) (hg.mono s3.le)
    (fun j hj hjD=>hchk j hj (fun h=>hjD (List.mem_cons_of_mem _ h)))
    (List.Nodup.sublist (List.Sublist.map _ (List.filter_sublist.append (.refl _))) hnd)
    (fun p hp=>⟨(hfar p (hsub p hp)).1,(s3.keep p hp (hfar p (hsub p hp)).2 (hfar p (hsub p hp)).1).2⟩)
   refine ⟨μ,Y,ct,us',D',L',?_,t2,s4.trans t3,t4,(s3.sub fun p hp=> ?_).trans t5,t6,fun p hp=>(List.mem_filter.1 (t7 p hp)).1,t8⟩
   ·have:({ g.finish u with tmps:=ct,todo:=.inRegion ops L'::k }:Frame)={ g with tmps:=ct,todo:=.inRegion ops L'::k }:=by rw [hfin]
    rw [this] at t1;exact s1.trans t1
   ·rcases List.mem_append.1 hp with hp |hp
    ·exact List.mem_append_left _ (t7 p hp)
    ·exact List.mem_append_right _ hp
  ·refine ⟨ι,W,g.tmps,us,D,i::L,?_,hW,.refl _ _,d,.refl _ _ _,hnd,fun _ h=>h,fun e r h=>by cases h;exact hi⟩;rw [<-ht];exact .refl _ _
theorem lastE_some{P:Program}{ops:Array Oper}:∀{l:List Nat} {e:Nat},lastE P ops l=some e->e∈l/\∃o,ops[e]? =some o/\isE P o.op=true
 |[],_,h=>by simp [lastE] at h
 |i::l,e,h=>by
  unfold lastE at h;split at h
  ·rename_i o ho;split at h
   ·rename_i hE;cases h;exact ⟨List.mem_cons_self,o,ho,hE⟩
   ·obtain ⟨h1,h2⟩:=lastE_some h;exact ⟨List.mem_cons_of_mem _ h1,h2⟩
  ·obtain ⟨h1,h2⟩:=lastE_some h;exact ⟨List.mem_cons_of_mem _ h1,h2⟩
theorem check_all{us:List (Nat×Nat)}{ops:Array Oper}{tm0 tmps:List LV}{done pend D L:List Nat}{ct:List Value}(d:Draw C ι H us ops tm0 tmps done pend D L ct)(hc:checkOk C H ops (bf ops) tm0 tmps done=true):
  ∀i∈done,i∉D->againOk C H ops (bf ops) tm0 tmps i=true:=by
 intro i hi hn;unfold checkOk at hc;simp only [List.all_eq_true] at hc;have:=hc i hi;rw [Bool.or_eq_true] at this;rcases this with h |h
 ·split at h
  ·rename_i e he;obtain ⟨h1,o,ho,hE⟩:=lastE_some he;exact absurd (d.cD.bef e (d.eff e h1 o ho hE) i ((memN_iff _ _).1 h)) hn
  ·simp [memN] at h
 ·exact h
theorem Draw.over{us:List (Nat×Nat)}{ops:Array Oper}{tm0 tmps:List LV}{done D:List Nat}{ct:List Value}(d:Draw C ι H us ops tm0 tmps done [] D [] ct):VRels ι tmps ct:=by
 refine VRels.iff.2 ⟨d.len,fun t x v hx hv=> ?_⟩;cases hw:writer ops.toList 0 t with
 |none=>
  rw [d.same t (fun j hj=>by rw [hw] at hj;cases hj)] at hx;exact d.old t x v (fun j hj=>by rw [hw] at hj;cases hj) hx hv
 |some j=>
  obtain ⟨o,ho,_⟩:=writer_dst hw;have hj:j<ops.size:=(Array.getElem?_eq_some_iff.1 ho).1;have hD:j∈D:=by
   cases d.sched with
   |nil all=>exact all j hj
  exact d.new t j x v hw hD hx hv
theorem Draw.next{us:List (Nat×Nat)}{ops:Array Oper}{tm0 tmps:List LV}{done r D L:List Nat}{e:Nat}{ct:List Value}(d:Draw C ι H us ops tm0 tmps done (e::r) D L ct){o:Oper}(ho:ops[e]? =some o)(hdep:depsIn o done=true)
  (hno:pickNext C.P ops done (e::r)=none) (hL:∀i l,L=i::l->i∉done):∃l,L=e::l:=by
 have he:e∉done:=fun h=>d.apart e h List.mem_cons_self;have heD:e∉D:=fun h=>he (d.sub e h);have hE:isE C.P o.op=true:=by
  cases hx:isE C.P o.op with
  |true=>rfl
  |false=>
   have:=pickNext_none d.bound hno e List.mem_cons_self o ho hx;rw [hdep] at this;cases this
 cases L with
 |nil=>
  rcases d.sched.mem e (d.bound e List.mem_cons_self) with h |h
  ·exact absurd h heD
  ·cases h
 |cons i l=>
  have hi:=hL i l rfl;obtain ⟨p,hp,hn,hd,_⟩:=d.sched.tail;have hip:i∈e::r:=by
   rcases d.cover i (Array.getElem?_eq_some_iff.1 hp).1 with h |h
   ·exact absurd h hi
   ·exact h
  have hEp:isE C.P p.op=true:=by
   cases hx:isE C.P p.op with
   |true=>rfl
   |false=>
    have:=pickNext_none d.bound hno i hip p hp hx;rw [depsIn_iff.2 (fun ed hed hb=>d.sub _ (hd ed hed hb))] at this;cases this
  rcases Nat.lt_trichotomy i e with h |h |h
  ·have hm:=d.ok.eff e i o p ho hp hE hEp h;obtain ⟨ed,hed,hb,h3⟩:=(mem_bef ho).1 hm;have hdn:=depsIn_iff.1 hdep ed hed hb;rcases h3 with rfl |⟨_,h3⟩
   ·exact absurd hdn hi
   ·exact absurd (d.cl.bef _ hdn _ h3) hi
  ·exact ⟨l,by rw [h]⟩
  ·have hm:=d.ok.eff i e p o hp ho hEp hE h;obtain ⟨ed,hed,hb,h3⟩:=(mem_bef hp).1 hm;have hdn:=hd ed hed hb;rcases h3 with rfl |⟨_,h3⟩
   ·exact absurd hdn heD
   ·exact absurd (d.cD.bef _ hdn _ h3) heD
end
end Go.Lm

/- Each step of this machine is the model's. -/
namespace Go.Lm
open Go.RowKit (Below)
section
variable {C:Cfg} {n0:Nat} {ι:Gh} {H:LHeap} {W:World}
structure Now (C:Cfg) (n0:Nat) (ι:Gh) (H:LHeap) (us vs:List (Nat×Nat)) (f:LFrame) (g:Frame) (fs:List LFrame) (gs:List Frame) (W:World):Prop where
 heap:HRel ι H W n0
 glob:GlobOK C ι
 frame:FRel C ι H us true f g
 stack:Stack C ι H vs fs gs
 nodup:((us++vs).map (·.2)).Nodup
 far:∀p∈us++vs,p.2<H.next/\∀u,ι p.2 u=none
theorem Now.sim{us vs:List (Nat×Nat)}{f:LFrame}{g:Frame}{fs:List LFrame}{gs tail:List Frame}(h:Now C n0 ι H us vs f g fs gs W):MSim C n0 tail ι ⟨f,fs,H⟩ g (gs++tail) W:=
 ⟨h.heap,h.glob,us,vs,gs,rfl,h.frame,h.stack,h.nodup,h.far⟩
theorem exitTo_rel(id:Nat):∀{k:List LItem} {k':List Item},Rels (ItemRel ι) k k'->match exitToL id k with
  |some r=>∃r',exitTo id k'=some r'/\Rels (ItemRel ι) r r'
  |none=>exitTo id k'=none
 |_,_,.nil=>rfl
 |_,_,.cons h t=>by
  have ih:=exitTo_rel id t;cases h
  case inBlock i=>
   simp only [exitToL,exitTo];by_cases hi:i=id
   ·subst hi;simp only [Nat.beq_refl,if_true,beq_self_eq_true];exact ⟨_,rfl,t⟩
   ·have h1:Nat.beq i id=false:=by
     rw [Bool.eq_false_iff];exact fun hb=>hi (Nat.eq_of_beq_eq_true hb)
    have h2:(i==id)=false:=by simpa using hi
    simp only [h1,h2,Bool.false_eq_true,if_false];exact ih
  all_goals exact ih
theorem gotoIn_rel(l:Nat):∀{k:List LItem} {k':List Item},Rels (ItemRel ι) k k'->match gotoInL l k with
  |some r=>∃r',gotoIn l k'=some r'/\Rels (ItemRel ι) r r'
  |none=>gotoIn l k'=none
 |_,_,.nil=>rfl
 |_,_,.cons h t=>by
  have ih:=gotoIn_rel l t;cases h
  case inScope body=>
   simp only [gotoInL,gotoIn];cases findLabel body l with
   |some rest=>exact ⟨_,rfl,.cons (.code rest) (.cons (.inScope body) t)⟩
   |none=>exact ih
  all_goals exact ih
theorem leave_sim{us vs:List (Nat×Nat)}{f:LFrame}{g:Frame}{fs:List LFrame}{gs tail:List Frame}(h:Now C n0 ι H us vs f g fs gs W)(hm:f.mode=.run)(hgm:g.mode=.run)(hus:us=[])(ht:VRels ι f.tmps g.tmps.toList)(jump:Option Code)
  (hstep:stepG C.P true { frame:=g,callers:=gs++tail,status:=.running,dying:=none } W=(match g.roundOf with
    |none=>if jump matches none |some .ret then .go { frame:={ g with mode:=.returning },callers:=gs++tail,status:=.running,dying:=none } W else .ended (.stuck "exit, goto: no such block or label" (g.pos C.P)) W
    |some l=>
     let (r,es):=(Instr.endRound l jump).runT C.P W #[]
     GStep.after (seen C.P g.fn es)<|match r with
     | .ok v w=>doReturn C.P true g (gs++tail) none v w
     | .halt _ w=>.ended (.stuck "range over a function: no such loop" (g.pos C.P)) w))
  {s:LState} (hs:leaveL f fs H jump=some s):Goes C n0 tail [s] g (gs++tail) W:=by
 unfold leaveL at hs;have hr:=h.frame.round;split at hs
 ·rename_i hro;rw [hro] at hr;rw [hr] at hstep;have key:jump=none\/jump=some .ret->s=⟨{ f with mode:=.returning },fs,H⟩->Goes C n0 tail [s] g (gs++tail) W:=by
   rintro hj rfl;have hF:FRel C ι H [] true { f with mode:=.returning } { g with mode:=.returning }:=⟨h.frame.fn,h.frame.func,h.frame.defers,h.frame.kind,h.frame.round,.returning rfl rfl ht rfl⟩;subst hus;refine ⟨_,List.mem_singleton.2 rfl,ι,_,_,W,.one (step_lone_go ?_),⟨h.heap,h.glob,[],vs,gs,rfl,hF,h.stack,h.nodup,h.far⟩,.refl _ _⟩;rw [hstep];rcases hj with rfl |rfl<;>simp [hr]
  split at hs
  ·cases hs;exact key (.inl rfl) rfl
  ·cases hs;exact key (.inr rfl) rfl
  ·cases hs
 ·rename_i l hro;rw [hro] at hr;obtain ⟨lo,hlo,hgr⟩:=hr;rw [hgr] at hstep;split at hs
  ·cases hs
  rename_i hdef;split at hs
  ·rename_i r hloop;have hg:H.get l=some (.loop r):=by
    unfold loopOf at hloop;split at hloop
    ·cases hloop;assumption
    ·cases hloop
   obtain ⟨b,hb,hp⟩:=plain_at h.heap hlo hg rfl;cases hp with |@loop _ b hrel=>
   split at hs
   ·rename_i c rest;simp only [Option.map_eq_some_iff] at hs;obtain ⟨c',hc',rfl⟩:=hs;have hst:=h.stack;cases hst with |@cons ws xs _ d _ gs' hF t=>
    obtain ⟨q1,q2⟩:=h.heap.put_plain hlo hg rfl (o':=.loop { r with state:=if jump.isNone then .ready else .done,pending:=jump }) rfl
     (b:=.loop { b with state:=if jump.isNone then .ready else .done,pending:=jump }) (.loop ⟨rfl,rfl,hrel.fn,hrel.tmps,hrel.params,hrel.assign,hrel.body,hrel.defers⟩)
    have hrun:(Instr.endRound lo.blk jump).run C.P W=.ok (.bool jump.isNone) { W with heap:=W.heap.setIfInBounds lo.blk (.loop { b with state:=if jump.isNone then .ready else .done,pending:=jump }) }:=by
     simp only [Instr.endRound,Instr.getLoop,Sem.run_bind,run_getObj hb (by intros;simp),Result.andThen_ok,Sem.run_pure,run_setObj hb (by intros;simp)]
    subst hus;have hbs:Beside (ws++xs) ι H ι (H.put l (.loop { r with state:=if jump.isNone then .ready else .done,pending:=jump })):=Beside.of_on q2;have hkind:g.kind=.normal:=by rw [h.frame.kind,if_neg hdef]
    refine ⟨_,List.mem_singleton.2 rfl,ι,_,_,_,.one (step_lone_go ?_),⟨q1,h.glob,ws,xs,gs',rfl,(hF.mono hbs.left).finish (.bool _) hc',t.mono hbs.right,h.nodup,fun p hp=>⟨Nat.lt_of_lt_of_le (h.far p hp).1 hbs.next,(h.far p hp).2⟩⟩,q2.below⟩;rw [hstep];simp only [Sem.runT_eq,hrun,GStep.bare_after,List.cons_append,doReturn,hkind];rfl
   ·cases hs
  ·cases hs
end
end Go.Lm

/- Frames on their way out. -/
namespace Go.Lm
open Go.RowKit (Below)
section
variable {C:Cfg} {n0:Nat} {Kw:World->Prop} {ι:Gh} {H:LHeap} {W:World}
def resF(ct:Array Value):ResultVar->Sem Value
 | .tmp t=>pure (ct.getD t undef)
 | .cell a t=>do loadVar t (<-asAddr (ct.getD a undef))
theorem results_list(h:HRel ι H W n0)(hg:GlobOK C ι){tmps:List LV}{ct:Array Value}(ht:VRels ι tmps ct.toList):∀(rs:List ResultVar) {vs:List LV},mapO (resL C H tmps) rs=some vs->
  ∃us:List Value,(rs.mapM (resF ct)).run C.P W=.ok us W/\VRels ι vs us
 |[],vs,h'=>by
  simp [mapO] at h';subst h';exact ⟨[],rfl,.nil⟩
 |r::rs,vs,h'=>by
  have hev:∀t,VRel ι (evalL C tmps (.tmp t)) (ct.getD t undef):=fun t=>eval_rel (g:={ (default:Frame) with tmps:=ct }) hg ht (.tmp t);unfold mapO at h';split at h'
  ·cases h'
  ·rename_i b hb;split at h'
   ·cases h'
   ·rename_i bs hbs;cases h';obtain ⟨us,q1,q2⟩:=results_list h hg ht rs hbs;have one:∃u,(resF ct r).run C.P W=.ok u W/\VRel ι b u:=by
     cases r with
     |tmp t=>
      simp only [resL,Option.some.injEq] at hb;subst hb;exact ⟨_,rfl,hev t⟩
     |cell a t=>
      simp only [resL] at hb;have ha:=hev a;split at hb
      ·rename_i a' e;rw [e] at ha;cases hs:ct.getD a undef with
       |pointer p=>
        rw [hs] at ha;cases ha with |ptr hp=>
        obtain ⟨v,w1,w2⟩:=loadT_rel h hp hb;refine ⟨v,?_,w1⟩;simp only [resF,hs,asAddr,Sem.run_bind,Sem.run_pure,Result.andThen_ok,w2]
       |_=>rw [hs] at ha;cases ha
      ·cases hb
    obtain ⟨u,w1,w2⟩:=one;refine ⟨u::us,?_,.cons w2 q2⟩;rw [List.mapM_cons,Sem.run_bind,w1,Result.andThen_ok,Sem.run_bind,q1,Result.andThen_ok];rfl
theorem results_rel(h:HRel ι H W n0)(hg:GlobOK C ι){tmps:List LV}{ct:Array Value}(ht:VRels ι tmps ct.toList){fn:Func}{vs:List LV}(hr:mapO (resL C H tmps) fn.results.toList=some vs):
  ∃u,(results fn ct).run C.P W=.ok u W/\VRel ι (resV vs) u:=by
 obtain ⟨us,q1,q2⟩:=results_list h hg ht _ hr;have hrun:(results fn ct).run C.P W=.ok (if h:us.toArray.size=1 then us.toArray[0] else .tuple us.toArray) W:=by
  have hdef:results fn ct=(do
   let vs <-fn.results.mapM (resF ct)
   pure (if h:vs.size=1 then vs[0] else .tuple vs)):=rfl
  rw [hdef,Array.mapM_eq_mapM_toList,map_eq_pure_bind,Sem.run_bind,Sem.run_bind,q1];rfl
 refine ⟨_,hrun,?_⟩;cases q2 with
 |nil=>exact .tuple .nil
 |cons h1 t=>
  cases t with
  |nil=>exact h1
  |cons h2 t=>exact .tuple (.cons h1 (.cons h2 t))
theorem Todo.up{us:List (Nat×Nat)}{tmps:List LV}{k:List LItem}{ct:List Value}{k':List Item}(h:Todo C ι H us false tmps k ct k'):Todo C ι H us true tmps k ct k':=by
 cases h with
 |plain a b=>exact .plain a b
 |drawn hd hk hc hp=>
  obtain ⟨e,r,r',_,_,_,hst⟩:=hp rfl;exact .drawn hd hk (fun _ h=>by rw [hst] at h;cases h) (fun h=>by cases h)
theorem FRel.up{us:List (Nat×Nat)}{f:LFrame}{g:Frame}(h:FRel C ι H us false f g):FRel C ι H us true f g:=⟨h.fn,h.func,h.defers,h.kind,h.round,by
 cases h.mode with
 |run h1 h2 t=>exact .run h1 h2 t.up
 |returning h1 h2 t hu=>exact .returning h1 h2 t hu
 |panicking h1 h2 hc t hu=>exact .panicking h1 h2 hc t hu⟩
theorem FRel.defers_out{us:List (Nat×Nat)}{top top':Bool}{f:LFrame}{g:Frame}(h:FRel C ι H us top f g)(hm:f.mode≠.run){ds:List LDef}{es:List Deferred}(hd:Rels (DefRel ι) ds es):FRel C ι H us top' { f with defers:=ds } { g with defers:=es }:=
 ⟨h.fn,h.func,hd,h.kind,h.round,by
 cases h.mode with
 |run h1 h2 t=>exact absurd h1 hm
 |returning h1 h2 t hu=>exact .returning h1 h2 t hu
 |panicking h1 h2 hc t hu=>exact .panicking h1 h2 hc t hu⟩
theorem step_out{P:Program}{fr:Frame}{cs:List Frame}{w w':World}{d:Deferred}{ds:List Deferred}{fv:Fn}{cap:Array Value}{f:FuncId}
  {args:Array Value} (hm:fr.mode≠.run) (hd:fr.defers=d::ds) (ht:d.target=.fn fv cap) (hi:(invoke d.target d.args).run P w=.ok (.enter f args) w'):
  step P (lone fr cs w)=.next (lone (Frame.enter P f args .deferred) ({ fr with defers:=ds }::cs) w'):=by
 obtain ⟨t,a⟩:=d;simp only at ht hi;subst ht;refine step_lone_go ?_;cases hmode:fr.mode with
 |run=>exact absurd hmode hm
 |returning=>simp [stepG,unwind,callDeferred,hmode,hd,hi]
 |panicking chain=>simp [stepG,unwind,callDeferred,hmode,hd,hi]
theorem settle_rel{us:List (Nat×Nat)}{c:LFrame}{d:Frame}(h:FRel C ι H us false c d):∃us',(us'=us\/us'=[])/\FRel C ι H us' true (settleL c) { d with mode:=settle d.mode }:=by
 have same:settleL c=c->settle d.mode=d.mode->∃us',(us'=us\/us'=[])/\FRel C ι H us' true (settleL c) { d with mode:=settle d.mode }:=by
  intro h1 h2;rw [h1,h2];exact ⟨us,.inl rfl,h.up⟩
 cases h.mode with
 |run h1 h2 t=>exact same (by simp [settleL,h1]) (by simp [settle,h2])
 |returning h1 h2 t hu=>exact same (by simp [settleL,h1]) (by simp [settle,h2])
 |panicking h1 h2 hc t hu=>
  cases hc with
  |nil=>exact same (by simp [settleL,h1]) (by simp [settle,h2])
  |@cons v u r l m hv hc=>
   cases r with
   |false=>exact same (by simp [settleL,h1]) (by simp [settle,h2])
   |true=>
    have e1:settleL c={ c with mode:=.returning }:=by simp [settleL,h1]
    have hdrop:∀{l:List LEntryP} {m:List PanicEntry},ChainRel ι l m->m.dropWhile (!·.goexit)=[]:=by
     intro l m h;induction h with
     |nil=>rfl
     |cons _ _ ih=>simpa using ih
    have e2:settle d.mode=.returning:=by
     rw [h2];simp only [settle,hdrop hc]
    rw [e1,e2];exact ⟨[],.inr rfl,⟨h.fn,h.func,h.defers,h.kind,h.round,.returning rfl rfl t rfl⟩⟩
theorem unwind_sim(hC:CfgOK C n0 Kw)(hKw:Kw W){us vs:List (Nat×Nat)}{f:LFrame}{g:Frame}{fs:List LFrame}{gs tail:List Frame}(h:Now C n0 ι H us vs f g fs gs W)(hm:f.mode≠.run){l:List LState}(hs:lstep C ⟨f,fs,H⟩=some l):
  Goes C n0 tail l g (gs++tail) W:=by
 have hgm:g.mode≠.run:=by
  cases h.frame.mode with
  |run h1=>exact absurd h1 hm
  |returning _ h2=>rw [h2];simp
  |panicking _ h2=>rw [h2];simp
 have hus:us=[]:=by
  cases h.frame.mode with
  |run h1=>exact absurd h1 hm
  |returning _ _ _ hu=>exact hu
  |panicking _ _ _ _ hu=>exact hu
 subst hus;have ht:VRels ι f.tmps g.tmps.toList:=by
  cases h.frame.mode with
  |run h1=>exact absurd h1 hm
  |returning _ _ t _=>exact t
  |panicking _ _ _ t _=>exact t
 have hs':unwindL C ⟨f,fs,H⟩=some l:=by
  cases hmode:f.mode with
  |run=>exact absurd hmode hm
  |_=>simpa only [lstep,hmode] using hs
 replace hs:=hs'
 unfold unwindL at hs;simp only at hs
 ·have hdef:=h.frame.defers;split at hs
  ·rename_i d ds hd;rw [hd] at hdef;generalize hgd:g.defers=gd at hdef;cases hdef with
   |@cons _ e _ es hde hds=>
   split at hs
   ·rename_i r hr;split at hs
    ·rename_i calls hg;cases hs;have htg:=hde.target;rw [hr] at htg;generalize het:e.target=et at htg;cases htg with |@collected _ lo hlo=>
     obtain ⟨b,hb,hp⟩:=plain_at h.heap hlo hg rfl;cases hp with |@deferred _ ecs hcs=>
     obtain ⟨q1,q2⟩:=h.heap.put_plain hlo hg rfl (o':=.deferred none) rfl (b:=.deferred none) .deferredNone;have hrun:(Instr.takeDeferred lo.blk).run C.P W=.ok ecs { W with heap:=W.heap.setIfInBounds lo.blk (.deferred none) }:=by
      simp only [Instr.takeDeferred,Sem.run_bind,run_getObj hb (by intros;simp),Result.andThen_ok,run_setObj hb (by intros;simp),Sem.run_pure]
     have hbs:Beside ([]++vs) ι H ι (H.put r (.deferred none)):=Beside.of_on q2;refine ⟨_,List.mem_singleton.2 rfl,ι,_,_,_,.one (step_collected hgm hgd het hrun),⟨q1,h.glob,[],vs,gs,rfl,?_,h.stack.mono hbs.right,h.nodup,fun p hp=>⟨Nat.lt_of_lt_of_le (h.far p hp).1 hbs.next,(h.far p hp).2⟩⟩,q2.below⟩;have:=h.frame.defers_out (top':=false) hm (hcs.append hds);exact (this.mono hbs.left).up
    ·cases hs
   ·rename_i fn cap hr;split at hs
    ·rename_i ff args H' hinv;split at hs
     ·rename_i g2 hen;cases hs;have htg:=hde.target;rw [hr] at htg;generalize het:e.target=et at htg;cases htg with |@fn _ fv _ cv hfv hcv=>
      obtain ⟨y,hy,κ,X,q1,q2,q3⟩:=invokeL_rel hC hKw h.heap (.fn hfv hcv) hde.args hinv (fun y hy f x he=>by
       rw [List.mem_singleton.1 hy] at he;cases he;unfold enterF at hen;split at hen
       ·rename_i fn' hfn;rw [hfn];rfl
       ·cases hen)
      rw [List.mem_singleton.1 hy] at q1 q2 q3;generalize hrun:(Go.invoke (.fn fv cv) e.args).run C.P W=r at q3;cases q3 with |enter hx=>
      have hbs:Beside ([]++vs) ι H κ H':=Beside.of_on q2;refine ⟨_,List.mem_singleton.2 rfl,κ,_,_,X,.one (step_out hgm hgd het (by rw [het];exact hrun)),⟨q1,h.glob.mono q2.le,[],[]++vs,_::gs,rfl,enter_rel hx hen H',.cons ?_ (h.stack.mono hbs.right),h.nodup,
       fun p hp=>⟨Nat.lt_of_lt_of_le (h.far p hp).1 hbs.next,(hbs.keep p hp (h.far p hp).2 (h.far p hp).1).2⟩⟩,q2.below⟩
      exact (h.frame.defers_out (top':=false) hm hds).mono hbs.left
     ·cases hs
    ·cases hs
  ·rename_i hd;rw [hd] at hdef;generalize hgd:g.defers=gd at hdef;cases hdef;split at hs
   ·cases hs
   ·rename_i c rest;have hst:=h.stack;cases hst with |@cons ws xs _ d _ gs' hF t=>
    split at hs
    ·rename_i chain hmode;split at hs
     ·cases hs
     ·rename_i hro;cases hs;have hro':f.roundOf=none:=by simpa using hro
      obtain ⟨fn,hfn⟩:=h.frame.func hro';cases h.frame.mode with
      |run h1=>exact absurd h1 hm
      |returning h1=>rw [hmode] at h1;cases h1
      |@panicking _ ch' h1 h2 hc _ _=>
       rw [hmode] at h1;cases h1;have hstep:step C.P (lone g (d::gs'++tail) W)=.next (lone (d.raise ch') (gs'++tail) W):=by
        rw [Frame.raise_mode];exact step_going_panicked ⟨h2,hgd,fn,by rw [h.frame.fn];exact hfn⟩
       refine ⟨_,List.mem_singleton.2 rfl,ι,_,_,W,.one hstep,⟨h.heap,h.glob,[],xs,gs',rfl,hF.raise hc,t,?_,fun p hp=>h.far p (by simpa using List.mem_append_right ws hp)⟩,.refl _ _⟩;exact nodup_right h.nodup
    ·rename_i hnp;split at hs
     ·cases hs
     ·rename_i fn hfn;split at hs
      ·cases hs
      ·rename_i hro;split at hs
       ·cases hs
       ·rename_i vls hres;obtain ⟨u,w1,w2⟩:=results_rel h.heap h.glob ht hres;have hgret:g.mode=.returning:=by
         cases h.frame.mode with
         |run h1=>exact absurd h1 hm
         |returning _ h2 _ _=>exact h2
         |panicking h1=>exact absurd h1 (hnp _)
        split at hs
        ·rename_i hdf;cases hs;obtain ⟨us',s1,s3⟩:=settle_rel hF;have hk:g.kind=.deferred:=by rw [h.frame.kind,if_pos hdf]
         have hnd:=h.nodup;refine ⟨_,List.mem_singleton.2 rfl,ι,_,_,W,.one (step_going_returned hk ⟨hgret,hgd,fn,by rw [h.frame.fn];exact hfn,w1⟩),⟨h.heap,h.glob,us',xs,gs',rfl,s3,t,?_,fun p hp=>h.far p ?_⟩,.refl _ _⟩
         ·rcases s1 with rfl |rfl
          ·exact hnd
          ·exact nodup_right hnd
         ·rcases s1 with rfl |rfl
          ·exact hp
          ·exact List.mem_append_right _ (List.mem_append_right _ (by simpa using hp))
        ·rename_i hdf;have hk:g.kind=.normal:=by rw [h.frame.kind,if_neg hdf]
         cases hfin:finishL c (resV vls) with
         |none=>rw [hfin] at hs;cases hs
         |some c'=>
          rw [hfin] at hs;cases hs;refine ⟨_,List.mem_singleton.2 rfl,ι,_,_,W,.one (step_leave_returned ⟨hgret,hgd,hk,fn,by rw [h.frame.fn];exact hfn,w1⟩),⟨h.heap,h.glob,ws,xs,gs',rfl,hF.finish w2 hfin,t,?_,fun p hp=>h.far p hp⟩,.refl _ _⟩;exact h.nodup
end
end Go.Lm

/- Frames that run. -/
namespace Go.Lm
open Go.RowKit (Below)
section
variable {C:Cfg} {n0:Nat} {Kw:World->Prop} {ι:Gh} {H:LHeap} {W:World}
theorem go_sim{us vs:List (Nat×Nat)}{f:LFrame}{g:Frame}{fs:List LFrame}{gs tail:List Frame}(h:Now C n0 ι H us vs f g fs gs W)(hm:f.mode=.run)(hgm:g.mode=.run){k:List LItem}{k':List Item}
  (hstep:step C.P (lone g (gs++tail) W)=.next (lone { g with todo:=k' } (gs++tail) W)) (ht:Todo C ι H us true f.tmps k g.tmps.toList k'):Goes C n0 tail [⟨{ f with todo:=k },fs,H⟩] g (gs++tail) W:=by
 have hF:FRel C ι H us true { f with todo:=k } { g with todo:=k' }:=⟨h.frame.fn,h.frame.func,h.frame.defers,h.frame.kind,h.frame.round,.run hm hgm ht⟩;exact ⟨_,List.mem_singleton.2 rfl,ι,_,_,W,.one hstep,⟨h.heap,h.glob,us,vs,gs,rfl,hF,h.stack,h.nodup,h.far⟩,.refl _ _⟩
theorem stay_sim{us us' vs:List (Nat×Nat)}{f:LFrame}{g:Frame}{fs:List LFrame}{gs tail:List Frame}(h:Now C n0 ι H us vs f g fs gs W)(hm:f.mode=.run)(hgm:g.mode=.run){k:List LItem}{tmps:List LV}{K:LHeap}(hW:HRel ι K W n0)
  (hb:Beside (us++vs) ι H ι K) (ht:Todo C ι K us' true tmps k g.tmps.toList g.todo) (hnd:((us'++vs).map (·.2)).Nodup) (hfar:∀p∈us'++vs,p.2<K.next/\∀u,ι p.2 u=none):
  Goes C n0 tail [⟨{ f with todo:=k,tmps:=tmps },fs,K⟩] g (gs++tail) W:=by
 have hF:FRel C ι K us' true { f with todo:=k,tmps:=tmps } g:=⟨h.frame.fn,h.frame.func,h.frame.defers,h.frame.kind,h.frame.round,.run hm hgm ht⟩;exact ⟨_,List.mem_singleton.2 rfl,ι,_,_,W,.refl _ _,⟨hW,h.glob,us',vs,gs,rfl,hF,h.stack.mono hb.right,hnd,hfar⟩,.refl _ _⟩
theorem Draw.start{ops:Array Oper}(ok:DrawOk C.P ops){L:List Nat}(hs:Sched ops [] L){tmps:List LV}{ct:List Value}(ht:VRels ι tmps ct):Draw C ι H [] ops tmps tmps [] (rngF ops.size []) [] L ct where
 ok:=ok
 sched:=hs
 cover:=fun i hi=>.inr (by rw [rngF_eq,List.append_nil];exact List.mem_range.2 hi)
 bound:=fun i hi=>by rw [rngF_eq,List.append_nil] at hi;exact List.mem_range.1 hi
 apart:=fun i hi=>by cases hi
 nodup:=by rw [rngF_eq,List.append_nil];exact List.nodup_range
 sub:=fun i hi=>by cases hi
 cl:=fun i o hi=>by cases hi
 cD:=fun i o hi=>by cases hi
 eff:=fun i hi=>by cases hi
 len0:=ht.len
 len:=ht.len
 same:=fun t _=>rfl
 old:=fun t x v _ hx hv=>(VRels.iff.1 ht).2 t x v hx hv
 new:=fun t j y v _ hj=>by cases hj
 waits:=fun i hi=>by cases hi
 vals:=fun i hi=>by cases hi
 ids:=List.nodup_nil
theorem run_plain(hC:CfgOK C n0 Kw)(hKw:Kw W)(hmix:C.P.follows .mixedOrders=true){vs:List (Nat×Nat)}{f:LFrame}{g:Frame}{fs:List LFrame}{gs tail:List Frame}(h:Now C n0 ι H [] vs f g fs gs W)(hm:f.mode=.run)(hgm:g.mode=.run)
  (ht:VRels ι f.tmps g.tmps.toList) (hk:Rels (ItemRel ι) f.todo g.todo) {l:List LState} (hs:lstep C ⟨f,fs,H⟩=some l):Goes C n0 tail l g (gs++tail) W:=by
 have leave:∀{jump:Option Code} {s:LState},leaveL f fs H jump=some s->stepG C.P true { frame:=g,callers:=gs++tail,status:=.running,dying:=none } W=(match g.roundOf with
  |none=>if jump matches none |some .ret then .go { frame:={ g with mode:=.returning },callers:=gs++tail,status:=.running,dying:=none } W else .ended (.stuck "exit, goto: no such block or label" (g.pos C.P)) W
  |some l=>
   let (r,es):=(Instr.endRound l jump).runT C.P W #[]
   GStep.after (seen C.P g.fn es)<|match r with
   | .ok v w=>doReturn C.P true g (gs++tail) none v w
   | .halt _ w=>.ended (.stuck "range over a function: no such loop" (g.pos C.P)) w)->Goes C n0 tail [s] g (gs++tail) W:=fun hl hst=>leave_sim h hm hgm rfl ht _ hst hl
 have go:∀{k:List LItem} {k':List Item},Rels (ItemRel ι) k k'->step C.P (lone g (gs++tail) W)=.next (lone { g with todo:=k' } (gs++tail) W)->Goes C n0 tail [⟨{ f with todo:=k },fs,H⟩] g (gs++tail) W:=
  fun hkk hst=>go_sim h hm hgm hst (.plain ht hkk)
 have hev:=fun x=>eval_rel h.glob ht x;generalize hgt:g.todo=gt at hk;obtain ⟨ffn,ftmps,ftodo,fdefers,fmode,fdef,fround⟩:=f;simp only at hm ht hk leave go hev;subst hm;cases hk with
 |nil=>
  simp only [lstep] at hs;cases hl:leaveL ⟨ffn,ftmps,[],fdefers,.run,fdef,fround⟩ fs H none with
  |none=>rw [hl] at hs;cases hs
  |some s=>
   rw [hl] at hs;cases hs;exact leave hl (by simp [stepG,hgm,stepG.exec,hgt];rfl)
 |@cons it it' k k' hit hk=>
  cases hit with
  |code c=>
   cases c with
   |skip=>
    simp only [lstep] at hs;cases hs;exact go hk (step_lone_go (by simp [stepG,hgm,stepG.exec,hgt]))
   |label n=>
    simp only [lstep] at hs;cases hs;exact go hk (step_lone_go (by simp [stepG,hgm,stepG.exec,hgt]))
   |seq a b=>
    simp only [lstep] at hs;cases hs;exact go (.cons (.code a) (.cons (.code b) hk)) (step_lone_go (by simp [stepG,hgm,stepG.exec,hgt]))
   |cond c a b=>
    simp only [lstep] at hs;have hc:=hev c;split at hs
    ·rename_i e;cases hs;rw [e] at hc;cases hsc:g.eval c<;>rw [hsc] at hc<;>cases hc;exact go (.cons (.code a) hk) (step_lone_go (by simp [stepG,hgm,stepG.exec,hgt,hsc]))
    ·rename_i e;cases hs;rw [e] at hc;cases hsc:g.eval c<;>rw [hsc] at hc<;>cases hc;exact go (.cons (.code b) hk) (step_lone_go (by simp [stepG,hgm,stepG.exec,hgt,hsc]))
    ·cases hs
   |block i b=>
    simp only [lstep] at hs;cases hs;exact go (.cons (.code b) (.cons (.inBlock i) hk)) (step_lone_go (by simp [stepG,hgm,stepG.exec,hgt]))
   |loop b=>
    simp only [lstep] at hs;cases hs;exact go (.cons (.code b) (.cons (.inLoop b) hk)) (step_lone_go (by simp [stepG,hgm,stepG.exec,hgt]))
   |scope b=>
    simp only [lstep] at hs;cases hs;exact go (.cons (.code b) (.cons (.inScope b) hk)) (step_lone_go (by simp [stepG,hgm,stepG.exec,hgt]))
   |exit id=>
    simp only [lstep] at hs;have hx:=exitTo_rel id hk;split at hs
    ·rename_i r hr;rw [hr] at hx;obtain ⟨r',h1,h2⟩:=hx;cases hs;exact go h2 (step_lone_go (by simp [stepG,hgm,stepG.exec,hgt,h1]))
    ·rename_i hr;rw [hr] at hx;cases hl:leaveL ⟨ffn,ftmps,.code (.exit id)::k,fdefers,.run,fdef,fround⟩ fs H (some (.exit id)) with
     |none=>rw [hl] at hs;cases hs
     |some s=>
      rw [hl] at hs;cases hs;exact leave hl (by simp [stepG,hgm,stepG.exec,hgt,hx];rfl)
   |goto n=>
    simp only [lstep] at hs;have hx:=gotoIn_rel n hk;split at hs
    ·rename_i r hr;rw [hr] at hx;obtain ⟨r',h1,h2⟩:=hx;cases hs;exact go h2 (step_lone_go (by simp [stepG,hgm,stepG.exec,hgt,h1]))
    ·rename_i hr;rw [hr] at hx;cases hl:leaveL ⟨ffn,ftmps,.code (.goto n)::k,fdefers,.run,fdef,fround⟩ fs H (some (.goto n)) with
     |none=>rw [hl] at hs;cases hs
     |some s=>
      rw [hl] at hs;cases hs;exact leave hl (by simp [stepG,hgm,stepG.exec,hgt,hx];rfl)
   |ret=>
    simp only [lstep] at hs;cases hl:leaveL ⟨ffn,ftmps,.code .ret::k,fdefers,.run,fdef,fround⟩ fs H (some .ret) with
    |none=>rw [hl] at hs;cases hs
    |some s=>
     rw [hl] at hs;cases hs;exact leave hl (by simp [stepG,hgm,stepG.exec,hgt];rfl)
   |region id ops draw=>
    simp only [lstep] at hs;cases draw with
    |false=>
     simp only [Bool.false_eq_true,if_false] at hs;cases hs;refine go (k':=.inRegion ops (List.range ops.size)::k') ?_ (step_lone_go (by simp [stepG,hgm,stepG.exec,hgt]));rw [rngF_eq,List.append_nil];exact .cons (.inRegion _ _) hk
    |true=>
     simp only [if_true] at hs;split at hs
     ·rename_i hd;cases hs;have ok:=drawOk_spec hd;have hst:step C.P (lone g (gs++tail) W)=.next (lone { g with todo:=.inRegion ops (Region.linearise .any ops (W.tape W.drawn (.order g.fn id)))::k' } (gs++tail) { W with drawn:=W.drawn+1 }):=
       step_lone_go (by simp [stepG,hgm,stepG.exec,hgt,choose,Sem.run,Question.forced,Question.cut,Region.schedule,hmix])
      have hF:FRel C ι H [] true ⟨ffn,ftmps,.drawn ops (befs ops.toList []) ftmps [] (rngF ops.size []) true::k,fdefers,.run,fdef,fround⟩ { g with todo:=.inRegion ops (Region.linearise .any ops (W.tape W.drawn (.order g.fn id)))::k' }:=
       ⟨h.frame.fn,h.frame.func,h.frame.defers,h.frame.kind,h.frame.round,.run rfl hgm (.drawn (Draw.start ok (sched_all ok.back _) ht) hk (fun _ h=>by cases h) (fun h=>by cases h))⟩
      exact ⟨_,List.mem_singleton.2 rfl,ι,_,_,_,.one hst,⟨h.heap.drew rfl,h.glob,[],vs,gs,rfl,hF,h.stack,h.nodup,h.far⟩,(On.drew (ι:=ι) (H:=H) (W:=W) (W':={ W with drawn:=W.drawn+1 }) rfl rfl rfl rfl).below⟩
     ·cases hs
   |rangeFunc e params assign body=>
    simp only [lstep] at hs;have hround:=h.frame.round;cases fround with
    |some lr=>simp only at hs;cases hs
    |none=>
    simp only at hs hround;split at hs
    ·rename_i fn first captured hev'
     split at hs
     ·rename_i x hinv;obtain ⟨s',ha,rfl⟩:∃s',afterL C _ fs x=some s'/\l=[s']:=by
       split at hs
       ·rename_i s' ha;cases hs;exact ⟨s',ha,rfl⟩
       ·cases hs
      have he:=hev e;rw [hev'] at he;generalize hge:g.eval e=ge at he;cases he with |@func _ fn' _ _ first' cap' hfn hfi hca=>
      obtain ⟨q1,q2⟩:=h.heap.push_plain (o:=.deferred (some [])) (b:=.deferred (some [])) rfl (.deferred .nil);have hd1:(ι.add H.next 0 ⟨W.heap.size,0,0⟩) H.next 0=some ⟨W.heap.size,0,0⟩:=Gh.add_self _ _ _ _;obtain ⟨q3,q4⟩:=q1.push_plain (o:=.loop { state:=.ready,pending:=none,fn:=ffn,tmps:=ftmps,params,assign,body,defers:=H.next })
       (b:=.loop { state:=.ready,pending:=none,fn:=g.fn,tmps:=g.tmps,params,assign,body,defers:=W.heap.size }) rfl
       (.loop ⟨rfl,rfl,h.frame.fn,ht.mono q2.le,rfl,rfl,rfl,⟨_,hd1,rfl⟩⟩)
      have hl1:=Gh.add_self (ι.add H.next 0 ⟨W.heap.size,0,0⟩) (H.push (.deferred (some []))).next 0 ⟨(W.heap.push (.deferred (some []))).size,0,0⟩;have main:∀(κ:Gh) (K:LHeap) (X:World),On ι H W κ K X n0->HRel κ K X n0->κ H.next 0=some ⟨W.heap.size,0,0⟩->κ (H.push (.deferred (some []))).next 0=some ⟨(W.heap.push (.deferred (some []))).size,0,0⟩->
        invokeL C K (.fn fn captured) (first++[.func (.yield (H.push (.deferred (some []))).next) [] []])=some x->
        (Instr.enterLoop g.fn g.tmps params assign body none).run C.P W=.ok ((W.heap.push (.deferred (some []))).size,[{ target:=.collected W.heap.size,args:=#[] }]) X->Goes C n0 tail [s'] g (gs++tail) W:=by
       intro κ K X hon q3 hd1 hl1 hinv hrun;have hbs:Beside ([]++vs) ι H κ K:=Beside.of_on hon;refine after_from (ι:=κ) (H:=K) (W:=X) (fs:=fs) (gs:=gs) (f:=⟨ffn,ftmps,.inRangeFunc (H.push (.deferred (some []))).next::k,⟨.collected H.next,[]⟩::fdefers,.run,fdef,none⟩) (g:={ g with todo:=.inRangeFunc (W.heap.push (.deferred (some []))).size::k',defers:={ target:=.collected W.heap.size,args:=#[] }::g.defers }) (us:=[]) (vs:=vs) (outs:=[x]) ?_ rfl hon.below
        (sem:=do let d <-Go.resolve g.eval { callee:=.value e,args:=#[.const (.func (.yield (W.heap.push (.deferred (some []))).size) #[] #[])],argTypes:=#[] } 0;Go.invoke d.target d.args) ?_ (fun _ _ _ _ _ hh=>by cases hh) ?_ (l:=[s']) ?_
       ·exact { glob:=h.glob.mono hon.le
                frame:=⟨h.frame.fn,h.frame.func,.cons ⟨.collected hd1,.nil⟩ (h.frame.defers.mono fun _ _=>DefRel.mono hon.le),h.frame.kind,hround,.run rfl hgm (.plain (ht.mono hon.le) (.cons (.inRangeFunc hl1) (hk.mono fun _ _=>ItemRel.mono hon.le)))⟩
                stack:=h.stack.mono hbs.right
                nodup:=h.nodup
                far:=fun p hp=>⟨Nat.lt_of_lt_of_le (h.far p hp).1 hbs.next,(hbs.keep p hp (h.far p hp).2 (h.far p hp).1).2⟩ }
       ·simp [stepG,hgm,stepG.exec,hgt,hround,Sem.runT_eq,hrun];rfl
       ·have hres:(Go.resolve g.eval { callee:=.value e,args:=#[.const (.func (.yield (W.heap.push (.deferred (some []))).size) #[] #[])],argTypes:=#[] } 0)=
          pure { target:=.fn fn' cap',args:=first'++#[.func (.yield (W.heap.push (.deferred (some []))).size) #[] #[]] }:=by
         have h0:Go.resolve g.eval { callee:=.value e,args:=#[.const (.func (.yield (W.heap.push (.deferred (some []))).size) #[] #[])],argTypes:=#[] } 0=Deferred.ofValue (g.eval e) #[.func (.yield (W.heap.push (.deferred (some []))).size) #[] #[]]:=by
          have h1:(#[Operand.const (.func (.yield (W.heap.push (.deferred (some []))).size) #[] #[])]:Array Operand).map g.eval=#[.func (.yield (W.heap.push (.deferred (some []))).size) #[] #[]]:=by
           rw [List.map_toArray];rfl
          simp only [Go.resolve,h1]
         rw [h0,hge];rfl
        rw [hres];simp only [Sem.run_bind,Sem.run_pure,Result.andThen_ok];refine invokeL_rel hC (hC.keep _ _ hKw hon.below) q3 (.fn (hfn.mono hon.le) (hca.mono hon.le)) (x:=first++[.func (.yield (H.push (.deferred (some []))).next) [] []]) ?_ hinv ?_
        ·rw [Array.toList_append];exact (hfi.mono hon.le).append (.cons (.func (.yield hl1) .nil .nil) .nil)
        ·intro y hy ff x' he;rw [List.mem_singleton.1 hy] at he;obtain ⟨nx,K⟩:=x;simp only at he;subst he;simp only [afterL,Option.map_eq_some_iff] at ha;obtain ⟨f',hf',_⟩:=ha;unfold enterF at hf';split at hf'
         ·rename_i fn' hfn;rw [hfn];rfl
         ·cases hf'
       ·simp only [mapO];rw [ha]
      have hrun:(Instr.enterLoop g.fn g.tmps params assign body none).run C.P W=.ok ((W.heap.push (.deferred (some []))).size,[{ target:=.collected W.heap.size,args:=#[] }])
        { W with heap:=(W.heap.push (.deferred (some []))).push (.loop { state:=.ready,pending:=none,fn:=g.fn,tmps:=g.tmps,params,assign,body,defers:=W.heap.size }) }:=by
       simp only [Instr.enterLoop,Sem.run_bind,run_newObj,Result.andThen_ok,Sem.run_pure]
      exact main _ _ _ (q2.trans q4) q3 (q4.le _ _ _ hd1) hl1 hinv hrun
     ·cases hs
    ·cases hs
   |refuse why=>
    simp only [lstep] at hs;cases hs
  |inBlock i=>
   simp only [lstep] at hs;cases hs;exact go hk (step_lone_go (by simp [stepG,hgm,stepG.exec,hgt]))
  |inLoop c=>
   simp only [lstep] at hs;cases hs;exact go (.cons (.code c) (.cons (.inLoop c) hk)) (step_lone_go (by simp [stepG,hgm,stepG.exec,hgt]))
  |inScope c=>
   simp only [lstep] at hs;cases hs;exact go hk (step_lone_go (by simp [stepG,hgm,stepG.exec,hgt]))
  |inRegion ops is=>
   cases is with
   |nil=>
    simp only [lstep] at hs;cases hs;exact go hk (step_lone_go (by simp [stepG,hgm,stepG.exec,hgt]))
   |cons i rest=>
    simp only [lstep,stepRegion] at hs;split at hs
    ·cases hs
    rename_i o ho;have hwant:∀{b:Bool},wantedL ops ftmps o=some b->Region.wanted o (yielded ops g.tmps)=b:=fun hw=>
     wanted_rel (ht.len.trans Array.length_toList) (fun gg w p dd hgd hp hd x v hx hv=>(VRels.iff.1 ht).2 dd x v hx (by rw [Array.getElem?_toList];exact hv)) hw
    have hFr:FRel C ι H [] false ⟨ffn,ftmps,.inRegion ops (i::rest)::k,fdefers,.run,fdef,fround⟩ g:=
     ⟨h.frame.fn,h.frame.func,h.frame.defers,h.frame.kind,h.frame.round,.run rfl hgm (by rw [hgt];exact .plain ht (.cons (.inRegion _ _) hk))⟩
    have hB:Before C n0 ι H [] vs ⟨ffn,ftmps,.inRegion ops (i::rest)::k,fdefers,.run,fdef,fround⟩ g fs gs:=⟨h.glob,hFr,h.stack,h.nodup,h.far⟩;split at hs
    ·rename_i hw;split at hs
     ·rename_i outs hop;by_cases hdr:g.roundOf=none\/∀c,o.op≠.defer c
      ·have hen:Enters C outs:=by
        intro y hy ff x he;obtain ⟨s',_,ha⟩:=(mapO_mem hs).2 y hy;obtain ⟨nx,K⟩:=y;simp only at he;subst he;simp only [afterL,Option.map_eq_some_iff] at ha;obtain ⟨f',hf',_⟩:=ha;unfold enterF at hf';split at hf'
        ·rename_i fn' hfn;rw [hfn];rfl
        ·cases hf'
       exact after_sim hB rfl (apply_op hgm hgt ho (hwant hw) hdr) (fun _ _ _ _ _ hh=>by rw [hgt] at hh;cases hh) (opL_rel hC hKw h.heap hev hop hen) hs
      ·exact absurd hs (by
        have h1:g.roundOf≠none:=fun e=>hdr (.inl e);have h2:∃c,o.op=.defer c:=Classical.byContradiction fun hn=>hdr (.inr fun c e=>hn ⟨c,e⟩);obtain ⟨c,hc⟩:=h2;have hround:=h.frame.round;cases fround with
        |none=>exact absurd hround h1
        |some lr=>
         simp only [opL,hc] at hop;split at hop
         ·cases hop;simp [mapO,afterL]
         ·cases hop)
     ·cases hs
    ·rename_i hw;split at hs
     ·rename_i f' hf';cases hs;exact ⟨_,List.mem_singleton.2 rfl,ι,_,_,W,.one (skip_op hgm hgt ho (hwant hw)),hB.sim h.heap (hFr.finish (u:=undef) (.tuple .nil) hf'),.refl _ _⟩
     ·cases hs
    ·cases hs
  |inRangeFunc hl=>
   simp only [lstep] at hs;cases hs
  |@endRangeFunc i lo hlo=>
   simp only [lstep] at hs;split at hs
   ·rename_i r hloop;have hg:H.get i=some (.loop r):=by
     unfold loopOf at hloop;split at hloop
     ·cases hloop;assumption
     ·cases hloop
    obtain ⟨b,hb,hp⟩:=plain_at h.heap hlo hg rfl;cases hp with |@loop _ b hrel=>
    split at hs
    ·cases hs
    ·rename_i hst;cases hs;obtain ⟨q1,q2⟩:=h.heap.put_plain hlo hg rfl (o':=.loop { r with state:=.exhausted }) rfl (b:=.loop { b with state:=.exhausted }) (.loop ⟨rfl,hrel.pending,hrel.fn,hrel.tmps,hrel.params,hrel.assign,hrel.body,hrel.defers⟩);have hne:(b.state==.busy)=false:=by
      rw [hrel.state];cases hrs:r.state<;>first |rfl |exact absurd hrs hst
     have hrun:(Instr.endLoop lo.blk).run C.P W=.ok r.pending { W with heap:=W.heap.setIfInBounds lo.blk (.loop { b with state:=.exhausted }) }:=by
      simp only [Instr.endLoop,Instr.getLoop,Sem.run_bind,run_getObj hb (by intros;simp),Result.andThen_ok,Sem.run_pure,hne,Bool.false_eq_true,if_false,run_setObj hb (by intros;simp),hrel.pending]
     have hbs:Beside ([]++vs) ι H ι (H.put i (.loop { r with state:=.exhausted })):=Beside.of_on q2;have hF:FRel C ι (H.put i (.loop { r with state:=.exhausted })) [] true ⟨ffn,ftmps,(match r.pending with |some c=>[.code c] |none=>[])++k,fdefers,.run,fdef,fround⟩ { g with todo:=(r.pending.map Item.code).toList++k' }:=
      ⟨h.frame.fn,h.frame.func,h.frame.defers,h.frame.kind,h.frame.round,.run rfl hgm (.plain ht (by
       cases r.pending with
       |none=>exact hk
       |some c=>exact .cons (.code c) hk))⟩
     refine ⟨_,List.mem_singleton.2 rfl,ι,_,_,_,.one (step_lone_go ?_),⟨q1,h.glob,[],vs,gs,rfl,hF,h.stack.mono hbs.right,h.nodup,fun p hp=>⟨Nat.lt_of_lt_of_le (h.far p hp).1 hbs.next,(h.far p hp).2⟩⟩,q2.below⟩;simp [stepG,hgm,stepG.exec,hgt,hrun]
   ·cases hs
  |beginRound=>
   simp only [lstep] at hs;have hround:=h.frame.round;split at hs
   ·rename_i lr;obtain ⟨lo,hlo,hgr⟩:=hround;split at hs
    ·rename_i r hloop;have hg:H.get lr=some (.loop r):=by
      unfold loopOf at hloop;split at hloop
      ·cases hloop;assumption
      ·cases hloop
     obtain ⟨b,hb,hp⟩:=plain_at h.heap hlo hg rfl;cases hp with |@loop _ b hrel=>
     split at hs
     ·rename_i hst;cases hs;obtain ⟨q1,q2⟩:=h.heap.put_plain hlo hg rfl (o':=.loop { r with state:=.busy }) rfl (b:=.loop { b with state:=.busy }) (.loop ⟨rfl,hrel.pending,hrel.fn,hrel.tmps,hrel.params,hrel.assign,hrel.body,hrel.defers⟩);have hrs:b.state=.ready:=by rw [hrel.state];exact hst
      have hrun:(do g.roundOf.elim (stuck "beginRound: no round") Instr.beginRound;pure .skip:Sem Next).run C.P W=.ok .skip { W with heap:=W.heap.setIfInBounds lo.blk (.loop { b with state:=.busy }) }:=by
       simp only [hgr,Option.elim_some,Instr.beginRound,Instr.getLoop,Sem.run_bind,run_getObj hb (by intros;simp),Result.andThen_ok,Sem.run_pure,run_setObj hb (by intros;simp),hrs]
      have hbs:Beside ([]++vs) ι H ι (H.put lr (.loop { r with state:=.busy })):=Beside.of_on q2;have hF:FRel C ι (H.put lr (.loop { r with state:=.busy })) [] true ⟨ffn,ftmps,k,fdefers,.run,fdef,some lr⟩ { g with todo:=k' }:=
       ⟨h.frame.fn,h.frame.func,h.frame.defers,h.frame.kind,h.frame.round,.run rfl hgm (.plain ht hk)⟩
      refine ⟨_,List.mem_singleton.2 rfl,ι,_,_,_,.one (step_lone_go ?_),⟨q1,h.glob,[],vs,gs,rfl,hF,h.stack.mono hbs.right,h.nodup,fun p hp=>⟨Nat.lt_of_lt_of_le (h.far p hp).1 hbs.next,(h.far p hp).2⟩⟩,q2.below⟩;have h1:stepG C.P true { frame:=g,callers:=gs++tail,status:=.running,dying:=none } W=stepG.apply C.P true g (gs++tail) none (do g.roundOf.elim (stuck "beginRound: no round") Instr.beginRound;pure .skip:Sem Next) W:=by
       simp [stepG,hgm,stepG.exec,hgt]
      have hfin:g.finish undef={ g with todo:=k' }:=by
       unfold Frame.finish;rw [hgt]
      rw [h1,<-hfin];simp only [stepG.apply,Sem.runT_eq,hrun,GStep.bare_after];rfl
     ·cases hs
    ·cases hs
   ·cases hs
end
end Go.Lm

/- Frames within a region whose order is open. -/
namespace Go.Lm
open Go.RowKit (Below)
section
variable {C:Cfg} {n0:Nat} {Kw:World->Prop} {ι:Gh} {H:LHeap} {W:World}
theorem HRel.more{o:LObj}(h:HRel ι H W n0):HRel ι (H.push o) W n0:=by
 have get:∀i,i<H.next->(H.push o).get i=H.get i:=fun i hi=>by rw [LHeap.get_push,if_neg (Nat.ne_of_lt hi)]
 have ro:∀i,i<H.next->(isRo (H.push o) i↔isRo H i):=fun i hi=>by unfold isRo;rw [get i hi]
 refine ⟨fun i u l hi=> ?_,fun i u l j v m hi hj hb hne=> ?_,fun i u l hi=> ?_,h.size⟩
 ·obtain ⟨h1,h2,ob,h3,h4⟩:=h.dom i u l hi;exact ⟨Nat.lt_succ_of_lt h1,h2,ob,by rw [get i h1];exact h3,h4⟩
 ·rw [ro i (h.dom i u l hi).1,ro j (h.dom j v m hj).1];exact h.sep i u l j v m hi hj hb hne
 ·rw [ro i (h.dom i u l hi).1];exact h.base i u l hi
theorem Beside.more{us:List (Nat×Nat)}{o:LObj}:Beside us ι H ι (H.push o):=
 ⟨.refl _,Nat.le_succ _,fun p _ hf hl=>⟨by rw [LHeap.get_push,if_neg (Nat.ne_of_lt hl)],hf⟩⟩
theorem made_push{ρ:Operand->LV}{o:Oper}{outs:List (LNext×LHeap)}(h:opL C ρ H o=some outs)(hA:isA o.op=true):∃v ob,outs=[(.value v,H.push ob)]:=by
 have row:∀{e:TypeId} {cs:List LV} {wh:Bool} {a:LAddr} {H':LHeap},newRow H e cs wh=some (a,H')->∃ob,H'=H.push ob:=by
  intro e cs wh a H' hn;unfold newRow at hn;split at hn
  ·cases hn;exact ⟨_,rfl⟩
  ·cases hn
 obtain ⟨dst,op,ty,pos,after,guard⟩:=o;cases op<;>first |(simp [isA] at hA;done) |skip
 case alloc t=>
  simp only [opL] at h;split at h
  ·split at h
   ·rename_i a H' hn;cases h;obtain ⟨ob,rfl⟩:=row hn;exact ⟨_,ob,rfl⟩
   ·cases h
  ·cases h
 case box t x=>
  simp only [opL] at h;split at h
  ·rename_i a H' hn;cases h;obtain ⟨ob,rfl⟩:=row hn;exact ⟨_,ob,rfl⟩
  ·cases h
 case buildSlice t n parts=>
  simp only [opL] at h;split at h
  ·rename_i z H' hz;cases h;have:∃ob,H'=H.push ob:=by
    unfold buildSliceL at hz;split at hz
    ·cases hz
    ·split at hz
     ·split at hz
      ·rename_i hn;cases hz;exact row hn
      ·cases hz
     ·split at hz
      ·split at hz
       ·split at hz
        ·split at hz
         ·rename_i hn;cases hz;exact row hn
         ·cases hz
        ·cases hz
       ·cases hz
      ·cases hz
   obtain ⟨ob,rfl⟩:=this;exact ⟨_,ob,rfl⟩
  ·cases h
theorem nodup_dropI{i:Nat}:∀{l:List Nat},l.Nodup->(dropI i l).Nodup/\i∉dropI i l
 |[],_=>⟨by simp [dropI],by simp [dropI]⟩
 |j::l,h=>by
  have h':=List.nodup_cons.1 h;unfold dropI;split
  ·rename_i hb;have:=Nat.eq_of_beq_eq_true hb;subst this;exact ⟨h'.2,h'.1⟩
  ·rename_i hb;obtain ⟨h1,h2⟩:=nodup_dropI (i:=i) h'.2;refine ⟨List.nodup_cons.2 ⟨fun hm=>h'.1 (dropI_sub hm),h1⟩,fun hm=> ?_⟩;rcases List.mem_cons.1 hm with rfl |hm
   ·exact hb (Nat.beq_refl _)
   ·exact h2 hm
theorem run_drawn(hC:CfgOK C n0 Kw)(hKw:Kw W){us vs:List (Nat×Nat)}{f:LFrame}{g:Frame}{fs:List LFrame}{gs tail:List Frame}(h:Now C n0 ι H us vs f g fs gs W)(hm:f.mode=.run)(hgm:g.mode=.run){st:Bool}{ops:Array Oper}{tm0:List LV}{done pend D L:List Nat}
  {k:List LItem} {k':List Item} (hft:f.todo=.drawn ops (bf ops) tm0 done pend st::k) (hgt:g.todo=.inRegion ops L::k') (d:Draw C ι H us ops tm0 f.tmps done pend D L g.tmps.toList)
  (hk:Rels (ItemRel ι) k k') (hc:st=false->checkOk C H ops (bf ops) tm0 f.tmps done=true) {l:List LState} (hs:lstep C ⟨f,fs,H⟩=some l):Goes C n0 tail l g (gs++tail) W:=by
 obtain ⟨ffn,ftmps,ftodo,fdefers,fmode,fdef,fround⟩:=f;simp only at hm hft d hc;subst hm;subst hft;simp only [lstep] at hs;split at hs
 ·
  rename_i j hj;obtain ⟨hjp,o,ho,hE,hdep⟩:=pickNext_some hj;have hdd:=nodup_dropI (i:=j) d.nodup;have hmem:∀q,q∈pend↔q=j\/q∈dropI j pend:=fun q=>⟨fun hq=>mem_dropI hq,fun hq=>by
   rcases hq with rfl |hq
   ·exact hjp
   ·exact dropI_sub hq⟩
  simp only [stepRegion,ho] at hs;split at hs
  ·rename_i hw;split at hs
   ·rename_i outs hop;cases hA:isA o.op with
    |true=>
     obtain ⟨v,ob,rfl⟩:=made_push hop hA;simp only [mapO,afterL,finishL,Option.map_some] at hs;cases hs;have hnew:∀p∈us++vs,p.2≠H.next:=fun p hp=>Nat.ne_of_lt (h.far p hp).1;have hnd:(((us++[(j,H.next)])++vs).map (·.2)).Nodup:=by
      have hn:=h.nodup;rw [List.map_append,List.nodup_append] at hn;rw [List.map_append,List.map_append,List.nodup_append,List.nodup_append];refine ⟨⟨hn.1,by simp,fun a ha b hb=> ?_⟩,hn.2.1,fun a ha b hb=> ?_⟩
      ·obtain ⟨p,hp,rfl⟩:=List.mem_map.1 ha;simp at hb;subst hb;exact hnew p (List.mem_append_left _ hp)
      ·rcases List.mem_append.1 ha with ha |ha
       ·exact hn.2.2 a ha b hb
       ·simp at ha;subst ha;obtain ⟨p,hp,rfl⟩:=List.mem_map.1 hb;exact fun e=>hnew p (List.mem_append_right _ hp) e.symm
     have hfresh:∀u,ι H.next u=none:=fun u=>h.heap.fresh_none u;have d':=d.lm hjp hmem hdd.2 hdd.1 ho hE hdep v (K:=H.push ob) (vs:=[(j,H.next)]) .more (by
      rw [List.map_append,List.nodup_append] at hnd;exact hnd.1) (fun _ _=>⟨H.next,by simp,Nat.lt_succ_self _,hfresh,H,H.push ob,rfl,hop,rfl⟩) ⟨true,hw,(fun e=>by cases e),fun _ hA' _=>by rw [hA] at hA';cases hA'⟩
     rw [<-putT_eq] at d';refine stay_sim (f:=⟨ffn,ftmps,.drawn ops (bf ops) tm0 done pend st::k,fdefers,.run,fdef,fround⟩) h rfl hgm h.heap.more .more (us':=us++[(j,H.next)]) ?_ hnd (fun p hp=> ?_)
     ·rw [hgt];exact .drawn d' hk (fun _ e=>by cases e) (fun e=>by cases e)
     ·rcases List.mem_append.1 hp with hp |hp
      ·rcases List.mem_append.1 hp with hp |hp
       ·exact ⟨Nat.lt_succ_of_lt (h.far p (List.mem_append_left _ hp)).1,(h.far p (List.mem_append_left _ hp)).2⟩
       ·simp at hp;subst hp;exact ⟨Nat.lt_succ_self _,hfresh⟩
      ·exact ⟨Nat.lt_succ_of_lt (h.far p (List.mem_append_right _ hp)).1,(h.far p (List.mem_append_right _ hp)).2⟩
    |false=>
     obtain ⟨v,rfl⟩:=pure_same hop hE hA;simp only [mapO,afterL,finishL,Option.map_some] at hs;cases hs;have d':=d.lm hjp hmem hdd.2 hdd.1 ho hE hdep v (K:=H) (vs:=[]) (.refl _ _ _) (by rw [List.append_nil];exact d.ids) (fun hA'=>by rw [hA] at hA';cases hA') ⟨true,hw,(fun e=>by cases e),fun _ _ _=>⟨H,hop⟩⟩;rw [<-putT_eq,List.append_nil] at d';refine stay_sim (f:=⟨ffn,ftmps,.drawn ops (bf ops) tm0 done pend st::k,fdefers,.run,fdef,fround⟩) h rfl hgm h.heap (.refl _ _ _) (us':=us) ?_ h.nodup h.far;rw [hgt];exact .drawn d' hk (fun _ e=>by cases e) (fun e=>by cases e)
   ·cases hs
  ·rename_i hw;simp only [finishL] at hs;cases hs;have d':=d.lm hjp hmem hdd.2 hdd.1 ho hE hdep .undef (K:=H) (vs:=[]) (.refl _ _ _) (by rw [List.append_nil];exact d.ids) (fun _ hw'=>by rw [hw] at hw';cases hw') ⟨false,hw,(fun _=>rfl),(fun e=>by cases e)⟩;rw [<-putT_eq,List.append_nil] at d';refine stay_sim (f:=⟨ffn,ftmps,.drawn ops (bf ops) tm0 done pend st::k,fdefers,.run,fdef,fround⟩) h rfl hgm h.heap (.refl _ _ _) (us':=us) ?_ h.nodup h.far;rw [hgt];exact .drawn d' hk (fun _ e=>by cases e) (fun e=>by cases e)
  ·cases hs
 ·rename_i hnone;split at hs
  ·
   rename_i hst;split at hs
   ·rename_i hchk;cases hs;refine stay_sim (f:=⟨ffn,ftmps,.drawn ops (bf ops) tm0 done pend st::k,fdefers,.run,fdef,fround⟩) h rfl hgm h.heap (.refl _ _ _) (us':=us) ?_ h.nodup h.far;rw [hgt];exact .drawn d hk (fun _ _=>hchk) (fun e=>by cases e)
   ·cases hs
  ·rename_i hst;have hchk:=check_all d (hc (by simpa using hst));obtain ⟨κ,X,ct,us',D',L',t1,t2,t3,t4,t5,t6,t7,t8⟩:=draw_catch (cs:=gs++tail) (vs:=vs) hC L hgm hgt d h.heap hKw h.glob hchk h.nodup h.far;have hsub:∀p∈us'++vs,p∈us++vs:=fun p hp=>by
    rcases List.mem_append.1 hp with hp |hp
    ·exact List.mem_append_left _ (t7 p hp)
    ·exact List.mem_append_right _ hp
   have hfar:∀p∈us'++vs,p.2<H.next/\∀u,κ p.2 u=none:=fun p hp=>⟨(h.far p (hsub p hp)).1,(t5.keep p hp (h.far p (hsub p hp)).2 (h.far p (hsub p hp)).1).2⟩;have hround:match (generalizing:=false) fround with
     |none=>g.roundOf=none
     |some l=>∃lo,κ l 0=some lo/\g.roundOf=some lo.blk:=by
    have:=h.frame.round;cases fround with
    |none=>exact this
    |some l=>
     obtain ⟨lo,a,b⟩:=this;exact ⟨lo,t5.le _ _ _ a,b⟩
   cases pend with
   |nil=>
    simp only at hs;cases hs;have hL:L'=[]:=by
     cases L' with
     |nil=>rfl
     |cons i r=>
      obtain ⟨p,hp,_⟩:=t4.sched.tail;rcases t4.cover i (Array.getElem?_eq_some_iff.1 hp).1 with hi |hi
      ·exact absurd hi (t8 i r rfl)
      ·cases hi
    subst hL;have hF:FRel C κ H [] true ⟨ffn,ftmps,k,fdefers,.run,fdef,fround⟩ { g with tmps:=ct,todo:=k' }:=
     ⟨h.frame.fn,h.frame.func,h.frame.defers.mono fun _ _=>DefRel.mono t5.le,h.frame.kind,hround,.run rfl hgm (.plain t4.over (hk.mono fun _ _=>ItemRel.mono t5.le))⟩
    refine Goes.head t1 t3 ⟨_,List.mem_singleton.2 rfl,κ,_,_,X,.one (step_lone_go ?_),⟨t2,h.glob.mono t5.le,[],vs,gs,rfl,hF,h.stack.mono t5.right,nodup_right t6,fun p hp=>hfar p (List.mem_append_right _ hp)⟩,.refl _ _⟩;simp [stepG,hgm,stepG.exec]
   |cons e r=>
    simp only at hs;split at hs
    ·rename_i o ho;split at hs
     ·rename_i hdep;obtain ⟨L2,rfl⟩:=t4.next ho hdep hnone t8;obtain ⟨o',ho',hn,hdD,_⟩:=t4.sched.tail;rw [ho] at ho';cases ho';have hFr:FRel C κ H us' false ⟨ffn,ftmps,.drawn ops (bf ops) tm0 done (e::r) true::k,fdefers,.run,fdef,fround⟩ { g with tmps:=ct,todo:=.inRegion ops (e::L2)::k' }:=
       ⟨h.frame.fn,h.frame.func,h.frame.defers.mono fun _ _=>DefRel.mono t5.le,h.frame.kind,hround,.run rfl hgm (.drawn t4 (hk.mono fun _ _=>ItemRel.mono t5.le) (fun e=>by cases e) (fun _=>⟨e,r,L2,rfl,rfl,hn,rfl⟩))⟩
      have hB:Before C n0 κ H us' vs ⟨ffn,ftmps,.drawn ops (bf ops) tm0 done (e::r) true::k,fdefers,.run,fdef,fround⟩ { g with tmps:=ct,todo:=.inRegion ops (e::L2)::k' } fs gs:=
       ⟨h.glob.mono t5.le,hFr,h.stack.mono t5.right,t6,hfar⟩
      have hbD:∀j∈befOf (bf ops) e,j∈D':=by
       intro j hj;obtain ⟨ed,he,hbe,h3⟩:=(mem_bef ho).1 hj;rcases h3 with rfl |⟨_,h3⟩
       ·exact hdD ed he hbe
       ·exact t4.cD.bef ed.on (hdD ed he hbe) _ h3
      have hwant:∀{b:Bool},wantedL ops ftmps o=some b->Region.wanted o (yielded ops ct)=b:=fun hw=>
       wanted_rel (t4.len.trans Array.length_toList) (fun gg w p dd hgd hp hd x v hx hv=>t4.new dd gg x v (t4.ok.wr gg p dd hp hd) (hbD gg (t4.ok.guard e o gg w ho hgd)) hx (by rw [Array.getElem?_toList];exact hv)) hw
      refine Goes.head t1 t3 ?_;simp only [stepRegion,ho] at hs;split at hs
      ·rename_i hw;split at hs
       ·rename_i outs hop;have hview:=t4.view (h.glob.mono t5.le) ho hn hdD (σ:=({ g with tmps:=ct,todo:=.inRegion ops (e::L2)::k' }:Frame).eval) (fun t=>by simp only [Frame.eval,Array.getD_eq_getD_getElem?,Array.getElem?_toList]) (fun _=>rfl) (fun _=>rfl) (fun _=>rfl);by_cases hdr:g.roundOf=none\/∀c,o.op≠.defer c
        ·have hen:Enters C outs:=by
          intro y hy ff x he;obtain ⟨s',_,ha⟩:=(mapO_mem hs).2 y hy;obtain ⟨nx,K⟩:=y;simp only at he;subst he;simp only [afterL,Option.map_eq_some_iff] at ha;obtain ⟨f',hf',_⟩:=ha;unfold enterF at hf';split at hf'
          ·rename_i fn' hfn;rw [hfn];rfl
          ·cases hf'
         exact after_sim hB rfl (apply_op (g:={ g with tmps:=ct,todo:=.inRegion ops (e::L2)::k' }) hgm rfl ho (hwant hw) hdr) (fun _ _ _ _ _ hh=>by cases hh) (opL_rel hC (hC.keep _ _ hKw t3) t2 hview hop hen) hs
        ·exact absurd hs (by
          have h1:g.roundOf≠none:=fun e=>hdr (.inl e);have h2:∃c,o.op=.defer c:=Classical.byContradiction fun hn=>hdr (.inr fun c e=>hn ⟨c,e⟩);obtain ⟨c,hc⟩:=h2;cases fround with
          |none=>exact absurd hround h1
          |some lr=>
           simp only [opL,hc] at hop;split at hop
           ·cases hop;simp [mapO,afterL]
           ·cases hop)
       ·cases hs
      ·rename_i hw;split at hs
       ·rename_i f' hf';cases hs;exact ⟨_,List.mem_singleton.2 rfl,κ,_,_,X,.one (skip_op (g:={ g with tmps:=ct,todo:=.inRegion ops (e::L2)::k' }) hgm rfl ho (hwant hw)),hB.sim t2 (hFr.finish (u:=undef) (.tuple .nil) hf'),.refl _ _⟩
       ·cases hs
      ·cases hs
     ·cases hs
    ·cases hs
end
end Go.Lm

/- How far a row goes may be learnt: the model knows it. -/
namespace Go.Lm
open Go.RowKit (Below)
def learnS(s:LState)(t:Nat)(a:LAddr)(n sz c:Nat)(cs:List LV)(e:TypeId)(minv:Nat)(fz:FZ):LState:=
 ⟨{ s.fr with tmps:=setNth s.fr.tmps t (.slice (some ⟨a.id,a.off+c*sz,a.off⟩) n (.exact c)) },s.cs,
  s.H.put a.id (.cells (cs++List.replicate (a.off+c*sz-a.ver) .junk) e (a.off+c*sz) minv fz false false)⟩
theorem HRel.learn{ι:Gh}{H:LHeap}{W:World}{n0:Nat}(h:HRel ι H W n0){i:Nat}{l:Loc}{cs:List LV}{e:TypeId}{ver minv k:Nat}{fz:FZ}
  (hl:ι i ver=some l) (hg:H.get i=some (.cells cs e ver minv fz false false)) (hk:ver<=k) (hfit:(k:Int)+l.sh<=l.tot):
  let κ:=ι.add i k l
  let K:=H.put i (.cells (cs++List.replicate (k-ver) .junk) e k minv fz false false)
  HRel κ K W n0/\ι.le κ/\∀j u,j≠i->κ j u=ι j u:=by
 intro κ K;obtain ⟨hi,hb,_,_⟩:=h.dom i ver l hl;obtain ⟨hlen,h2,hall,_,_,h6,h7⟩:=cells_of_get h hl hg;obtain ⟨c,fr,hC⟩:=(h6 ver l hl).2 h2;have hat:ι i k=none\/ι i k=some l:=by
  cases e:ι i k with
  |none=>exact .inl rfl
  |some m=>
   have:=(h6 _ _ e).1;have:k=ver:=by omega
   subst this;rw [hl] at e;cases e;exact .inr rfl
 have hle:ι.le κ:=Gh.add_le _ _ hat;have hnro:¬isRo H i:=by
  rintro ⟨cs',e',v,m,fz',wh',hro⟩;rw [hg] at hro;cases hro
 have hn0:n0<=l.blk:=(h.base i ver l hl).resolve_left hnro;have hself:κ i k=some l:=Gh.add_self _ _ _ _;have hoth:∀u,u≠k->κ i u=ι i u:=fun u hu=>Gh.add_other _ _ (fun c=>hu c.2);have hold:∀u m,κ i u=some m->(u=k/\m=l)\/ι i u=some m:=fun u m hu=>by
  by_cases hq:u=k
  ·subst hq;rw [hself] at hu;cases hu;exact .inl ⟨rfl,rfl⟩
  ·rw [hoth u hq] at hu;exact .inr hu
 have hcell:∀(m:Loc) (c2:Array Value) (fr2:Nat×Nat) (u:Nat),u<=ver->CellsAt ι W m e cs u fz false c2 fr2->CellsAt κ W m e (cs++List.replicate (k-ver) .junk) u fz false c2 fr2:=fun m c2 fr2 u hu hC2=>
  ⟨hC2.here,hC2.tot,hC2.fits,hC2.fz,hC2.one,fun j x hx hj hj0=>by
   rw [List.getElem?_append_left (by omega)] at hx;exact (hC2.cell j x hx hj hj0).imp fun v hv=>⟨hv.1,hv.2.mono hle⟩⟩
 have hall2:allCells (cs++List.replicate (k-ver) LV.junk)=true:=by
  rw [allCells_iff] at hall |-;intro v hv;rcases List.mem_append.1 hv with hv |hv
  ·exact hall v hv
  ·rw [List.eq_of_mem_replicate hv];rfl
 refine ⟨h.step i (.cells (cs++List.replicate (k-ver) .junk) e k minv fz false false) hle (fun j u hj=>Gh.add_other _ _ (fun c=>hj c.1)) (.refl _ _) (fun _ _ _=>rfl) (fun j hj=>by simp [K,LHeap.get_put,hj]) (by simp [K])
  (by simpa [K] using hi) (by simp [K,LHeap.get_put]) ?_ (fun _=>hnro) ?_ ?_,hle,fun j u hj=>Gh.add_other _ _ (fun c=>hj c.1)⟩
 ·refine ⟨by simp;omega,by omega,hall2,⟨l,hself⟩,(fun hw=>by cases hw),fun u m hu=> ?_,?_⟩
  ·rcases hold u m hu with ⟨rfl,rfl⟩ |hu'
   ·refine ⟨Nat.le_refl _,fun _=>⟨c,fr,hC.here,hC.tot,hfit,hC.fz,hC.one,fun j x hx hj hj0=> ?_⟩⟩;rw [List.getElem?_append] at hx;split at hx
    ·rename_i hjl;exact (hC.cell j x hx (by omega) hj0).imp fun v hv=>⟨hv.1,hv.2.mono hle⟩
    ·have:x=.junk:=List.eq_of_mem_replicate (List.mem_of_getElem? hx);subst this;have ht:=hC.tot;have hlt:((j:Int)+m.sh).toNat<c.size:=by omega
     exact ⟨c[((j:Int)+m.sh).toNat],Array.getElem?_eq_getElem hlt,.junk (hC.one rfl _ _ (Array.getElem?_eq_getElem hlt))⟩
   ·have huv:=(h6 u m hu').1;refine ⟨by omega,fun hm=> ?_⟩;obtain ⟨c2,fr2,hC2⟩:=(h6 u m hu').2 hm;exact ⟨c2,fr2,hcell m c2 fr2 u huv hC2⟩
  ·intro u u' m m' hu hu' hb';rcases hold u m hu with ⟨rfl,rfl⟩ |hu1<;>rcases hold u' m' hu' with ⟨rfl,rfl⟩ |hu2
   ·rfl
   ·exact h7 ver u' _ _ hl hu2 hb'
   ·exact h7 u ver _ _ hu1 hl hb'
   ·exact h7 u u' _ _ hu1 hu2 hb'
 ·rintro ⟨cs',e',v,m,fz',wh',hro⟩;simp [K,LHeap.get_put] at hro
 ·intro u m hu;rcases hold u m hu with ⟨rfl,rfl⟩ |hu'
  ·exact ⟨hb,hn0,.inl ⟨ver,m,hl,rfl⟩⟩
  ·exact ⟨(h.dom i u m hu').2.1,(h.base i u m hu').resolve_left hnro,.inl ⟨u,m,hu',rfl⟩⟩
theorem learn_sim{C:Cfg}{n0:Nat}{tail:List Frame}{ι:Gh}{s:LState}{g:Frame}{cs0:List Frame}{W:World}(h:MSim C n0 tail ι s g cs0 W){t:Nat}{a:LAddr}{n sz:Nat}{cs:List LV}{e:TypeId}{minv:Nat}{fz:FZ}{b:Code}
  (hm:s.fr.mode=.run) (ht:s.fr.todo=[.code b]) (hv:s.fr.tmps[t]? =some (.slice (some a) n (.free sz))) (hg:s.H.get a.id=some (.cells cs e a.ver minv fz false false)):
  ∃κ c,n<=c/\a.ver<=a.off+c*sz/\MSim C n0 tail κ (learnS s t a n sz c cs e minv fz) g cs0 W:=by
 obtain ⟨us,vs,gs,rfl,hF,hst,hnd,hfar⟩:=h.all;cases hF.mode with
 |returning h1=>rw [hm] at h1;cases h1
 |panicking h1=>rw [hm] at h1;cases h1
 |run h1 h2 td=>
  rw [ht] at td;generalize hgt:g.todo=gt at td;generalize hgm:g.tmps.toList=gm at td;cases td with
  |plain htm hk=>
   obtain ⟨v,hgv,hr⟩:=htm.get hv;cases hr with |@free _ ad _ c _ hf=>
   obtain ⟨l,hl,hsz,hnc,hov,hvt,hcase⟩:=hf;have hck:a.ver<=a.off+c*sz/\((a.off+c*sz:Nat):Int)+l.sh<=l.tot/\(0<c->0<=(a.off:Int)+l.sh/\ad=⟨l.blk,((a.off:Int)+l.sh).toNat,none⟩):=by
    rcases hcase with ⟨hb0,rfl,hct⟩ |⟨h0,rfl,hct⟩
    ·exact ⟨by omega,by push_cast at hct |-;omega,fun _=>⟨hb0,rfl⟩⟩
    ·exact ⟨by omega,by push_cast;omega,fun h=>absurd h (Nat.lt_irrefl _)⟩
   obtain ⟨hck,hkt,hpr⟩:=hck
   ·obtain ⟨k1,k2,k3⟩:=h.heap.learn (k:=a.off+c*sz) hl hg hck hkt;have hself:(ι.add a.id (a.off+c*sz) l) a.id (a.off+c*sz)=some l:=Gh.add_self _ _ _ _;have hbs:∀ws:List (Nat×Nat),(∀p∈ws,p∈([]:List (Nat×Nat))++vs)->Beside ws ι s.H (ι.add a.id (a.off+c*sz) l) (s.H.put a.id (.cells (cs++List.replicate (a.off+c*sz-a.ver) .junk) e (a.off+c*sz) minv fz false false)):=fun ws _=>
     ⟨k2,by simp,fun p _ hp _=>by
      have hne:p.2≠a.id:=fun e=>by have:=hp a.ver;rw [e,hl] at this;cases this
      exact ⟨by rw [LHeap.get_put,if_neg hne],fun u=>by rw [k3 _ _ hne];exact hp u⟩⟩
    refine ⟨ι.add a.id (a.off+c*sz) l,c,hnc,hck,k1,h.glob.mono k2,[],vs,gs,rfl,?_,hst.mono (hbs _ fun p hp=>by simpa using hp),hnd,?_⟩
    ·refine ⟨hF.fn,hF.func,hF.defers.mono fun _ _=>DefRel.mono k2,hF.kind,?_,.run h1 h2 ?_⟩
     ·have:=hF.round;show match s.fr.roundOf with
       |none=>g.roundOf=none
       |some l'=>∃lo,(ι.add a.id (a.off+c*sz) l) l' 0=some lo/\g.roundOf=some lo.blk
      split<;>simp_all;obtain ⟨lo,g1,g2⟩:=this;exact ⟨lo,k2 _ _ _ g1,g2⟩
     ·show Todo C _ _ [] true (setNth s.fr.tmps t _) s.fr.todo g.tmps.toList g.todo
      rw [ht,hgt,hgm];refine .plain ?_ (hk.mono fun _ _=>ItemRel.mono k2);rw [setNth_eq];have hset:=(htm.mono k2).set t (a:=.slice (some ⟨a.id,a.off+c*sz,a.off⟩) n (.exact c)) (b:=.slice (some ad) n c)
       (.slice (fun hc=>⟨l,hself,(hpr hc).1,(hpr hc).2⟩) ⟨l,hself⟩ hnc)
      have hid:gm.set t (.slice (some ad) n c)=gm:=by
       apply List.ext_getElem?;intro j;rw [List.getElem?_set];split
       ·rename_i hj;subst hj;split
        ·exact hgv.symm
        ·rename_i hlt;rw [List.getElem?_eq_none (by omega)]
       ·rfl
      rw [hid] at hset;exact hset
    ·intro p hp;obtain ⟨f1,f2⟩:=hfar p hp;refine ⟨by simpa [learnS] using f1,fun u=> ?_⟩;have hne:p.2≠a.id:=fun e=>by have:=f2 a.ver;rw [e,hl] at this;cases this
     rw [k3 _ _ hne];exact f2 u
end Go.Lm

/- A run of this machine is a call of the model's. -/
namespace Go.Lm
open Go.RowKit (Below)
theorem sim_step{C:Cfg}{n0:Nat}{Kw:World->Prop}(hC:CfgOK C n0 Kw)(hmix:C.P.follows .mixedOrders=true){tail:List Frame}{ι:Gh}{s:LState}{g:Frame}{cs:List Frame}{W:World}(hKw:Kw W)(h:MSim C n0 tail ι s g cs W){l:List LState}(hs:lstep C s=some l):Goes C n0 tail l g cs W:=by
 obtain ⟨us,vs,gs,rfl,hF,hst,hnd,hfar⟩:=h.all;obtain ⟨f,fs,H⟩:=s;have hn:Now C n0 ι H us vs f g fs gs W:=⟨h.heap,h.glob,hF,hst,hnd,hfar⟩;cases hF.mode with
 |run h1 h2 t=>
  generalize hgt:g.todo=gt at t;generalize hgm:g.tmps.toList=gm at t;generalize hft:f.todo=ft at t;generalize hfm:f.tmps=fm at t;cases t with
  |plain ht hk=>
   subst hgt;subst hgm;subst hft;subst hfm;exact run_plain hC hKw hmix hn h1 h2 ht hk hs
  |drawn hd hk hc hp=>
   subst hgm;subst hfm;exact run_drawn hC hKw hn h1 h2 hft hgt hd hk (hc rfl) hs
 |returning h1=>exact unwind_sim hC hKw hn (by rw [h1];simp) hs
 |panicking h1=>exact unwind_sim hC hKw hn (by rw [h1];simp) hs
inductive Ends (C:Cfg) (p:LState->Prop):LState->Prop
 |done {s:LState} (h:p s):Ends C p s
 |step {s:LState} {l:List LState} (hs:lstep C s=some l) (h:∀s'∈l,Ends C p s'):Ends C p s
 |learn {s:LState} {t:Nat} {a:LAddr} {n sz:Nat} {cs:List LV} {e:TypeId} {minv:Nat} {fz:FZ} {b:Code} (hm:s.fr.mode=.run) (ht:s.fr.todo=[.code b]) (hv:s.fr.tmps[t]? =some (.slice (some a) n (.free sz)))
  (hg:s.H.get a.id=some (.cells cs e a.ver minv fz false false)) (h:∀c,n<=c->a.ver<=a.off+c*sz->Ends C p (learnS s t a n sz c cs e minv fz)):Ends C p s
theorem Ends.sim{C:Cfg}{n0:Nat}{Kw:World->Prop}(hC:CfgOK C n0 Kw)(hmix:C.P.follows .mixedOrders=true){tail:List Frame}{p:LState->Prop}{s:LState}(h:Ends C p s):∀{ι:Gh} {g:Frame} {cs:List Frame} {W:World},Kw W->MSim C n0 tail ι s g cs W->
  ∃s' κ g' cs' X,p s'/\Steps C.P (lone g cs W) (lone g' cs' X)/\MSim C n0 tail κ s' g' cs' X/\Below n0 W X:=by
 induction h with
 |@done s h=>
  intro ι g cs W hKw hm;exact ⟨s,ι,g,cs,W,h,.refl _ _,hm,.refl _ _⟩
 |step hs _ ih=>
  intro ι g cs W hKw hm;obtain ⟨s1,hs1,κ,g1,cs1,W1,a1,a2,a3⟩:=sim_step hC hmix hKw hm hs;obtain ⟨s2,μ,g2,cs2,W2,b1,b2,b3,b4⟩:=ih s1 hs1 (hC.keep _ _ hKw a3) a2;exact ⟨s2,μ,g2,cs2,W2,b1,a1.trans b2,b3,a3.trans b4⟩
 |learn h1 h2 h3 h5 _ ih=>
  intro ι g cs W hKw hm;obtain ⟨κ,c,c1,c2,c3⟩:=learn_sim hm h1 h2 h3 h5;exact ih c c1 c2 hKw c3
def allL{α:Type}(p:α->Bool):List α->Bool
 |[]=>true
 |a::l=>match p a with
  |true=>allL p l
  |false=>false
theorem allL_iff{α:Type}{p:α->Bool}:∀{l:List α},allL p l=true↔∀a∈l,p a=true
 |[]=>by simp [allL]
 |a::l=>by
  unfold allL;cases h:p a with
  |true=>simp [h,allL_iff]
  |false=>simp [h]
def lgo(C:Cfg)(p:LState->Bool):Nat->LState->Bool
 |0,s=>p s
 |n+1,s=>match lstep C s with
  |some l=>allL (lgo C p n) l
  |none=>p s
theorem lgo_ends{C:Cfg}{p:LState->Bool}:∀(n:Nat) (s:LState),lgo C p n s=true->Ends C (fun s=>p s=true) s
 |0,s,h=>.done h
 |n+1,s,h=>by
  unfold lgo at h;split at h
  ·rename_i l hs;exact .step hs fun s' hs'=>lgo_ends n s' (allL_iff.1 h s' hs')
  ·exact .done h
theorem lrun_ends{C:Cfg}{p:LState->Prop}:∀(n:Nat) (s:LState),Ends C p (lrun C n s)->Ends C p s
 |0,s,h=>h
 |n+1,s,h=>by
  unfold lrun at h;split at h
  ·rename_i s' hs;exact .step hs fun x hx=>by
    rw [List.mem_singleton.1 hx];exact lrun_ends n s' h
  ·exact h
def finalL(C:Cfg)(f:FuncId)(s:LState):Option LV:=
 match s.cs with
 |_::_=>none
 |[]=>match s.fr.mode,s.fr.defers,s.fr.deferred,s.fr.roundOf with
  | .returning,[],false,none=>if Nat.beq s.fr.fn f then match C.P.funcs[s.fr.fn]? with
    |some fn=>match mapO (resL C s.H s.fr.tmps) fn.results.toList with
     |some vs=>some (resV vs)
     |none=>none
    |none=>none
   else none
  |_,_,_,_=>none
theorem calls_of_ends{C:Cfg}{n0:Nat}{Kw:World->Prop}(hC:CfgOK C n0 Kw)(hmix:C.P.follows .mixedOrders=true){ι:Gh}{H:LHeap}{W:World}(hW:HRel ι H W n0)(hKw:Kw W)(hg:GlobOK C ι){f:FuncId}{x:List LV}{a:Array Value}(hx:VRels ι x a.toList){fr:LFrame}
  (he:enterF C f x false=some fr) {Q:LV->Prop} (h:Ends C (fun s=>∃v,finalL C f s=some v/\Q v) ⟨fr,[],H⟩):
  Calls C.P f a W fun e X=>∃v u κ K,Q v/\e=.returned u/\VRel κ v u/\HRel κ K X n0/\Below n0 W X:=by
 intro cs;have hm:MSim C n0 cs ι ⟨fr,[],H⟩ (Frame.enter C.P f a .normal) cs W:=
  ⟨hW,hg,[],[],[],rfl,enter_rel hx he H,.nil,List.nodup_nil,fun p hp=>by cases hp⟩
 obtain ⟨s',κ,g',cs',X,⟨v,hv,hQ⟩,h1,h2,h3⟩:=h.sim hC hmix hKw hm;unfold finalL at hv;split at hv
 ·cases hv
 ·rename_i hcs;split at hv
  ·rename_i hmode hdef hdd hro;split at hv
   ·rename_i hf
    replace hf:=Nat.eq_of_beq_eq_true hf
    split at hv
    ·rename_i fn hfn;split at hv
     ·rename_i vs hvs;cases hv;obtain ⟨us,ws,gs,rfl,hF,hst,_,_⟩:=h2.all;rw [hcs] at hst;cases hst;have ht:VRels κ s'.fr.tmps g'.tmps.toList/\g'.mode=.returning:=by
       cases hF.mode with
       |run q1=>rw [hmode] at q1;cases q1
       |returning _ q2 q3 _=>exact ⟨q3,q2⟩
       |panicking q1=>rw [hmode] at q1;cases q1
      obtain ⟨u,w1,w2⟩:=results_rel h2.heap h2.glob ht.1 hvs;have hd:g'.defers=[]:=by
       have:=hF.defers;rw [hdef] at this;generalize g'.defers=gd at this;cases this;rfl
      refine ⟨.returned u,X,g',⟨_,u,κ,s'.H,hQ,rfl,w2,h2.heap,h3⟩,h1,by rw [hF.fn,hf],ht.2,hd,by rw [hF.kind,hdd];rfl,fn,by rw [hF.fn];exact hfn,w1⟩
     ·cases hv
    ·cases hv
   ·cases hv
  ·cases hv
end Go.Lm
