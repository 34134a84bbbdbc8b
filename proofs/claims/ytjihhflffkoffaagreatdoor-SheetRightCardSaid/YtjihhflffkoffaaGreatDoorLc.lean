/- Its operations against the model, second part; no condition. -/
import Derived.Test.YtjihhflffkoffaaGreatDoorLb
import Derived.Lib.UnsafeStr
import Derived.Lib.Bytealg
set_option linter.unusedSimpArgs false
set_option linter.unusedVariables false
set_option linter.unusedSectionVars false
set_option linter.unnecessarySimpa false
/- append whole, copy, clear, frozen cells, makeSlice. -/
namespace Go.Lm
open Go.RowKit (Below)
variable {P:Program}
theorem lenL_rel{ι:Gh}{x:LV}{v:Value}(hx:VRel ι x v){n:Nat}(h:lenL x=some n)(W:World):(Builtin.lenOf v).run P W=.ok n W:=by
 unfold lenL at h;split at h
 ·cases h;cases hx<;>simp [Builtin.lenOf]
 ·cases h;cases hx with |str s hs=>
  subst hs;simp [Builtin.lenOf]
 ·cases h
theorem array_two{α:Type}{a:Array α}{x y:α}{l:List α}(h:a.toList=x::y::l):a[0]? =some x/\a[1]? =some y:=by
 constructor
 ·rw [<-Array.getElem?_toList,h];rfl
 ·rw [<-Array.getElem?_toList,h];rfl
theorem array_one{α:Type}{a:Array α}{x:α}{l:List α}(h:a.toList=x::l):a[0]? =some x:=by
 rw [<-Array.getElem?_toList,h];rfl
theorem firstCells_heap{size n:Nat}{v:Value}{W X:World}(hX:X.heap=W.heap){arr:Array Value}(h:(Builtin.firstCells size n v).run P W=.ok arr W)
  (hc:∀b m c,v=.slice (some b) m c->∀j,j<n*size->∃u,W.cell? (b.add j)=some u):(Builtin.firstCells size n v).run P X=.ok arr X:=by
 unfold Builtin.firstCells at h |-;split
 ·rename_i b m c;simp only at h;have hcell:∀x,X.cell? x=W.cell? x:=fun x=>by simp only [World.cell?,hX]
  have key:∀(k i:Nat) (acc r:Array Value),i+k<=n*size->(loadCellsFrom b i k acc).run P W=.ok r W->(loadCellsFrom b i k acc).run P X=.ok r X:=by
   intro k;induction k with
   |zero=>intro i acc r _ g;simp [loadCellsFrom] at g |-;exact g
   |succ k ih=>
    intro i acc r hi g;obtain ⟨u,hu⟩:=hc b m c rfl i (by omega);simp only [loadCellsFrom,Sem.run_bind,run_load,hcell,hu,Result.andThen_ok] at g |-;exact ih _ _ _ (by omega) g
  exact key _ _ _ _ (by simp) h
 ·simp only [Sem.run_pure] at h |-;cases h;rfl
 ·simp only [Sem.run_pure] at h |-;cases h;rfl
 ·simp at h
theorem firstCellsL_all{ι:Gh}{H:LHeap}{W:World}{n0:Nat}(h:HRel ι H W n0){size n:Nat}{x:LV}{v:Value}(hx:VRel ι x v){cs:List LV}(hc:firstCellsL H size n x=some cs):
  ∃arr:Array Value,VRels ι cs arr.toList/\∀X:World,X.heap=W.heap->(Builtin.firstCells size n v).run P X=.ok arr X:=by
 obtain ⟨arr,h1,h2⟩:=firstCellsL_rel (P:=P) h hx hc;refine ⟨arr,h2,fun X hX=>firstCells_heap hX h1 ?_⟩;rintro b m c rfl j hj;unfold firstCellsL at hc;cases hx with
 |slice hp hd hn=>
  simp only at hc;split at hc
  ·rename_i hnm;rw [Nat.ble_eq] at hnm;have hm0:0<m:=by
    rcases Nat.eq_zero_or_pos n with e |e
    ·subst e;simp at hj
    ·omega
   obtain ⟨vs,v1,v2,_,v4⟩:=load_rel h (hp (by omega)) hc;exact ⟨_,v4 j _ (List.getElem?_eq_getElem (by omega))⟩
  ·cases hc
 |free hf=>
  simp only at hc;split at hc
  ·rename_i hnm;rw [Nat.ble_eq] at hnm;have hm0:0<m:=by
    rcases Nat.eq_zero_or_pos n with e |e
    ·subst e;simp at hj
    ·omega
   obtain ⟨vs,v1,v2,_,v4⟩:=load_rel h (PRel.of_free hf hm0) hc;exact ⟨_,v4 j _ (List.getElem?_eq_getElem (by omega))⟩
  ·cases hc
 |junk=>simp at hc
 |lost=>simp at hc
theorem appendL_rel{ι:Gh}{H:LHeap}{W:World}{n0:Nat}(h:HRel ι H W n0){at_:Array TypeId}{x:List LV}{a:Array Value}(hx:VRels ι x a.toList)(ty:TypeId){r:LV}{H':LHeap}
  (ha:appendL P H at_.toList x=some (r,H')):
  ∃κ X v,(Builtin.append_ at_ ty a).run P W=.ok v X/\VRel κ r v/\HRel κ H' X n0/\On ι H W κ H' X n0:=by
 unfold appendL at ha;obtain ⟨al,hal⟩:∃al,a.toList=al:=⟨_,rfl⟩;rw [hal] at hx;split at ha
 ·rename_i st xts s y ys hat;cases hx with |@cons _ sv _ m hs hx'=>cases hx' with |@cons _ xv _ m' hy hx''=>
  have ga:=array_two hal;split at ha
  ·cases ha
  ·rename_i e he;have hu:=elemOfSlice_some he;split at ha
   ·rename_i size bytes hsz hby
    split at ha
    ·rename_i xt xts';have gt:=array_two hat;have nil:∀(n:Nat) (hxt:(P.underlying xt).isSome) (arr:Array Value),AppSrc P W e (size+1) xt xv n arr->(∃b len c,sv=.slice b len c/\len<=c)->n=0->arr.toList=[]->(Builtin.append_ at_ ty a).run P W=.ok sv W:=by
      rintro n hxt arr src ⟨b,len,c,rfl,hlc⟩ rfl harr;obtain ⟨d,hd⟩:=Option.isSome_iff_exists.1 hxt;rcases src.src with ⟨hi,hlen,hfc⟩ |⟨_,_,_,h0,_⟩
      ·have hne:=isInt_not hd hi;cases d with
       |int k=>exact absurd rfl (hne k)
       |_=>
        simp only [Builtin.append_,gt.1,gt.2,ga.1,ga.2,Sem.run_bind,run_underlying hu,Result.andThen_ok,run_sizeOf hsz,run_underlying hd,Sem.run_pure,Bool.false_eq_true,if_false,hlen,Nat.add_zero,hlc,if_true,
         Bool.not_false,hfc W rfl]
        cases b with
        |none=>simp
        |some b=>simp [harr,storeCells]
      ·simp at h0
     have hsl:∀{n:Nat} {new:List LV},appendCells P H e (size+1) bytes s new n=some (r,H')->∃b len c,sv=.slice b len c/\len<=c:=by
      intro n new hap;unfold appendCells at hap;split at hap
      ·cases hs with
       |nilslice=>exact ⟨_,_,_,rfl,Nat.le_refl _⟩
       |slice _ _ hn=>exact ⟨_,_,_,rfl,hn⟩
       |free hf=>exact ⟨_,_,_,rfl,by obtain ⟨_,_,_,h,_⟩:=hf;exact h⟩
      ·cases hap
     split at ha
     ·rename_i hint;split at ha
      ·rename_i k n;split at ha
       ·rename_i z hz;split at ha
        ·rename_i hn;rw [Nat.ble_eq] at hn;cases hy;obtain ⟨zv,hzr,hzrun⟩:=run_zeroValue hz ι;have hznl:z≠.lost:=by
          obtain ⟨_,_,_,_,hto⟩:=zeroOf_some hz;exact toLV_not_lost hto
         have hxt:(P.underlying xt).isSome:=by
          unfold isIntT at hint;split at hint
          ·simp_all
          ·cases hint
         have hap:=ha;unfold appendCells at hap;split at hap
         ·rename_i a1 len cap;split at hap
          ·rename_i hn0;cases hap;have:=Nat.eq_of_beq_eq_true hn0;subst this;obtain ⟨b,len',c,rfl,hlc⟩:=hsl ha;refine ⟨ι,W,_,?_,hs,h,.refl _ _ _ _⟩;obtain ⟨d,hd⟩:=Option.isSome_iff_exists.1 hxt;obtain ⟨j,rfl⟩:=isInt_yes hd hint;obtain ⟨ie,hie,hby'⟩:=bytesOfT_some hby
           have hw:IntKind.i64.wrap (Int.ofNat 0)=0:=by kernel_rfl
           have h48:¬((0:Int)*(ie.bytes:Int)>2 ^ 48):=by simp
           simp only [Builtin.append_,gt.1,gt.2,ga.1,ga.2,Sem.run_bind,run_underlying hu,Result.andThen_ok,run_sizeOf hsz,run_underlying hd,Sem.run_pure,if_true,asInt,asIntOf,hw,run_typeInfo hie];rw [if_neg (by decide)];simp only [Sem.run_bind,run_typeInfo hie,Result.andThen_ok];rw [if_neg h48];simp only [Sem.run_pure,Result.andThen_ok,Int.toNat_zero,Nat.add_zero,hlc,if_true,Bool.not_true,Bool.false_eq_true,if_false,Nat.zero_mul];cases b<;>simp [storeCells]<;>intro hc<;>omega
          ·rename_i hn0;split at hap
           ·cases hap
           ·rename_i hsm;simp only [Bool.not_eq_true',Bool.not_eq_false,Bool.and_eq_true,Nat.ble_eq] at hsm;split at hap
            ·cases hap
            ·rename_i z' hz';rw [hz] at hz';cases hz';split at hap
             ·cases hap
             ·rename_i hzl;simp only [Bool.not_eq_true',Bool.not_eq_false,Bool.and_eq_true] at hzl;obtain ⟨hzl,hzall⟩:=hzl
              replace hzl:=Nat.eq_of_beq_eq_true hzl
              have hzc:=hzr.cells' hznl;have hzs:zv.cells.size=size+1:=by
               have e1:=hzc.len;have e2:zv.cells.toList.length=zv.cells.size:=Array.length_toList;omega
              have hnpos:0<n:=by
               rcases Nat.eq_zero_or_pos n with e |e
               ·subst e;exact absurd rfl hn0
               ·exact e
              have hnew:VRels ι (repl n z.cells []) (Builtin.zeroCells zv.cells n).toList:=by
               rw [repl_eq,List.append_nil,zeroCells_rep (by omega)];exact hzc.rep n
              have src:AppSrc P W e (size+1) xt (.int k (Int.ofNat n)) n (Builtin.zeroCells zv.cells n):=⟨.inr ⟨hint,⟨k,rfl⟩,hn,Nat.mul_pos hnpos (by omega),zv,hzrun,rfl⟩⟩;exact appendCells_rel h hs hnew hu hsz (by omega) hxt hby src ty at_ a gt.1 gt.2 ga.1 ga.2 ha (fun e=>by omega)
         ·cases hap
        ·cases ha
       ·cases ha
      ·cases ha
     ·rename_i hint;have hint':isIntT P xt=false:=by simpa using hint
      split at ha
      ·cases ha
      rename_i hxn;have hxt:(P.underlying xt).isSome:=by cases h:P.underlying xt<;>simp_all
      split at ha
      ·rename_i n hn;split at ha
       ·rename_i new hnew;obtain ⟨arr,hr,hrun⟩:=firstCellsL_all (P:=P) h hy hnew;have src:AppSrc P W e (size+1) xt xv n arr:=⟨.inl ⟨hint',lenL_rel hy hn,hrun⟩⟩;refine appendCells_rel h hs hr hu hsz (by omega) hxt hby src ty at_ a gt.1 gt.2 ga.1 ga.2 ha (fun e=>nil n hxt arr src (hsl ha) e ?_);have h1:=firstCells_len hnew;have h2:=hr.len;rw [e,Nat.zero_mul] at h1;exact List.eq_nil_of_length_eq_zero (by omega)
       ·cases ha
      ·cases ha
    ·cases ha
   ·cases ha
 ·cases ha
theorem copyL_rel{ι:Gh}{H:LHeap}{W:World}{n0:Nat}(h:HRel ι H W n0){at_:Array TypeId}{x:List LV}{a:Array Value}(hx:VRels ι x a.toList)(ty:TypeId){r:LV}{H':LHeap}
  (hc:copyL P H at_.toList x=some (r,H')):
  ∃X v,(Builtin.copy_ at_ ty a).run P W=.ok v X/\VRel ι r v/\HRel ι H' X n0/\On ι H W ι H' X n0:=by
 unfold copyL at hc;obtain ⟨al,hal⟩:∃al,a.toList=al:=⟨_,rfl⟩;rw [hal] at hx;split at hc
 ·rename_i dt ts a1 dl cap src ys hat;cases hx with |@cons _ dv _ m hd hx'=>cases hx' with |@cons _ sv _ m' hs hx''=>
  have ga:=array_two hal;have gt:=array_one hat;split at hc
  ·cases hc
  ·rename_i e he;have hu:=elemOfSlice_some he;split at hc
   ·rename_i size hsz;split at hc
    ·rename_i sl hsl;split at hc
     ·rename_i cs hcs;obtain ⟨arr,hr,hrun⟩:=firstCellsL_all (P:=P) h hs hcs;have hlen:=lenL_rel (P:=P) hs hsl W;split at hc
      ·rename_i a2;split at hc
       ·rename_i H1 hst;cases hc;obtain ⟨b,c,rfl,hlc,hp⟩:=slice_place hd;have fin:∀X:World,(storeCells b arr.toList).run P W=.ok () X->(Builtin.copy_ at_ ty a).run P W=.ok (.int .i64 (min sl dl:Nat)) X:=by
         intro X hX;simp only [Builtin.copy_,gt,ga.1,ga.2,Sem.run_bind,run_underlying hu,Result.andThen_ok,hlen,run_sizeOf hsz];rw [show Nat.min sl dl=min sl dl from rfl,hrun W rfl];simp only [Result.andThen_ok,Sem.run_bind,hX,Sem.run_pure];rfl
        by_cases hz:min sl dl*(size+1)=0
        ·have hcl:=firstCells_len hcs;rw [hz] at hcl;have hcn:=List.eq_nil_of_length_eq_zero hcl;subst hcn;cases storeN_nil hst;have harr:arr.toList=[]:=List.eq_nil_of_length_eq_zero (by rw [<-hr.len];rfl);exact ⟨W,_,fin W (by rw [harr];simp [storeCells]),.int _ _,h,.refl _ _ _ _⟩
        ·have hdl:0<dl:=by
          rcases Nat.eq_zero_or_pos dl with e |e
          ·subst e;simp at hz
          ·exact e
         obtain ⟨X,x1,x2,x3⟩:=store_rel (P:=P) h (hp hdl) hr hst;exact ⟨X,_,fin X x1,.int _ _,x2,x3⟩
       ·cases hc
      ·cases hc;have hdv:∃m,dv=.slice none dl m:=by cases hd;exact ⟨_,rfl⟩
       obtain ⟨m,rfl⟩:=hdv;refine ⟨W,_,?_,.int _ _,h,.refl _ _ _ _⟩;simp only [Builtin.copy_,gt,ga.1,ga.2,Sem.run_bind,run_underlying hu,Result.andThen_ok,hlen,run_sizeOf hsz];rw [show Nat.min sl dl=min sl dl from rfl,hrun W rfl];simp only [Result.andThen_ok,Sem.run_pure];rfl
     ·cases hc
    ·cases hc
   ·cases hc
 ·cases hc
theorem clearL_rel{ι:Gh}{H:LHeap}{W:World}{n0:Nat}(h:HRel ι H W n0){at_:Array TypeId}{x:List LV}{a:Array Value}(hx:VRels ι x a.toList)(ty:TypeId){r:LV}{H':LHeap}
  (hc:clearL P H at_.toList x=some (r,H')):
  ∃X v,(Builtin.clear_ at_ ty a).run P W=.ok v X/\VRel ι r v/\HRel ι H' X n0/\On ι H W ι H' X n0:=by
 unfold clearL at hc;obtain ⟨al,hal⟩:∃al,a.toList=al:=⟨_,rfl⟩;rw [hal] at hx;split at hc
 ·rename_i t ts x1 ys hat;cases hx with |@cons _ sv _ m hs hx'=>
  have ga:=array_one hal;have gt:=array_one hat;split at hc
  ·rename_i e hu;split at hc
   ·cases hc;cases hs;refine ⟨W,_,?_,.tuple .nil,h,.refl _ _ _ _⟩;simp [Builtin.clear_,gt,ga,run_underlying hu]
   ·rename_i a2 n cap;split at hc
    ·rename_i z hz;split at hc
     ·rename_i H1 hst;cases hc;obtain ⟨b,c,rfl,hlc,hp⟩:=slice_place hs;obtain ⟨zv,hzr,hzrun⟩:=run_zeroValue hz ι;have hznl:z≠.lost:=by
       obtain ⟨_,_,_,_,hto⟩:=zeroOf_some hz;exact toLV_not_lost hto
      have hzc:=hzr.cells' hznl;cases n with
      |zero=>
       have:repl 0 z.cells []=[]:=rfl;rw [this] at hst;cases storeN_nil hst;refine ⟨W,_,?_,.tuple .nil,h,.refl _ _ _ _⟩;simp [Builtin.clear_,gt,ga,run_underlying hu]
      |succ n=>
       have hnew:VRels ι (repl (n+1) z.cells []) (Builtin.zeroCells zv.cells (n+1)).toList:=by
        by_cases hz0:0<zv.cells.size
        ·rw [repl_eq,List.append_nil,zeroCells_rep hz0];exact hzc.rep _
        ·have e1:zv.cells.size=0:=by omega
         have e2:=hzc.len;have e3:zv.cells.toList.length=zv.cells.size:=Array.length_toList;have e4:z.cells=[]:=List.eq_nil_of_length_eq_zero (by omega);rw [repl_eq,List.append_nil,e4];have e5:(Builtin.zeroCells zv.cells (n+1)).toList=[]:=by simp [Builtin.zeroCells,e1]
         rw [e5];simp;exact .nil
       obtain ⟨X,x1,x2,x3⟩:=store_rel (P:=P) h (hp (by omega)) hnew hst;refine ⟨X,_,?_,.tuple .nil,x2,x3⟩;simp only [Builtin.clear_,gt,ga,Sem.run_bind,run_underlying hu,Result.andThen_ok,hzrun,x1,Sem.run_pure]
     ·cases hc
    ·cases hc
   ·cases hc
  ·cases hc
 ·cases hc
theorem freezeL_rel{ι:Gh}{H H':LHeap}{W:World}{n0:Nat}(h:HRel ι H W n0){a:LAddr}{b:Addr}(hp:PRel ι a b){n:Nat}(hn:0<n)(hf:freezeL H a n=some H'):
  HRel ι H' (W.freeze b n) n0/\On ι H W ι H' (W.freeze b n) n0:=by
 obtain ⟨l,hl,h0,rfl⟩:=hp;unfold freezeL at hf;split at hf
 ·rename_i cs e ver minv fz ro wh hg;split at hf
  ·rename_i hc;simp only [Bool.and_eq_true,Bool.not_eq_true'] at hc;obtain ⟨hver,hro⟩:=hc
   replace hver:=Nat.eq_of_beq_eq_true hver
   subst hro;rw [hver] at hl;obtain ⟨hlen,hm,hall,_,hwh,h6,h7⟩:=cells_of_get h hl hg;obtain ⟨c,fr,hC⟩:=(h6 _ _ hl).2 hm;have hfz:=hC.fz rfl;have hw:W.freeze ⟨l.blk,((a.off:Int)+l.sh).toNat,none⟩ n={ W with heap:=W.heap.setIfInBounds l.blk (.cells c e
     (if fr.1==fr.2 then (((a.off:Int)+l.sh).toNat,((a.off:Int)+l.sh).toNat+n) else (min fr.1 ((a.off:Int)+l.sh).toNat,max fr.2 (((a.off:Int)+l.sh).toNat+n)))) }:=by
    unfold World.freeze;rw [if_neg (by omega)];congr 1;have hk:l.blk<W.heap.size:=(Array.getElem?_eq_some_iff.1 hC.here).1;have hv:W.heap[l.blk]=.cells c e fr:=(Array.getElem?_eq_some_iff.1 hC.here).2;apply Array.ext
    ·simp
    ·intro j h1 h2;rw [Array.getElem_modify,Array.getElem_setIfInBounds];split
     ·rename_i hj;subst hj;simp [hv]
     ·rfl
   have put:∀fz',FzRel fz' l (if fr.1==fr.2 then (((a.off:Int)+l.sh).toNat,((a.off:Int)+l.sh).toNat+n) else (min fr.1 ((a.off:Int)+l.sh).toNat,max fr.2 (((a.off:Int)+l.sh).toNat+n)))->
     (∀m fr',FzRel fz m fr'->FzRel fz' m fr')->
     HRel ι (H.put a.id (.cells cs e ver minv fz' false wh)) (W.freeze ⟨l.blk,((a.off:Int)+l.sh).toNat,none⟩ n) n0/\On ι H W ι (H.put a.id (.cells cs e ver minv fz' false wh)) (W.freeze ⟨l.blk,((a.off:Int)+l.sh).toNat,none⟩ n) n0:=by
    intro fz' hz1 hz2;rw [hw];refine h.put_cells hl hg hlen hm (fun e=>e) hall hC.tot hz1 (hC.one rfl) ?_ ?_
    ·intro j x hx hj;have:j<ver:=by have:=(List.getElem?_eq_some_iff.1 hx).1;omega
     exact hC.cell j x hx this hj
    ·intro u m hu hne hge;obtain ⟨c2,fr2,hC2⟩:=(h6 u m hu).2 hge;by_cases hb:m.blk=l.blk
     ·have:=h7 u ver m l hu hl hb;subst this;have e2:=hC2.here;rw [hC.here] at e2;cases e2;refine ⟨c,_,?_,hC2.tot,hC2.fits,fun _=>hz1,hC2.one,hC2.cell⟩;show (W.heap.setIfInBounds m.blk _)[m.blk]? =_;rw [Array.getElem?_setIfInBounds_self_of_lt (Array.getElem?_eq_some_iff.1 hC.here).1]
     ·refine ⟨c2,fr2,?_,hC2.tot,hC2.fits,fun _=>hz2 _ _ (hC2.fz rfl),hC2.one,hC2.cell⟩;show (W.heap.setIfInBounds l.blk _)[m.blk]? =_;rw [Array.getElem?_setIfInBounds_ne (by omega)];exact hC2.here
   split at hf
   ·cases hf;refine put (.range a.off (a.off+n)) ?_ ?_
    ·rcases hfz with hq |hq
     ·rw [if_pos (by simpa using hq)];exact .inr ⟨by simp only;omega,by simp only;push_cast;omega⟩
     ·exact hq.elim
    ·intro m fr' hq;rcases hq with hq |hq
     ·exact .inl hq
     ·exact hq.elim
   ·rename_i lo hi;cases hf;refine put (.range (min lo a.off) (max hi (a.off+n))) ?_ ?_
    ·rcases hfz with hq |hq
     ·rw [if_pos (by simpa using hq)];exact .inr ⟨by simp only;omega,by simp only;push_cast;omega⟩
     ·by_cases hq2:fr.1=fr.2
      ·rw [if_pos (by simpa using hq2)];exact .inr ⟨by simp only;omega,by simp only;push_cast;omega⟩
      ·rw [if_neg (by simpa using hq2)];obtain ⟨q1,q2⟩:=hq;exact .inr ⟨by simp only;omega,by simp only;omega⟩
    ·intro m fr' hq;rcases hq with hq |⟨q1,q2⟩
     ·exact .inl hq
     ·exact .inr ⟨by omega,by omega⟩
   ·cases hf
  ·cases hf
 ·cases hf
end Go.Lm

/- Maps, and what ranges over strings and maps. -/
namespace Go.Lm
open Go.RowKit (Below)
variable {P:Program}
theorem plain_at{ι:Gh}{H:LHeap}{W:World}{n0:Nat}(h:HRel ι H W n0){i:Nat}{l:Loc}(hl:ι i 0=some l){o:LObj}(hg:H.get i=some o)(hc:o.isCells=false):
  ∃b,W.heap[l.blk]? =some b/\PlainRel ι o b:=by
 obtain ⟨_,_,o',ho,hr⟩:=h.dom i 0 l hl;rw [hg] at ho;cases ho;obtain ⟨l',b,hl',_,_,hb,hp⟩:=hr.plain hc;rw [hl] at hl';cases hl';exact ⟨b,hb,hp⟩
theorem run_getObj{W:World}{r:Nat}{o:Obj}(h:W.heap[r]? =some o)(hc:∀c e f,o≠.cells c e f):(getObj r).run P W=.ok o W:=by
 unfold getObj;cases o<;>first |exact absurd rfl (hc _ _ _) |simp only [Sem.run,h]
theorem run_setObj{W:World}{r:Nat}{o:Obj}(h:W.heap[r]? =some o)(hc:∀c e f,o≠.cells c e f)(o':Obj):(setObj r o').run P W=.ok () { W with heap:=W.heap.setIfInBounds r o' }:=by
 unfold setObj;cases o<;>first |exact absurd rfl (hc _ _ _) |simp only [Sem.run,h]
theorem getMap_some{H:LHeap}{r:Nat}{es:List LEntry}{c:Nat}(h:getMap H r=some (es,c)):H.get r=some (.map es c):=by
 unfold getMap at h;split at h
 ·cases h;assumption
 ·cases h
theorem map_at{ι:Gh}{H:LHeap}{W:World}{n0:Nat}(h:HRel ι H W n0){r:Nat}{l:Loc}(hl:ι r 0=some l){es:List LEntry}{c:Nat}(hm:getMap H r=some (es,c)):
  ∃ces:Array MapEntry,W.heap[l.blk]? =some (.map ces c)/\Rels (ERel ι) es ces.toList:=by
 obtain ⟨b,hb,hp⟩:=plain_at h hl (getMap_some hm) rfl;cases hp with |map _ hr=>exact ⟨_,hb,hr⟩
theorem run_getMap{ι:Gh}{H:LHeap}{W:World}{n0:Nat}(h:HRel ι H W n0){r:Nat}{l:Loc}(hl:ι r 0=some l){es:List LEntry}{c:Nat}(hm:getMap H r=some (es,c)):
  ∃ces:Array MapEntry,(getObj l.blk).run P W=.ok (.map ces c) W/\Rels (ERel ι) es ces.toList/\W.heap[l.blk]? =some (.map ces c):=by
 obtain ⟨ces,hb,hr⟩:=map_at h hl hm;exact ⟨ces,run_getObj hb (by intros;simp),hr,hb⟩
theorem keyOk_rel{ι:Gh}(e:Bool):∀(n:Nat) (t:TypeId) (k:LV),keyOk P n t k=true->∀(v:Value),VRel ι k v->∀m,n<=m->∀W,(Instr.checkKey e m t v).run P W=.ok () W
 |0,_,_,h,_,_,_,_,_=>by simp [keyOk] at h
 |n+1,t,k,h,v,hv,m,hm,W=>by
  obtain ⟨m,rfl⟩:∃q,m=q+1:=⟨m-1,by omega⟩;simp only [keyOk] at h;split at h
  ·rename_i d hu;split at h
   ·rename_i fs cs;cases hv with |@agg _ va ha=>
    simp only [Instr.checkKey,Sem.run_bind,run_underlying hu,Result.andThen_ok];rw [<-Array.forIn_toList];have key:∀(l:List Field),keyOk.fieldsOk P (fun t x=>keyOk P n t x) cs l=true->(forIn l PUnit.unit fun f _=>
      (if f.name≠ "_" then do
        let x <-part f.type va f.offset
        Instr.checkKey e m f.type x
        pure (ForInStep.yield PUnit.unit)
      else pure (ForInStep.yield PUnit.unit):Sem (ForInStep PUnit))).run P W=.ok PUnit.unit W:=by
     intro l;induction l with
     |nil=>intro _;rfl
     |cons f l ih=>
      intro hl;simp only [keyOk.fieldsOk,Bool.and_eq_true,Bool.not_eq_true'] at hl;obtain ⟨⟨h1,h2⟩,h3⟩:=hl;have hn:f.name≠ "_":=by simpa using h1
      split at h2
      ·rename_i x hx;obtain ⟨u,hu,hur⟩:=part_rel hx ha;have:=keyOk_rel e n f.type x h2 u hu m (by omega) W;simp only [List.forIn_cons,hn,ne_eq,not_false_eq_true,if_true,Sem.run_bind,hur,Result.andThen_ok,this,Sem.run_pure];exact ih h3
      ·cases h2
    rw [key _ h];rfl
   ·cases hv;simp [Instr.checkKey,run_underlying hu]
   ·cases hv;simp [Instr.checkKey,run_underlying hu]
   ·cases hv;simp [Instr.checkKey,run_underlying hu]
   ·cases h
  ·cases h
theorem eqL_int{n:Nat}{t:TypeId}{kk:IntKind}(hd:P.underlying t=some (.int kk)){x y:LV}{b:Bool}(h:eqL P n t x y=some b):∃k a c,x=.int k a/\y=.int k c/\b=(a==c):=by
 cases n with
 |zero=>simp [eqL] at h
 |succ n=>
  simp only [eqL,hd] at h;split at h<;>first
   |(cases h;done)
   |(split at h<;>first
      |(cases h;done)
      |(rename_i hk;have:=eq_of_beq hk;subst this;cases h;exact ⟨_,_,_,rfl,rfl,rfl⟩))
   |simp_all
theorem eqL_str{n:Nat}{t:TypeId}(hd:P.underlying t=some .string){x y:LV}{b:Bool}(h:eqL P n t x y=some b):∃a c,x=.str a/\y=.str c/\b=(a==c):=by
 cases n with
 |zero=>simp [eqL] at h
 |succ n=>
  simp only [eqL,hd] at h;split at h<;>first
   |(cases h;exact ⟨_,_,rfl,rfl,rfl⟩)
   |(cases h;done)
   |simp_all
theorem eqL_bool{n:Nat}{t:TypeId}(hd:P.underlying t=some .bool){x y:LV}{b:Bool}(h:eqL P n t x y=some b):∃a c,x=.bool a/\y=.bool c/\b=(a==c):=by
 cases n with
 |zero=>simp [eqL] at h
 |succ n=>
  simp only [eqL,hd] at h;split at h<;>first
   |(cases h;exact ⟨_,_,rfl,rfl,rfl⟩)
   |(cases h;done)
   |simp_all
theorem bytes_beq(a b:ByteArray):(a==b)=(a.data.toList==b.data.toList):=by rw [beq_toListBytes,bytes_toList,bytes_toList]
theorem sameNow_rel{ι:Gh}{kt:TypeId}{k k':LV}{v v':Value}(hk:VRel ι k v)(hk':VRel ι k' v'){dd:TypeDesc}(hdd:P.underlying kt=some dd){n:Nat}{b:Bool}(h:eqL P n kt k k'=some b):
  (match dd with | .int _ | .string | .bool=>Instr.sameNow dd v v'=some b |_=>Instr.sameNow dd v v'=none):=by
 cases dd with
 |int kk=>
  obtain ⟨q,a,c,rfl,rfl,rfl⟩:=eqL_int hdd h;cases hk;cases hk';simp [Instr.sameNow]
 |string=>
  obtain ⟨a,c,rfl,rfl,rfl⟩:=eqL_str hdd h;cases hk with |str s hs=>cases hk' with |str r hr=>
  subst hs;subst hr;simp only [Instr.sameNow,bytes_beq]
 |bool=>
  obtain ⟨a,c,rfl,rfl,rfl⟩:=eqL_bool hdd h;cases hk;cases hk';simp [Instr.sameNow]
 |_=>rfl
theorem findL_rel{ι:Gh}{H:LHeap}{W:World}{n0:Nat}(h:HRel ι H W n0){kt:TypeId}{k:LV}{v:Value}(hk:VRel ι k v){dd:TypeDesc}(hdd:P.underlying kt=some dd):∀{es:List LEntry} {ces:List MapEntry},Rels (ERel ι) es ces->
  ∀(i:Nat) (r:Option (Nat×LEntry)),findL P kt k es i=some r->
   ∃cr:Option (Nat×Value),(Instr.findAsking kt v ces i).run P W=.ok cr W/\(Instr.findNow dd v ces i=some cr\/Instr.findNow dd v ces i=none)/\
    match r with |none=>cr=none |some (j,e)=>i<=j/\es[j-i]? =some e/\∃u,cr=some (j,u)/\VRel ι e.val u
 |_,_,.nil,i,r,hf=>by
  simp only [findL,Option.some.injEq] at hf;subst hf;exact ⟨none,by simp [Instr.findAsking],.inl rfl,rfl⟩
 |_,_,@Rels.cons _ _ _ e c es ces he t,i,r,hf=>by
  simp only [findL] at hf;split at hf
  ·rename_i heq;cases hf;have hrun:=eqL_rel h 50 kt k e.key true heq v c.key hk he.key Op.maxDepth (by decide);have hnow:=sameNow_rel hk he.key hdd heq;refine ⟨some (i,c.val),?_,?_,Nat.le_refl _,by simp,c.val,rfl,he.val⟩
   ·simp only [Instr.findAsking,Sem.run_bind,Op.equal,hrun,Result.andThen_ok,if_true,Sem.run_pure]
   ·cases dd<;>simp only at hnow<;>first
     |(left;simp only [Instr.findNow,hnow];done)
     |(right;simp only [Instr.findNow,hnow];done)
  ·rename_i heq;have hrun:=eqL_rel h 50 kt k e.key false heq v c.key hk he.key Op.maxDepth (by decide);have hnow:=sameNow_rel hk he.key hdd heq;obtain ⟨cr,h1,h2,h3⟩:=findL_rel h hk hdd t (i+1) r hf;refine ⟨cr,?_,?_,?_⟩
   ·simp only [Instr.findAsking,Sem.run_bind,Op.equal,hrun,Result.andThen_ok,Bool.false_eq_true,if_false];exact h1
   ·cases dd<;>simp only at hnow<;>first
     |(simp only [Instr.findNow,hnow];exact h2)
     |(right;simp only [Instr.findNow,hnow];done)
   ·cases r with
    |none=>exact h3
    |some p=>
     obtain ⟨j,e'⟩:=p;obtain ⟨g1,g2,g3⟩:=h3;refine ⟨by omega,?_,g3⟩;rw [show j-i=(j-(i+1))+1 by omega];simpa using g2
  ·cases hf
theorem findKey_rel{ι:Gh}{H:LHeap}{W:World}{n0:Nat}(h:HRel ι H W n0){kt:TypeId}{k:LV}{v:Value}(hk:VRel ι k v){dd:TypeDesc}(hdd:P.underlying kt=some dd){es:List LEntry}{ces:List MapEntry}(hr:Rels (ERel ι) es ces)
  {r:Option (Nat×LEntry)} (hf:findL P kt k es 0=some r):
  ∃cr:Option (Nat×Value),(Instr.findKey kt v ces).run P W=.ok cr W/\match r with |none=>cr=none |some (j,e)=>es[j]? =some e/\∃u,cr=some (j,u)/\VRel ι e.val u:=by
 obtain ⟨cr,h1,h2,h3⟩:=findL_rel h hk hdd hr 0 r hf;refine ⟨cr,?_,?_⟩
 ·unfold Instr.findKey;simp only [Sem.run_bind,run_underlying hdd,Result.andThen_ok];rcases h2 with h2 |h2
  ·simp only [h2,Sem.run_pure]
  ·simp only [h2,h1]
 ·cases r with
  |none=>exact h3
  |some p=>obtain ⟨j,e⟩:=p;exact ⟨by simpa using h3.2.1,h3.2.2⟩
theorem keyOk_desc{n:Nat}{t:TypeId}{k:LV}(h:keyOk P n t k=true):∃d,P.underlying t=some d:=by
 cases n with
 |zero=>simp [keyOk] at h
 |succ n=>
  simp only [keyOk] at h;split at h
  ·exact ⟨_,by assumption⟩
  ·cases h
theorem lookupL_rel{ι:Gh}{H:LHeap}{W:World}{n0:Nat}(h:HRel ι H W n0){t:TypeId}{x k:LV}{v w:Value}(hx:VRel ι x v)(hk:VRel ι k w){ok:Bool}{r:LV}(hl:lookupL P H t x k ok=some r):
  ∃u,VRel ι r u/\(Instr.lookup t v w ok).run P W=.ok u W:=by
 have two:∀{y:LV} {u:Value} (b:Bool),VRel ι y u->VRel ι (if ok then .tuple [y,.bool b] else y) (if ok then .tuple #[u,.bool b] else u):=by
  intro y u b e;cases ok
  ·exact e
  ·exact .tuple (.cons e (.cons (.bool _) .nil))
 unfold lookupL at hl;split at hl
 ·rename_i kt et hu;split at hl
  ·cases hl
  ·rename_i hko;simp only [Bool.not_eq_true',Bool.not_eq_false] at hko;obtain ⟨dd,hdd⟩:=keyOk_desc hko;split at hl
   ·cases hl
   ·rename_i es hes;have hent:∃ces:Array MapEntry,Rels (ERel ι) es ces.toList/\((v=.map none/\ces=#[])\/∃r c,v=.map (some r)/\(getObj r).run P W=.ok (.map ces c) W):=by
     unfold entriesOf at hes;split at hes
     ·cases hes;cases hx;exact ⟨#[],.nil,.inl ⟨rfl,rfl⟩⟩
     ·rename_i r';split at hes
      ·rename_i es' c hm;cases hes;cases hx with |map hr'=>
       obtain ⟨ces,g1,g2,_⟩:=run_getMap (P:=P) h hr' hm;exact ⟨ces,g2,.inr ⟨_,_,rfl,g1⟩⟩
      ·cases hes
     ·cases hes
    obtain ⟨ces,hr,hrun⟩:=hent;have hck:=keyOk_rel (P:=P) ces.isEmpty 20 kt k hko w hk 10000 (by omega) W;have fin1:∀(j:Nat) (u:Value),(Instr.findKey kt w ces.toList).run P W=.ok (some (j,u)) W->(Instr.lookup t v w ok).run P W=.ok (if ok then .tuple #[u,.bool true] else u) W:=by
     intro j u h1;rcases hrun with ⟨rfl,rfl⟩ |⟨r',c,rfl,hg⟩
     ·simp only [Instr.lookup,Sem.run_bind,run_underlying hu,Result.andThen_ok,Sem.run_pure,hck,h1]
     ·simp only [Instr.lookup,Sem.run_bind,run_underlying hu,Result.andThen_ok,Sem.run_pure,hg,hck,h1]
    have fin2:∀(u:Value),(zeroValue et).run P W=.ok u W->(Instr.findKey kt w ces.toList).run P W=.ok none W->(Instr.lookup t v w ok).run P W=.ok (if ok then .tuple #[u,.bool false] else u) W:=by
     intro u hz h1;rcases hrun with ⟨rfl,rfl⟩ |⟨r',c,rfl,hg⟩
     ·simp only [Instr.lookup,Sem.run_bind,run_underlying hu,Result.andThen_ok,Sem.run_pure,hck,h1,hz]
     ·simp only [Instr.lookup,Sem.run_bind,run_underlying hu,Result.andThen_ok,Sem.run_pure,hg,hck,h1,hz]
    split at hl
    ·rename_i j e hf;cases hl;obtain ⟨cr,c1,c2⟩:=findKey_rel h hk hdd hr hf;obtain ⟨_,u,rfl,hu'⟩:=c2;exact ⟨_,two true hu',fin1 _ u c1⟩
    ·rename_i hf;split at hl
     ·rename_i z hz;cases hl;obtain ⟨cr,c1,c2⟩:=findKey_rel h hk hdd hr hf;simp only at c2;subst c2;obtain ⟨u,hu',hzr⟩:=run_zeroValue hz ι;exact ⟨_,two false hu',fin2 u (hzr W) c1⟩
     ·cases hl
    ·cases hl
 ·cases hl
theorem data_eq{ι κ:Gh}{x:LV}(hd:x.data=true){v w:Value}(hv:VRel ι x v)(hw:VRel κ x w):v=w:=by
 have cells:∀(cs:List LV),LV.data.cells cs=true->∀(a b:List Value),VRels ι cs a->VRels κ cs b->a=b:=by
  intro cs;induction cs with
  |nil=>intro _ a b ha hb;cases ha;cases hb;rfl
  |cons c cs ih=>
   intro hc a b ha hb;cases ha with |cons h1 t1=>cases hb with |cons h2 t2=>
   cases c<;>simp only [LV.data.cells] at hc<;>try (cases hc;done)
   ·cases h1;cases h2;rw [ih hc _ _ t1 t2]
   ·cases h1;cases h2;rw [ih hc _ _ t1 t2]
   ·cases h1 with |str s hs=>cases h2 with |str r hr=>
    have:s=r:=by
     subst hs;cases s;cases r;simp at hr;simp [hr]
    rw [ih hc _ _ t1 t2,this]
 cases x<;>simp only [LV.data] at hd<;>try (cases hd;done)
 ·cases hv;cases hw;rfl
 ·cases hv;cases hw;rfl
 ·cases hv with |str s hs=>cases hw with |str r hr=>
  subst hs;cases s;cases r;simp at hr;simp [hr]
 ·cases hv with |agg h1=>cases hw with |agg h2=>
  have:=cells _ hd _ _ h1 h2;rw [Array.ext' this]
theorem sameBits_self{ι:Gh}{x:LV}(hd:x.data=true){v:Value}(hv:VRel ι x v):∀n,2<=n->Instr.sameBits n v v=true:=by
 have one:∀(c:LV) (u:Value) (m:Nat),VRel ι c u->(∃b,c=.bool b)\/(∃k n,c=.int k n)\/(∃s,c=.str s)->Instr.sameBits m u u=true:=by
  intro c u m hu hc;rcases hc with ⟨b,rfl⟩ |⟨k,n,rfl⟩ |⟨s,rfl⟩
  ·cases hu;cases m<;>simp [Instr.sameBits]
  ·cases hu;cases m<;>simp [Instr.sameBits]
  ·cases hu;cases m<;>simp [Instr.sameBits,bytes_beq]
 intro n hn;obtain ⟨n,rfl⟩:∃m,n=m+1:=⟨n-1,by omega⟩;cases x<;>simp only [LV.data] at hd<;>try (cases hd;done)
 ·exact one _ _ _ hv (.inl ⟨_,rfl⟩)
 ·exact one _ _ _ hv (.inr (.inl ⟨_,_,rfl⟩))
 ·exact one _ _ _ hv (.inr (.inr ⟨_,rfl⟩))
 ·rename_i cs;cases hv with |@agg _ a ha=>
  simp only [Instr.sameBits,beq_self_eq_true,Bool.true_and];have:∀(cs:List LV) (l:List Value),LV.data.cells cs=true->VRels ι cs l->(l.zip l).all (fun (x,y)=>Instr.sameBits n x y)=true:=by
   intro cs;induction cs with
   |nil=>intro l _ h;cases h;rfl
   |cons c cs ih=>
    intro l hc h;cases h with |cons h1 t1=>
    simp only [List.zip_cons_cons,List.all_cons,Bool.and_eq_true];cases c<;>simp only [LV.data.cells] at hc<;>try (cases hc;done)
    ·exact ⟨one _ _ _ h1 (.inl ⟨_,rfl⟩),ih _ hc t1⟩
    ·exact ⟨one _ _ _ h1 (.inr (.inl ⟨_,_,rfl⟩)),ih _ hc t1⟩
    ·exact ⟨one _ _ _ h1 (.inr (.inr ⟨_,rfl⟩)),ih _ hc t1⟩
  exact this cs _ hd ha
theorem keyThatStays_rel{ι:Gh}{k k':LV}(hb:k.beq k'=true)(hd:k.data=true){v v':Value}(hv:VRel ι k v)(hv':VRel ι k' v')(W:World):(Instr.keyThatStays v' v).run P W=.ok v W:=by
 have:=LV.beq_eq _ _ hb;subst this;have:=data_eq hd hv hv';subst this;unfold Instr.keyThatStays;rw [if_pos (sameBits_self hd hv 10000 (by omega))];rfl
theorem modify_toList{α:Type}(a:Array α)(i:Nat)(f:α->α){x:α}(h:a[i]? =some x):(a.modify i f).toList=a.toList.set i (f x):=by
 apply List.ext_getElem?;intro j;rw [Array.getElem?_toList,Array.getElem?_modify,List.getElem?_set];by_cases hj:i=j
 ·subst hj;have hlt:i<a.size:=(Array.getElem?_eq_some_iff.1 h).1;have hx:a[i]=x:=(Array.getElem?_eq_some_iff.1 h).2;simp [hlt,hx]
 ·simp [hj]
theorem mapUpdateL_rel{ι:Gh}{H H':LHeap}{W:World}{n0:Nat}(h:HRel ι H W n0){t:TypeId}{m k x:LV}{mv kv xv:Value}(hm:VRel ι m mv)(hk:VRel ι k kv)(hx:VRel ι x xv)
  (hu:mapUpdateL P H t m k x=some H'):∃X:World,(Instr.mapUpdate t mv kv xv).run P W=.ok () X/\HRel ι H' X n0/\On ι H W ι H' X n0:=by
 unfold mapUpdateL at hu;split at hu
 ·rename_i kt et r hut;split at hu
  ·cases hu
  ·rename_i hko;simp only [Bool.not_eq_true',Bool.not_eq_false] at hko;obtain ⟨dd,hdd⟩:=keyOk_desc hko;have hck:=keyOk_rel (P:=P) false 20 kt k hko kv hk 10000 (by omega) W;split at hu
   ·rename_i es c hgm;cases hm with |@map _ l hr'=>
    obtain ⟨ces,g1,g2,g3⟩:=run_getMap (P:=P) h hr' hgm;split at hu
    ·rename_i i e hf;split at hu
     ·rename_i hbd;simp only [Bool.and_eq_true] at hbd;cases hu;obtain ⟨cr,c1,c2,u,rfl,hu'⟩:=findKey_rel h hk hdd g2 hf;obtain ⟨ce,hce,her⟩:=g2.get c2;have hce':ces[i]? =some ce:=by rw [<-Array.getElem?_toList];exact hce
      have hks:=keyThatStays_rel (P:=P) hbd.1 hbd.2 hk her.key W;have hset:(ces.modify i fun e=>{ e with key:=kv,val:=xv }).toList=ces.toList.set i { ce with key:=kv,val:=xv }:=modify_toList ces i _ hce';obtain ⟨q1,q2⟩:=h.put_plain hr' (getMap_some hgm) rfl (o':=.map (setNth es i ⟨k,x,e.born⟩) c) rfl (b:=.map (ces.modify i fun e=>{ e with key:=kv,val:=xv }) c)
       (.map c (by rw [setNth_eq,hset];exact g2.set i ⟨hk,hx,her.born⟩))
      refine ⟨_,?_,q1,q2⟩;simp only [Instr.mapUpdate,Sem.run_bind,run_underlying hut,Result.andThen_ok,g1,hck,c1,hce',Option.map_some,Option.getD_some,hks];exact run_setObj g3 (by intros;simp) _
     ·cases hu
    ·rename_i hf;cases hu;obtain ⟨cr,c1,c2⟩:=findKey_rel h hk hdd g2 hf;simp only at c2;subst c2;obtain ⟨q1,q2⟩:=h.put_plain hr' (getMap_some hgm) rfl (o':=.map (es++[⟨k,x,c⟩]) (c+1)) rfl (b:=.map (ces.push { key:=kv,val:=xv,born:=c }) (c+1))
      (.map _ (by rw [Array.toList_push];exact g2.append (.cons ⟨hk,hx,rfl⟩ .nil)))
     refine ⟨_,?_,q1,q2⟩;simp only [Instr.mapUpdate,Sem.run_bind,run_underlying hut,Result.andThen_ok,g1,hck,c1];exact run_setObj g3 (by intros;simp) _
    ·cases hu
   ·cases hu
 ·cases hu
theorem deleteL_rel{ι:Gh}{H:LHeap}{W:World}{n0:Nat}(h:HRel ι H W n0){at_:Array TypeId}{x:List LV}{a:Array Value}(hx:VRels ι x a.toList)(ty:TypeId){r:LV}{H':LHeap}
  (hc:deleteL P H at_.toList x=some (r,H')):
  ∃X v,(Builtin.delete_ at_ ty a).run P W=.ok v X/\VRel ι r v/\HRel ι H' X n0/\On ι H W ι H' X n0:=by
 unfold deleteL at hc;obtain ⟨al,hal⟩:∃al,a.toList=al:=⟨_,rfl⟩;rw [hal] at hx;split at hc
 ·rename_i t ts m k ys hat;cases hx with |@cons _ mv _ _ hm hx'=>cases hx' with |@cons _ kv _ _ hk hx''=>
  have ga:=array_two hal;have gt:=array_one hat;split at hc
  ·rename_i kt et hut;split at hc
   ·cases hc
   ·rename_i hko;simp only [Bool.not_eq_true',Bool.not_eq_false] at hko;obtain ⟨dd,hdd⟩:=keyOk_desc hko;have hck:=fun e=>keyOk_rel (P:=P) e 20 kt k hko kv hk 10000 (by omega) W;split at hc
    ·cases hc;cases hm;refine ⟨W,_,?_,.tuple .nil,h,.refl _ _ _ _⟩;simp only [Builtin.delete_,gt,ga.1,ga.2,Sem.run_bind,run_underlying hut,Result.andThen_ok,hck,Sem.run_pure]
    ·rename_i r';split at hc
     ·rename_i es c hgm;cases hm with |@map _ l hr'=>
      obtain ⟨ces,g1,g2,g3⟩:=run_getMap (P:=P) h hr' hgm;split at hc
      ·rename_i i e hf;cases hc;obtain ⟨cr,c1,c2,u,rfl,hu'⟩:=findKey_rel h hk hdd g2 hf;have hlt:i<ces.size:=by
        obtain ⟨ce,hce,_⟩:=g2.get c2;have:=(List.getElem?_eq_some_iff.1 hce).1;simpa using this
       obtain ⟨q1,q2⟩:=h.put_plain hr' (getMap_some hgm) rfl (o':=.map (eraseNth es i) c) rfl (b:=.map (ces.eraseIdxIfInBounds i) c)
        (.map c (by
          rw [eraseNth_eq];have:(ces.eraseIdxIfInBounds i).toList=ces.toList.eraseIdx i:=by
           simp [Array.eraseIdxIfInBounds,hlt]
          rw [this];exact g2.erase i))
       refine ⟨_,_,?_,.tuple .nil,q1,q2⟩;simp only [Builtin.delete_,gt,ga.1,ga.2,Sem.run_bind,run_underlying hut,Result.andThen_ok,g1,hck,c1,run_setObj g3 (by intros;simp),Sem.run_pure]
      ·rename_i hf;cases hc;obtain ⟨cr,c1,c2⟩:=findKey_rel h hk hdd g2 hf;simp only at c2;subst c2;obtain ⟨q1,q2⟩:=h.put_plain hr' (getMap_some hgm) rfl (o':=.map es c) rfl (b:=.map ces c) (.map c g2);refine ⟨_,_,?_,.tuple .nil,q1,q2⟩;simp only [Builtin.delete_,gt,ga.1,ga.2,Sem.run_bind,run_underlying hut,Result.andThen_ok,g1,hck,c1,run_setObj g3 (by intros;simp),Sem.run_pure]
      ·cases hc
     ·cases hc
    ·cases hc
  ·cases hc
 ·cases hc
theorem mapEntryL_rel{ι:Gh}{H H':LHeap}{W:World}{n0:Nat}(h:HRel ι H W n0){t:TypeId}{m k:LV}{mv kv:Value}(hm:VRel ι m mv)(hk:VRel ι k kv){r:LV}
  (hu:mapEntryL P H t m k=some (r,H')):∃(X:World) (v:Value),(Instr.mapEntry t mv kv).run P W=.ok v X/\VRel ι r v/\HRel ι H' X n0/\On ι H W ι H' X n0:=by
 unfold mapEntryL at hu;split at hu
 ·rename_i kt et r' hut;split at hu
  ·cases hu
  ·rename_i hko;simp only [Bool.not_eq_true',Bool.not_eq_false] at hko;obtain ⟨dd,hdd⟩:=keyOk_desc hko;have hck:=keyOk_rel (P:=P) false 20 kt k hko kv hk 10000 (by omega) W;split at hu
   ·rename_i es c hgm;cases hm with |@map _ l hr'=>
    obtain ⟨ces,g1,g2,g3⟩:=run_getMap (P:=P) h hr' hgm;split at hu
    ·rename_i i e hf;split at hu
     ·rename_i hbd;simp only [Bool.and_eq_true] at hbd;cases hu;obtain ⟨cr,c1,c2,u,rfl,hu'⟩:=findKey_rel h hk hdd g2 hf;obtain ⟨ce,hce,her⟩:=g2.get c2;have hce':ces[i]? =some ce:=by rw [<-Array.getElem?_toList];exact hce
      have hks:=keyThatStays_rel (P:=P) hbd.1 hbd.2 hk her.key W;have hset:(ces.modify i fun e=>{ e with key:=kv }).toList=ces.toList.set i { ce with key:=kv }:=modify_toList ces i _ hce';obtain ⟨q1,q2⟩:=h.put_plain hr' (getMap_some hgm) rfl (o':=.map (setNth es i ⟨k,e.val,e.born⟩) c) rfl (b:=.map (ces.modify i fun e=>{ e with key:=kv }) c)
       (.map c (by rw [setNth_eq,hset];exact g2.set i ⟨hk,her.val,her.born⟩))
      refine ⟨_,.tuple #[u,.int .i64 ce.born],?_,.tuple (.cons hu' (.cons (by rw [her.born];exact .int _ _) .nil)),q1,q2⟩;simp only [Instr.mapEntry,Sem.run_bind,run_underlying hut,Result.andThen_ok,g1,hck,c1,hce',Option.map_some,Option.getD_some,hks,run_setObj g3 (by intros;simp),Sem.run_pure];rfl
     ·cases hu
    ·rename_i hf;split at hu
     ·rename_i z hz;cases hu;obtain ⟨cr,c1,c2⟩:=findKey_rel h hk hdd g2 hf;simp only at c2;subst c2;obtain ⟨zv,hzr,hzrun⟩:=run_zeroValue hz ι;obtain ⟨q1,q2⟩:=h.put_plain hr' (getMap_some hgm) rfl (o':=.map (es++[⟨k,z,c⟩]) (c+1)) rfl (b:=.map (ces.push { key:=kv,val:=zv,born:=c }) (c+1))
       (.map _ (by rw [Array.toList_push];exact g2.append (.cons ⟨hk,hzr,rfl⟩ .nil)))
      refine ⟨_,.tuple #[zv,.int .i64 c],?_,.tuple (.cons hzr (.cons (.int _ _) .nil)),q1,q2⟩;simp only [Instr.mapEntry,Sem.run_bind,run_underlying hut,Result.andThen_ok,g1,hck,c1,hzrun,run_setObj g3 (by intros;simp),Sem.run_pure];rfl
     ·cases hu
    ·cases hu
   ·cases hu
 ·cases hu
theorem bornAt_spec{b:Nat}:∀{es:List LEntry} {i j:Nat} {e:LEntry},bornAt b es i=some (j,e)->i<=j/\es[j-i]? =some e/\e.born=b/\∀q,q<j-i->∀x,es[q]? =some x->x.born≠b
 |[],i,j,e,h=>by simp [bornAt] at h
 |x::es,i,j,e,h=>by
  simp only [bornAt] at h;split at h
  ·rename_i hb;cases h;exact ⟨Nat.le_refl _,by simp,Nat.eq_of_beq_eq_true hb,fun q hq=>by omega⟩
  ·rename_i hb;obtain ⟨h1,h2,h3,h4⟩:=bornAt_spec h;refine ⟨by omega,?_,h3,fun q hq x' hx'=> ?_⟩
   ·rw [show j-i=(j-(i+1))+1 by omega];simpa using h2
   ·cases q with
    |zero=>simp at hx';subst hx';exact fun e'=>hb (by subst e';simp)
    |succ q=>exact h4 q (by omega) x' (by simpa using hx')
theorem findIdx_born{ι:Gh}{b:Nat}{es:List LEntry}{ces:Array MapEntry}(hr:Rels (ERel ι) es ces.toList){j:Nat}{e:LEntry}(h:bornAt b es 0=some (j,e)):
  ∃ce,ces[j]? =some ce/\ERel ι e ce/\ces.findIdx? (fun x=>(x.born:Int)==Int.ofNat b)=some j/\ces.find? (fun x=>x.born==b)=some ce:=by
 obtain ⟨_,h2,h3,h4⟩:=bornAt_spec h;simp only [Nat.sub_zero] at h2 h4;obtain ⟨ce,hce,her⟩:=hr.get h2;have hce':ces[j]? =some ce:=by rw [<-Array.getElem?_toList];exact hce
 have hlt:j<ces.size:=(Array.getElem?_eq_some_iff.1 hce').1;have hjv:ces[j]=ce:=(Array.getElem?_eq_some_iff.1 hce').2;have hbefore:∀(q:Nat) (hq:q<ces.size),q<j->ces[q].born≠b:=by
  intro q hq hqj;have hl:es.length=ces.toList.length:=hr.len;have hqe:q<es.length:=by
   have:ces.toList.length=ces.size:=Array.length_toList;omega
  obtain ⟨c2,hc2,her2⟩:=hr.get (List.getElem?_eq_getElem hqe);have:ces[q]=c2:=by
   have e1:ces[q]? =some c2:=by rw [<-Array.getElem?_toList];exact hc2
   exact (Array.getElem?_eq_some_iff.1 e1).2
  rw [this,her2.born];exact h4 q (by omega) _ (List.getElem?_eq_getElem hqe)
 refine ⟨ce,hce',her,?_,?_⟩
 ·rw [Array.findIdx?_eq_some_iff_getElem];refine ⟨hlt,by rw [hjv,her.born,h3];simp,fun q hq=> ?_⟩;have:=hbefore q (by omega) hq;simp;omega
 ·rw [Array.find?_eq_some_iff_getElem];refine ⟨by rw [her.born,h3];simp,j,hlt,hjv,fun q hq=> ?_⟩;have:=hbefore q (by omega) hq;simpa using this
theorem entryStoreL_rel{ι:Gh}{H H':LHeap}{W:World}{n0:Nat}(h:HRel ι H W n0){m s x:LV}{mv sv xv:Value}(hm:VRel ι m mv)(hs:VRel ι s sv)(hx:VRel ι x xv)(t:TypeId)
  (hu:entryStoreL H m s x=some H'):∃X:World,(Instr.entryStore t mv sv xv).run P W=.ok () X/\HRel ι H' X n0/\On ι H W ι H' X n0:=by
 unfold entryStoreL at hu;split at hu
 ·rename_i r k b;split at hu
  ·rename_i es c hgm;cases hm with |@map _ l hr'=>
   cases hs;obtain ⟨ces,g1,g2,g3⟩:=run_getMap (P:=P) h hr' hgm;split at hu
   ·rename_i i e hb;cases hu;obtain ⟨ce,hce',her,hfi,_⟩:=findIdx_born g2 hb;have hset:(ces.modify i fun e=>{ e with val:=xv }).toList=ces.toList.set i { ce with val:=xv }:=modify_toList ces i _ hce';obtain ⟨q1,q2⟩:=h.put_plain hr' (getMap_some hgm) rfl (o':=.map (setNth es i ⟨e.key,x,e.born⟩) c) rfl (b:=.map (ces.modify i fun e=>{ e with val:=xv }) c)
     (.map c (by rw [setNth_eq,hset];exact g2.set i ⟨her.key,hx,her.born⟩))
    refine ⟨_,?_,q1,q2⟩;simp only [Instr.entryStore,Sem.run_bind,g1,Result.andThen_ok,asInt,asIntOf,Sem.run_pure,hfi];exact run_setObj g3 (by intros;simp) _
   ·cases hu
  ·cases hu
 ·cases hu
end Go.Lm

/- Ranging, conversions, makeSlice, what unsafe does. -/
namespace Go.Lm
open Go.RowKit (Below)
variable {P:Program}
theorem rangeL_rel{ι:Gh}{H H':LHeap}{W:World}{n0:Nat}(h:HRel ι H W n0){t:TypeId}{x:LV}{v:Value}(hx:VRel ι x v){r:LV}(hr:rangeL P H t x=some (r,H')):
  ∃(κ:Gh) (X:World) (u:Value),(Instr.range t v).run P W=.ok u X/\VRel κ r u/\HRel κ H' X n0/\On ι H W κ H' X n0:=by
 have fin:∀(o:LObj) (b:Obj),o.isCells=false->PlainRel ι o b->r=.ptr (some ⟨H.next,0,0⟩)->H'=H.push o->(Instr.range t v).run P W=.ok (.pointer (some ⟨W.heap.size,0,none⟩)) { W with heap:=W.heap.push b }->
   ∃(κ:Gh) (X:World) (u:Value),(Instr.range t v).run P W=.ok u X/\VRel κ r u/\HRel κ H' X n0/\On ι H W κ H' X n0:=by
  rintro o b ho hp rfl rfl hrun;obtain ⟨q1,q2⟩:=h.push_plain ho hp;exact ⟨_,_,_,hrun,.ptr ⟨⟨W.heap.size,0,0⟩,Gh.add_self _ _ _ _,by simp,by simp⟩,q1,q2⟩
 unfold rangeL at hr;split at hr
 ·cases hr
 ·rename_i d hu;split at hr
  ·cases hr;cases hx with |str s hs=>
   exact fin _ _ rfl (.stringIter s 0 hs) rfl rfl (by simp [Instr.range,run_underlying hu])
  ·cases hr;cases hx;exact fin _ _ rfl (.mapIterNone 0 [] 0) rfl rfl (by simp [Instr.range,run_underlying hu])
  ·rename_i m;split at hr
   ·rename_i es c hm;cases hr;cases hx with |map hm'=>
    obtain ⟨ces,g1,g2,g3⟩:=run_getMap (P:=P) h hm' hm;exact fin _ _ rfl (.mapIter hm' c [] c) rfl rfl (by simp [Instr.range,run_underlying hu,g1])
   ·cases hr
  ·cases hr
theorem get_drop(s:ByteArray)(p k:Nat):(⟨(s.data.toList.drop p).toArray⟩:ByteArray).get! (0+k)=s.get! (p+k):=by
 show ((s.data.toList.drop p).toArray)[0+k]! =s.data[p+k]!;rw [Nat.zero_add];have hz:s.size=s.data.size:=rfl;by_cases h:p+k<s.data.size
 ·rw [getElem!_pos s.data (p+k) h,getElem!_pos _ k (by simp;omega)];simp
 ·rw [getElem!_neg s.data (p+k) h,getElem!_neg _ k (by simp;omega)]
theorem lt_drop(s:ByteArray)(p k:Nat)(h:p<s.size):decide (0+k<(⟨(s.data.toList.drop p).toArray⟩:ByteArray).size)=decide (p+k<s.size):=by
 have h1:(⟨(s.data.toList.drop p).toArray⟩:ByteArray).size=s.size-p:=by
  show ((s.data.toList.drop p).toArray).size=_;simp
 rw [h1,Bool.eq_iff_iff];simp only [decide_eq_true_eq];omega
theorem decode_congr(s t:ByteArray)(p q:Nat)(h:∀k,s.get! (p+k)=t.get! (q+k))(h2:∀k,decide (p+k<s.size)=decide (q+k<t.size)):Utf8.decode s p=Utf8.decode t q:=by
 unfold Utf8.decode;simp only [h,h2]
theorem decodeL_eq{s:ByteArray}{p:Nat}(h:p<s.size):decodeL (s.data.toList.drop p)=Utf8.decode s p:=
 decode_congr _ _ _ _ (get_drop s p) (fun k=>lt_drop s p k h)
theorem Rels.filter{α β:Type}{R:α->β->Prop}{p:α->Bool}{q:β->Bool}(h:∀a b,R a b->p a=q b):∀{l:List α} {m:List β},Rels R l m->Rels R (l.filter p) (m.filter q)
 |_,_,.nil=>.nil
 |a::_,b::_,.cons e t=>by
  have:=h a b e;simp only [List.filter_cons,this];split
  ·exact .cons e (Rels.filter h t)
  ·exact Rels.filter h t
theorem Rels.get'{α β:Type}{R:α->β->Prop}:∀{l:List α} {m:List β},Rels R l m->∀{i:Nat} {b:β},m[i]? =some b->∃a,l[i]? =some a/\R a b
 |_,_,.nil,i,b,h=>by simp at h
 |_,_,.cons e t,i,b,h=>by
  cases i with
  |zero=>simp at h;subst h;exact ⟨_,by simp,e⟩
  |succ i=>simpa using t.get' (by simpa using h)
theorem Rels.all{α β:Type}{R:α->β->Prop}{p:α->Bool}{q:β->Bool}(h:∀a b,R a b->p a=q b):∀{l:List α} {m:List β},Rels R l m->l.all p=m.all q
 |_,_,.nil=>rfl
 |_,_,.cons e t=>by simp only [List.all_cons,h _ _ e,Rels.all h t]
theorem choose_mapNext(W:World)(n:Nat)(hn:1<=n):∃k X,(choose (.mapNext n)).run P W=.ok k X/\k<n/\(X=W\/X={ W with drawn:=W.drawn+1 }):=by
 rw [run_choose];split
 ·exact ⟨0,W,rfl,hn,.inl rfl⟩
 ·exact ⟨_,_,rfl,Nat.mod_lt _ hn,.inr rfl⟩
theorem memN_contains(n:Nat)(l:List Nat):memN n l=l.toArray.contains n:=by
 rw [Bool.eq_iff_iff,memN_iff];simp
theorem nextL_rel{ι:Gh}{H:LHeap}{W:World}{n0:Nat}(h:HRel ι H W n0){it:LV}{v:Value}(hv:VRel ι it v){b:Bool}{l:List (LV×LHeap)}(hl:nextL H it b=some l)(ty:TypeId):
  ∃y∈l,∃(X:World) (u:Value),(Instr.next v b ty).run P W=.ok u X/\VRel ι y.1 u/\HRel ι y.2 X n0/\On ι H W ι y.2 X n0:=by
 unfold nextL at hl;split at hl
 ·rename_i r;cases hv with |ptr hp=>
  obtain ⟨lo,hlo,h0,rfl⟩:=hp;split at hl
  ·rename_i s pos hg;obtain ⟨bb,hb,hpr⟩:=plain_at h hlo hg rfl;cases hpr with |stringIter s' _ hs=>
   subst hs;have hsh:lo.sh=0:=by
    obtain ⟨_,_,o,ho,hr⟩:=h.dom _ _ _ hlo;rw [hg] at ho;cases ho;obtain ⟨l',_,hl',hs',_⟩:=hr.plain rfl;rw [hlo] at hl';cases hl';exact hs'
   have hz:((0:Nat):Int)+lo.sh=0:=by omega
   rw [dropN_eq] at hl;split at hl
   ·rename_i hnil;cases hl;have hpos:¬pos<s'.size:=by
     have:=List.drop_eq_nil_iff.1 hnil;have hsz:s'.data.toList.length=s'.size:=by simp
     omega
    refine ⟨_,List.mem_singleton.2 rfl,W,_,?_,.tuple (.cons (.bool false) .nil),h,.refl _ _ _ _⟩;simp only [hz,Int.toNat_zero,Instr.next,Sem.run_bind,run_getObj hb (by intros;simp),Result.andThen_ok,hpos,if_false,Sem.run_pure]
   ·rename_i x y hcons;have hpos:pos<s'.size:=by
     rcases Nat.lt_or_ge pos s'.size with h |h
     ·exact h
     ·have hsz:s'.data.toList.length=s'.size:=by simp
      rw [List.drop_eq_nil_of_le (by omega)] at hcons;cases hcons
    rw [<-hcons,decodeL_eq hpos] at hl;cases hl;obtain ⟨q1,q2⟩:=h.put_plain hlo hg rfl (o':=.stringIter s'.data.toList (pos+(Utf8.decode s' pos).2)) rfl (.stringIter s' (pos+(Utf8.decode s' pos).2) rfl);refine ⟨_,List.mem_singleton.2 rfl,_,_,?_,.tuple (.cons (.bool true) (.cons (.int _ _) (.cons (.int _ _) .nil))),q1,q2⟩;simp only [hz,Int.toNat_zero,Instr.next,Sem.run_bind,run_getObj hb (by intros;simp),Result.andThen_ok,hpos,if_true,run_setObj hb (by intros;simp),Sem.run_pure];rfl
  ·rename_i since seen last hg;cases hl;obtain ⟨bb,hb,hpr⟩:=plain_at h hlo hg rfl;cases hpr;have hsh:lo.sh=0:=by
    obtain ⟨_,_,o,ho,hr⟩:=h.dom _ _ _ hlo;rw [hg] at ho;cases ho;obtain ⟨l',_,hl',hs',_⟩:=hr.plain rfl;rw [hlo] at hl';cases hl';exact hs'
   have hz:((0:Nat):Int)+lo.sh=0:=by omega
   refine ⟨_,List.mem_singleton.2 rfl,W,_,?_,.tuple (.cons (.bool false) .nil),h,.refl _ _ _ _⟩;simp only [hz,Int.toNat_zero,Instr.next,Sem.run_bind,run_getObj hb (by intros;simp),Result.andThen_ok,Sem.run_pure]
  ·rename_i m since seen last hg;obtain ⟨bb,hb,hpr⟩:=plain_at h hlo hg rfl;cases hpr with |@mapIter _ lm hm _ _ _=>
   have hsh:lo.sh=0:=by
    obtain ⟨_,_,o,ho,hr⟩:=h.dom _ _ _ hlo;rw [hg] at ho;cases ho;obtain ⟨l',_,hl',hs',_⟩:=hr.plain rfl;rw [hlo] at hl';cases hl';exact hs'
   have hz:((0:Nat):Int)+lo.sh=0:=by omega
   split at hl
   ·rename_i es clock hgm;obtain ⟨ces,g1,g2,g3⟩:=run_getMap (P:=P) h hm hgm;split at hl
    ·cases hl
    ·rename_i hnot;cases hl;have hall:es.all (fun e=>Nat.ble last e.born)=ces.toList.all (fun e=>decide (e.born>=last)):=g2.all fun a b e=>by
      rw [Bool.eq_iff_iff,Nat.ble_eq,decide_eq_true_eq,e.born]
     have hemp:es.isEmpty=ces.isEmpty:=by
      have:=g2.len;rw [Bool.eq_iff_iff,List.isEmpty_iff_length_eq_zero,Array.isEmpty_iff_size_eq_zero,this];simp
     have hnot':((!seen.toArray.isEmpty&& !ces.isEmpty&&ces.all fun e=>decide (e.born>=last)):Bool)=false:=by
      rw [<-hemp,<-Array.all_toList,<-hall];simpa using hnot
     have hleft:=g2.filter (p:=fun e=> !(memN e.born seen)) (q:=fun e=> !(seen.toArray.contains e.born)) fun a b e=>by rw [memN_contains,e.born]
     have hold:=hleft.filter (p:=fun e=>Nat.ble (e.born+1) since) (q:=fun e=>decide (e.born<since)) fun a b e=>by
      rw [Bool.eq_iff_iff,Nat.ble_eq,decide_eq_true_eq,e.born];exact Iff.rfl
     have hnew:=hleft.filter (p:=fun e=>Nat.ble since e.born) (q:=fun e=>decide (e.born>=since)) fun a b e=>by
      rw [Bool.eq_iff_iff,Nat.ble_eq,decide_eq_true_eq,e.born]
     have hon:=hold.append hnew;generalize hO:(es.filter fun e=> !(memN e.born seen)).filter (fun e=>Nat.ble (e.born+1) since)=old at hold hon;generalize hN:(es.filter fun e=> !(memN e.born seen)).filter (fun e=>Nat.ble since e.born)=new at hnew hon;have cO:(((ces.filter fun e=> !seen.toArray.contains e.born).filter (fun e=>decide (e.born<since))).toList)=(ces.toList.filter fun e=> !seen.toArray.contains e.born).filter (fun e=>decide (e.born<since)):=by simp
     have cN:(((ces.filter fun e=> !seen.toArray.contains e.born).filter (fun e=>decide (e.born>=since))).toList)=(ces.toList.filter fun e=> !seen.toArray.contains e.born).filter (fun e=>decide (e.born>=since)):=by simp
     generalize hcO:(ces.filter fun e=> !seen.toArray.contains e.born).filter (fun e=>decide (e.born<since))=oldC at cO;generalize hcN:(ces.filter fun e=> !seen.toArray.contains e.born).filter (fun e=>decide (e.born>=since))=newC at cN;rw [<-cO] at hold hon;rw [<-cN] at hnew hon;have hoe:old=[]↔oldC.isEmpty=true:=by
      rw [Array.isEmpty_iff_size_eq_zero,<-Array.length_toList,<-hold.len,List.length_eq_zero_iff]
     have hsz:1<=((if oldC.isEmpty then #[none] else #[])++(oldC++newC).map some:Array (Option MapEntry)).size:=by
      by_cases he:oldC.isEmpty=true
      ·simp [he]
      ·have:oldC.size≠0:=fun h0=>he (Array.isEmpty_iff_size_eq_zero.2 h0);simp [he];omega
     obtain ⟨k,X,hk,hlt,hX⟩:=choose_mapNext (P:=P) W _ hsz;have hXh:X.heap=W.heap:=by rcases hX with rfl |rfl<;>rfl
     have hOn:On ι H W ι H X n0:=by
      rcases hX with rfl |rfl
      ·exact .refl _ _ _ _
      ·exact .drew rfl rfl rfl rfl
     have pre:(Instr.next (.pointer (some ⟨lo.blk,(((0:Nat):Int)+lo.sh).toNat,none⟩)) false ty).run P W=(match ((if oldC.isEmpty then #[none] else #[])++(oldC++newC).map some:Array (Option MapEntry))[k]? with
       |some (some e)=>(do
        setObj lo.blk (.mapIter (some lm.blk) since (seen.toArray.push e.born) clock)
        pure (.tuple #[.bool true,e.key,e.val]):Sem Value)
       |some none=>pure (.tuple #[.bool false])
       |none=>stuck "Next: no such candidate":Sem Value).run P X:=by
      simp only [hz,Int.toNat_zero,Instr.next,Sem.run_bind,run_getObj hb (by intros;simp),Result.andThen_ok,g1,hnot',Bool.false_eq_true,if_false,hcO,hcN,hk,Sem.run_pure];rfl
     have hbX:X.heap[lo.blk]? =some (.mapIter (some lm.blk) since seen.toArray last):=by rw [hXh];exact hb
     have goS:∀(e:LEntry) (c:MapEntry),ERel ι e c->e∈old++new->(∃Y u,((do
       setObj lo.blk (.mapIter (some lm.blk) since (seen.toArray.push c.born) clock)
       pure (.tuple #[.bool true,c.key,c.val]):Sem Value)).run P X=.ok u Y/\VRel ι (.tuple [.bool true,e.key,e.val]) u/\HRel ι (H.put r (.mapIter (some m) since (seen++[e.born]) clock)) Y n0/\
        On ι H W ι (H.put r (.mapIter (some m) since (seen++[e.born]) clock)) Y n0):=by
      intro e c hec _;obtain ⟨q1,q2⟩:=(h.drew hXh).put_plain hlo hg rfl (o':=.mapIter (some m) since (seen++[e.born]) clock) rfl (.mapIter hm since (seen++[e.born]) clock);refine ⟨_,_,?_,.tuple (.cons (.bool true) (.cons hec.key (.cons hec.val .nil))),q1,hOn.trans q2⟩;rw [Sem.run_bind,run_setObj hbX (by intros;simp)];simp only [Result.andThen_ok,Sem.run_pure,hec.born,List.push_toArray]
     have goM:∀(c:MapEntry),c∈(oldC++newC)->∃e∈old++new,ERel ι e c:=by
      intro c hc;obtain ⟨i,hi⟩:=List.mem_iff_getElem?.1 (show c∈oldC.toList++newC.toList by simpa using hc);obtain ⟨e,he,hr⟩:=hon.get' hi;exact ⟨e,List.mem_of_getElem? he,hr⟩
     have hget:=Array.getElem?_eq_getElem hlt;rw [hget] at pre;generalize ((if oldC.isEmpty then #[none] else #[])++(oldC++newC).map some:Array (Option MapEntry))[k]=cand at hget pre;have hmem:=Array.mem_of_getElem? hget;rw [Array.mem_append] at hmem;cases cand with
     |none=>
      have he:old=[]:=by
       rcases hmem with hm' |hm'
       ·split at hm'
        ·rename_i h1;exact hoe.2 h1
        ·simp at hm'
       ·simp at hm'
      subst he;refine ⟨(.tuple [.bool false],H),by simp,X,.tuple #[.bool false],?_,.tuple (.cons (.bool false) .nil),h.drew hXh,hOn⟩;rw [pre];rfl
     |some c=>
      have hc:c∈oldC++newC:=by
       rcases hmem with hm' |hm'
       ·split at hm'<;>simp at hm'
       ·simpa using hm'
      obtain ⟨e,he,hr⟩:=goM c hc;obtain ⟨Y,u,y1,y2,y3,y4⟩:=goS e c hr he;refine ⟨(.tuple [.bool true,e.key,e.val],H.put r (.mapIter (some m) since (seen++[e.born]) clock)),?_,Y,u,?_,y2,y3,y4⟩
      ·rw [List.mem_append];exact .inr (List.mem_map.2 ⟨e,he,rfl⟩)
      ·rw [pre];exact y1
   ·cases hl
  ·cases hl
 ·cases hl
end Go.Lm

/- What stands behind an iterator; conversions. -/
namespace Go.Lm
open Go.RowKit (Below)
variable {P:Program}
theorem lastN_eq:∀l:List Nat,lastN l=l.getLast?
 |[]=>rfl
 |[n]=>rfl
 |_::m::l=>by
  simp only [lastN,List.getLast?_cons_cons];exact lastN_eq (m::l)
theorem bornAt_find{ι:Gh}{b:Nat}:∀{es:List LEntry} {ces:List MapEntry},Rels (ERel ι) es ces->∀{i j:Nat} {e:LEntry},bornAt b es i=some (j,e)->∃c,ces.find? (·.born==b)=some c/\ERel ι e c
 |_,_,.nil,i,j,e,h=>by simp [bornAt] at h
 |_,_,@Rels.cons _ _ _ a c es ces hac t,i,j,e,h=>by
  simp only [bornAt] at h;split at h
  ·rename_i hb;cases h;have:=Nat.eq_of_beq_eq_true hb;exact ⟨c,by simp [List.find?_cons,hac.born,this],hac⟩
  ·rename_i hb;have hb':(c.born==b)=false:=by
    rw [hac.born];rw [Bool.eq_false_iff];intro hq;exact hb (by rw [eq_of_beq hq];exact Nat.beq_refl _)
   obtain ⟨c',h1,h2⟩:=bornAt_find t h;exact ⟨c',by simp [List.find?_cons,hb',h1],h2⟩
theorem entryL_rel{ι:Gh}{H:LHeap}{W:World}{n0:Nat}(h:HRel ι H W n0){it:LV}{v:Value}(hv:VRel ι it v){r:LV}(hl:entryL H it=some r):
  ∃u,(Instr.entry v).run P W=.ok u W/\VRel ι r u:=by
 unfold entryL at hl;split at hl
 ·rename_i q;cases hv with |ptr hp=>
  obtain ⟨lo,hlo,h0,rfl⟩:=hp;split at hl
  ·rename_i m since seen stepped hg;obtain ⟨bb,hb,hpr⟩:=plain_at h hlo hg rfl;cases hpr with |@mapIter _ lm hm _ _ _=>
   have hsh:lo.sh=0:=by
    obtain ⟨_,_,o,ho,hr⟩:=h.dom _ _ _ hlo;rw [hg] at ho;cases ho;obtain ⟨l',_,hl',hs',_⟩:=hr.plain rfl;rw [hlo] at hl';cases hl';exact hs'
   have hz:((0:Nat):Int)+lo.sh=0:=by omega
   split at hl
   ·rename_i stamp es clock hst hgm;obtain ⟨ces,g1,g2,g3⟩:=run_getMap (P:=P) h hm hgm;split at hl
    ·rename_i hck
     replace hck:=Nat.eq_of_beq_eq_true hck
     split at hl
     ·rename_i e hbo;cases hl;obtain ⟨c,hc1,hc2⟩:=bornAt_find g2 hbo;refine ⟨_,?_,.tuple (.cons hc2.key (.cons hc2.val .nil))⟩;have hback:seen.toArray.back? =some stamp:=by
       rw [List.back?_toArray,<-lastN_eq];exact hst
      have hfind:ces.find? (·.born==stamp)=some c:=by
       rw [<-Array.find?_toList];exact hc1
      simp only [hz,Int.toNat_zero,Instr.entry,Sem.run_bind,run_getObj hb (by intros;simp),Result.andThen_ok,hback,g1,hck,bne_self_eq_false,Bool.false_eq_true,if_false,hfind,Sem.run_pure]
     ·cases hl
    ·cases hl
   ·cases hl
  ·cases hl
 ·cases hl
theorem bytesOfCells_rel{ι:Gh}:∀{cs:List LV} {vs:List Value},VRels ι cs vs->∀{bs:List UInt8},bytesOfCells cs=some bs->∃ns:List Int,vs=ns.map (Value.int .u8)/\bs=ns.map fun n=>UInt8.ofNat n.toNat
 |_,_,.nil,bs,h=>by
  simp [bytesOfCells] at h;exact ⟨[],rfl,by simp [h]⟩
 |_,_,.cons hx t,bs,h=>by
  unfold bytesOfCells at h;split at h
  ·rename_i he;cases he
  ·rename_i n l he;cases he;simp only [Option.map_eq_some_iff] at h;obtain ⟨bs',h1,rfl⟩:=h;obtain ⟨ns,rfl,rfl⟩:=bytesOfCells_rel t h1;cases hx;exact ⟨n::ns,rfl,rfl⟩
  ·cases h
theorem push_bytes(f:Value->ByteArray->Sem (ForInStep ByteArray))(hf:∀n r,f (.int .u8 n) r=pure (.yield (r.push (UInt8.ofNat n.toNat)))):∀(ns:List Int) (W:World) (s:ByteArray),
  (forIn (ns.map (Value.int .u8)) s f).run P W=.ok ⟨s.data++(ns.map fun n=>UInt8.ofNat n.toNat).toArray⟩ W
 |[],W,s=>by simp
 |n::ns,W,s=>by
  have:=push_bytes f hf ns W (s.push (UInt8.ofNat n.toNat));simp only [List.map_cons,List.forIn_cons,hf,Sem.run_bind,Sem.run_pure,Result.andThen_ok];rw [this];congr 1;apply ByteArray.ext;simp [ByteArray.push]
theorem bytesToString_rel{ι:Gh}{H:LHeap}{W:World}{n0:Nat}(h:HRel ι H W n0){a:LAddr}{len:Nat}{cap:Cap}{v:Value}(hv:VRel ι (.slice (some a) len cap) v){cs:List LV}(hl:loadN H a len=some cs)
  {bs:List UInt8} (hb:bytesOfCells cs=some bs):∃u,(Conv.bytesToString v).run P W=.ok u W/\VRel ι (.str bs) u:=by
 obtain ⟨b,c,rfl,hlc,hp⟩:=slice_place hv;rcases Nat.eq_zero_or_pos len with hz |hpos
 ·subst hz;have hcs:cs=[]:=by
   unfold loadN at hl;split at hl
   ·split at hl
    ·simp [takeN] at hl;exact hl
    ·cases hl
   ·cases hl
  subst hcs;simp only [bytesOfCells,Option.some.injEq] at hb;subst hb;refine ⟨.string .empty,?_,.str _ rfl⟩;simp [Conv.bytesToString,loadCells,loadCellsFrom]
 ·obtain ⟨vs,h1,h2,h3,h4⟩:=load_rel h (hp hpos) hl;obtain ⟨ns,rfl,rfl⟩:=bytesOfCells_rel h1 hb;have hld:=run_loadCells_list (P:=P) W b _ h4;rw [h2] at hld;refine ⟨.string ⟨(ns.map fun n=>UInt8.ofNat n.toNat).toArray⟩,?_,.str _ (by simp)⟩;simp only [Conv.bytesToString,Sem.run_bind,hld,Result.andThen_ok];rw [<-Array.forIn_toList,push_bytes _ (fun _ _=>rfl) ns W .empty];simp
theorem mark_run(W:World)(a:Addr){c:Array Value}{e:TypeId}{fr:Nat×Nat}(h:W.heap[a.block]? =some (.cells c e fr)):
  (markStringish a).run P W=.ok () { W with heap:=W.heap.setIfInBounds a.block (.cells c e (if fr.1==fr.2 then (c.size,c.size+1) else (min fr.1 c.size,max fr.2 (c.size+1)))) }:=by
 have hs:W.shape? a.block=some (e,c.size):=by simp [World.shape?,h]
 simp only [markStringish,Sem.run_bind,run_shape,hs,Result.andThen_ok,run_freeze];congr 1;unfold World.freeze;rw [if_neg (by omega)];congr 1;apply Array.ext
 ·simp
 ·intro j h1 h2;have hk:a.block<W.heap.size:=(Array.getElem?_eq_some_iff.1 h).1;have hv:W.heap[a.block]=.cells c e fr:=(Array.getElem?_eq_some_iff.1 h).2;simp only [Array.getElem_modify,Array.getElem_setIfInBounds];split
  ·rename_i hj;subst hj;rw [hv];simp
  ·rename_i hj;rw [Array.getElem_setIfInBounds,if_neg hj]
theorem push_set{α:Type}(a:Array α)(x y:α):(a.push x).setIfInBounds a.size y=a.push y:=by
 apply Array.ext';rw [Array.toList_setIfInBounds,Array.toList_push,Array.toList_push,List.set_append_right _ _ (by simp)];simp
theorem convertL_rel{ι:Gh}{H H':LHeap}{W:World}{n0:Nat}(h:HRel ι H W n0){src dst:TypeId}{x:LV}{v:Value}(hv:VRel ι x v){r:LV}(hc:convertL P H src dst x=some (r,H')):
  ∃(κ:Gh) (X:World) (u:Value),(Go.convert src dst v).run P W=.ok u X/\VRel κ r u/\HRel κ H' X n0/\On ι H W κ H' X n0:=by
 unfold convertL at hc;split at hc
 ·rename_i s d hs hd;split at hc
  ·
   cases hc;cases hv;rename_i k j n;refine ⟨ι,W,.int k (k.wrap n),?_,by rw [lwrap_eq];exact .int _ _,h,.refl _ _ _ _⟩;simp only [Go.convert,Sem.run_bind,run_underlying hs,run_underlying hd,Result.andThen_ok,Conv.intToInt,Sem.run_pure]
  ·cases hc;cases hv;refine ⟨ι,W,.string (Utf8.encode _),?_,.str _ rfl,h,.refl _ _ _ _⟩;simp only [Go.convert,Sem.run_bind,run_underlying hs,run_underlying hd,Result.andThen_ok,Conv.intToString,Sem.run_pure]
  ·cases hc;cases hv with |str s hs'=>
   refine ⟨ι,W,.string s,?_,.str _ hs',h,.refl _ _ _ _⟩;simp only [Go.convert,Sem.run_bind,run_underlying hs,run_underlying hd,Result.andThen_ok,Sem.run_pure]
  ·rename_i e s';split at hc
   ·rename_i hu;split at hc
    ·rename_i hlen;cases hc;cases hv with |str s hs'=>
     subst hs';rw [Nat.ble_eq] at hlen;have hz:s.size=s.data.toList.length:=by simp
     have hm:2 ^ 63-s.size≠0:=by omega
     let t:=W.tape W.drawn (.appendCap s.size 0 e)%(2 ^ 63-s.size)
     have hW:HRel ι H { W with drawn:=W.drawn+1 } n0:=h.drew rfl
     let vs:List Value:=s.data.toList.map fun b=>.int .u8 b.toNat
     let rest:List Value:=List.replicate t (.int .u8 0)
     have hcl:allCells (s.data.toList.map fun b=>LV.int .u8 b.toNat)=true:=by
      rw [allCells_iff];intro v hv;obtain ⟨b,_,rfl⟩:=List.mem_map.1 hv;rfl
     have hvs:VRels ι (s.data.toList.map fun b=>LV.int .u8 b.toNat) vs:=VRels.map fun b _=>.int _ _;have hvl:vs.length=s.size:=by rw [List.length_map,<-hz]
     have hrl:rest.length=t:=by simp [rest]
     obtain ⟨κ,k1,k2,k3⟩:=newRow_more hW (e:=e) hcl hvs (rest:=rest) .mark ((vs++rest).length,(vs++rest).length+1) (.inr (Nat.le_refl _)) (fun v hv=>by rw [List.eq_of_mem_replicate hv];rfl);simp only [List.length_map] at k1 k2 k3;refine ⟨κ,_,.slice (some ⟨W.heap.size,0,none⟩) s.size (s.size+t),?_,?_,k1,(On.drew (W:=W) (W':={ W with drawn:=W.drawn+1 }) rfl rfl rfl rfl).trans k2⟩
     ·have hcut:s.size+t-s.size=t:=by omega
      have harr:(vs++rest).toArray=(s.data.map fun b=>Value.int .u8 b.toNat)++Array.replicate t (.int .u8 0):=by
       apply Array.ext';simp [vs,rest]
      have hmk:=mark_run (P:=P) { W with drawn:=W.drawn+1,heap:=W.heap.push (.cells (vs++rest).toArray e (0,0)) } ⟨W.heap.size,0,none⟩ (c:=(vs++rest).toArray) (e:=e) (fr:=(0,0)) (by simp);have hcutq:(Question.appendCap s.size 0 e).cut (W.tape W.drawn (.appendCap s.size 0 e))=s.size+t:=rfl;simp only [Go.convert,Sem.run_bind,run_underlying hs,run_underlying hd,Result.andThen_ok,run_underlying hu,Conv.stringToBytes,run_choose,Question.forced,Bool.false_eq_true,if_false,hcutq,hcut,<-harr,Go.newRow,run_newObj,
       hmk,Sem.run_pure]
      rw [push_set];simp
     ·rw [hz];refine .free ⟨_,k3,Nat.le_refl _,by omega,by simp,by simp only [List.length_append,hvl,hrl];push_cast;omega,.inl ⟨by simp,by simp,?_⟩⟩;simp only [List.length_append,hvl,hrl]
      push_cast
      omega
    ·cases hc
   ·cases hc
  ·rename_i t e a len n;split at hc
   ·rename_i hu;split at hc
    ·rename_i hsd
     replace hsd:=Nat.eq_of_beq_eq_true hsd
     split at hc
     ·rename_i cs el ver minv hg;split at hc
      ·rename_i hver
       replace hver:=Nat.eq_of_beq_eq_true hver
       cases hc;cases hv with |slice hp hd' hn=>
       obtain ⟨l,hl,h0,rfl⟩:=hp (Nat.succ_pos _);rw [hver] at hl;obtain ⟨hlen,hm,hall,_,hwh,h6,h7⟩:=cells_of_get h hl hg;obtain ⟨hmv,hsl⟩:=hwh rfl;obtain ⟨hsh,htot⟩:=hsl l hl;obtain ⟨c,fr,hC⟩:=(h6 _ _ hl).2 hm;have hfz:fr.1=fr.2:=by
        rcases hC.fz rfl with hf |hf
        ·exact hf
        ·cases hf
       obtain ⟨q1,q2⟩:=h.put_cells (cs':=cs) (minv':=minv) (fz':=.mark) (c':=c) (fr':=(c.size,c.size+1)) hl hg hlen hm (fun x=>x) hall hC.tot (.inr (by rw [<-hC.tot];exact Nat.le_refl _)) (hC.one rfl)
        (fun j x hx hj=>hC.cell j x hx (by have:=(List.getElem?_eq_some_iff.1 hx).1;omega) hj)
        (fun u m hu hne hmu=>absurd (Nat.le_antisymm (h6 u m hu).1 (by omega)) hne)
       have hmk:=mark_run (P:=P) W ⟨l.blk,((a.off:Int)+l.sh).toNat,none⟩ hC.here;refine ⟨ι,_,_,?_,.slice (fun _=>⟨l,by rw [hver];exact hl,h0,rfl⟩) hd' hn,q1,q2⟩;simp only [Go.convert,Sem.run_bind,run_underlying hs,run_underlying hd,Result.andThen_ok,run_underlying hu,hsd,beq_self_eq_true,hmk,Sem.run_pure,hfz,if_true]
      ·cases hc
     ·cases hc
    ·cases hc
   ·cases hc
  ·rename_i e a len cap;split at hc
   ·rename_i hu;split at hc
    ·cases hc;cases hv;refine ⟨ι,W,.string .empty,?_,.str _ rfl,h,.refl _ _ _ _⟩;simp only [Go.convert,Sem.run_bind,run_underlying hs,run_underlying hd,Result.andThen_ok,run_underlying hu,Conv.bytesToString,Sem.run_pure]
    ·rename_i a';split at hc
     ·rename_i cs hl;split at hc
      ·rename_i bs hb;cases hc;obtain ⟨u,h1,h2⟩:=bytesToString_rel (P:=P) h hv hl hb;obtain ⟨b,c,rfl,_,_⟩:=slice_place hv;refine ⟨ι,W,u,?_,h2,h,.refl _ _ _ _⟩;simp only [Go.convert,Sem.run_bind,run_underlying hs,run_underlying hd,Result.andThen_ok,run_underlying hu,h1]
      ·cases hc
     ·cases hc
   ·cases hc
  ·cases hc;cases hv;refine ⟨ι,W,_,?_,.nilptr,h,.refl _ _ _ _⟩;simp only [Go.convert,Sem.run_bind,run_underlying hs,run_underlying hd,Result.andThen_ok,Conv.unsafePointer,Sem.run_pure]
  ·cases hc;cases hv;refine ⟨ι,W,_,?_,.nilptr,h,.refl _ _ _ _⟩;simp only [Go.convert,Sem.run_bind,run_underlying hs,run_underlying hd,Result.andThen_ok,Conv.unsafePointer,Sem.run_pure]
  ·rename_i t a;split at hc
   ·rename_i cs el ver minv fz ro n hg hsz;split at hc
    ·rename_i hk;cases hc;cases hv with |ptr hp=>
     simp only [Bool.and_eq_true,Nat.ble_eq] at hk;obtain ⟨hver,hoff⟩:=hk
     replace hver:=Nat.eq_of_beq_eq_true hver
     obtain ⟨l,hl,h0,rfl⟩:=hp;rw [hver] at hl;obtain ⟨hlen,hm,hall,_,hwh,h6,h7⟩:=cells_of_get h hl hg;obtain ⟨hmv,hsl⟩:=hwh rfl;obtain ⟨hsh,htot⟩:=hsl l hl;obtain ⟨c,fr,hC⟩:=(h6 _ _ hl).2 hm;have hshape:W.shape? l.blk=some (el,c.size):=by simp [World.shape?,hC.here]
     have hlt:¬(((a.off:Int)+l.sh).toNat>=c.size):=by
      have:=hC.tot;omega
     refine ⟨ι,W,_,?_,.ptr ⟨l,by rw [hver];exact hl,h0,rfl⟩,h,.refl _ _ _ _⟩;simp [Go.convert,run_underlying hs,run_underlying hd,Conv.unsafePointer,Conv.seenAt,viewAt,cellsIn,hshape,hlt,run_sizeOf hsz]
    ·cases hc
   ·cases hc
  ·rename_i u a;split at hc
   ·rename_i cs el ver minv fz ro sz hg hsu;split at hc
    ·rename_i hk;cases hc;cases hv with |ptr hp=>
     simp only [Bool.and_eq_true] at hk;obtain ⟨hver,hlie⟩:=hk
     replace hver:=Nat.eq_of_beq_eq_true hver
     obtain ⟨l,hl,h0,rfl⟩:=hp;rw [hver] at hl;obtain ⟨hlen,hm,hall,_,hwh,h6,h7⟩:=cells_of_get h hl hg;obtain ⟨hmv,hsl⟩:=hwh rfl;obtain ⟨hsh,htot⟩:=hsl l hl;obtain ⟨c,fr,hC⟩:=(h6 _ _ hl).2 hm;have hshape:W.shape? l.blk=some (el,c.size):=by simp [World.shape?,hC.here]
     have hoff:((a.off:Int)+l.sh).toNat=a.off:=by omega
     have hsz:c.size=ver:=by have:=hC.tot;omega
     refine ⟨ι,W,_,?_,.ptr ⟨l,by rw [hver];exact hl,h0,rfl⟩,h,.refl _ _ _ _⟩;have hsize:=run_sizeOf hsu W;simp [Go.convert,run_underlying hs,run_underlying hd,Conv.unsafePointer,Conv.seenAt,viewAt,cellsIn,hshape,variablesAt,hoff,hsz,hlie,hsize]
    ·cases hc
   ·cases hc
  ·cases hc
 ·cases hc
theorem makeSliceL_rel{ι:Gh}{H H':LHeap}{W:World}{n0:Nat}(h:HRel ι H W n0){t e:TypeId}(he:elemOfSlice P t=some e){l c n bs:Nat}{z:LV}(hn:sizeOfT P e=some (n+1))(hb:bytesOfT P e=some bs)(hz:zeroOf P e=some z)
  (hlc:l<=c) (hbig:c*(bs+1)<=140737488355328) {a:LAddr} (hr:newRow H e (repl c z.cells []) true=some (a,H')) (hzl:z.cells.length=n+1) {j k:IntKind}:
  ∃(κ:Gh) (X:World) (u:Value),(Instr.makeSlice t (.int j l) (.int k c)).run P W=.ok u X/\VRel κ (.slice (some a) l (.exact c)) u/\HRel κ H' X n0/\On ι H W κ H' X n0:=by
 have hu:=elemOfSlice_some he;obtain ⟨it,zv,hit,hzv,hto⟩:=zeroOf_some hz;obtain ⟨it',hit',hsz⟩:=sizeOfT_some hn;rw [hit] at hit';cases hit';obtain ⟨it',hit',hbs⟩:=bytesOfT_some hb;rw [hit] at hit';cases hit';have hzr:VRels ι z.cells zv.cells.toList:=(toLV_rel ι _ _ _ hto).cells' (toLV_not_lost hto);have hzs:zv.cells.size=n+1:=by
  have:zv.cells.toList.length=zv.cells.size:=Array.length_toList;have:=hzr.len;omega
 have h0:VRels ι (repl c z.cells []) ((Array.range (c*(n+1))).map (fun i=>zv.cells[i%zv.cells.size]!)).toList:=by
  rw [repl_eq,List.append_nil,range_map_rep hzs (Nat.succ_pos _)];exact hzr.rep c
 obtain ⟨κ,X,h1,h2,h3,h4,_⟩:=newRow_rel (P:=P) h hr h0;refine ⟨κ,X,_,?_,.slice (fun _=>h4) (h4.imp fun _ x=>x.1) hlc,h2,h3⟩;have e1:c*(bs+1)=bs*c+c:=by rw [Nat.mul_add,Nat.mul_comm,Nat.mul_one]
 have hc1:bs*c<=140737488355328:=by omega
 have hc2:c<=140737488355328:=by omega
 have w1:IntKind.i64.wrap (l:Int)=l:=wrap_i64 (by omega) (by omega);have w2:IntKind.i64.wrap (c:Int)=c:=wrap_i64 (by omega) (by omega);have t1:¬((bs:Int)*c>2 ^ 48):=by
  have:(bs:Int)*c=((bs*c:Nat):Int):=by push_cast;rfl
  rw [this];omega
 have t2:¬((c:Int)<0):=by omega
 have t3:¬((l:Int)<0):=by omega
 have t4:¬((l:Int)>c):=by omega
 have hzrun:∀W,(zeroValue e).run P W=.ok zv W:=fun W=>by simp [zeroValue,run_typeInfo hit,hzv]
 subst hbs;have hsum:(Array.range (c*(n+1))).map (fun i=>(if c*(n+1)=0 then (#[]:Array Value) else zv.cells)[i%(if c*(n+1)=0 then (#[]:Array Value) else zv.cells).size]!)=(Array.range (c*(n+1))).map (fun i=>zv.cells[i%zv.cells.size]!):=by
  split
  ·rename_i h;simp [h]
  ·rfl
 have hdef:(Instr.makeSlice t (.int j l) (.int k c)).run P W=(do
   let a <-Go.newRow e ((Array.range (c*(n+1))).map (fun i=>(if c*(n+1)=0 then (#[]:Array Value) else zv.cells)[i%(if c*(n+1)=0 then (#[]:Array Value) else zv.cells).size]!))
   pure (Value.slice (some a) l c):Sem Value).run P W:=by
  simp only [Instr.makeSlice,Sem.run_bind,run_underlying hu,Result.andThen_ok,asInt,asIntOf,Sem.run_pure,run_typeInfo hit,w1,w2,t1,t2,t3,t4,decide_false,Bool.or_self,Bool.false_eq_true,if_false,run_askRoom,Int.toNat_natCast,run_sizeOf hn];split
  ·rename_i h0;simp [h0]
  ·rename_i h0;simp [h0,hzrun]
 rw [hdef,hsum];simp only [Sem.run_bind,h1,Result.andThen_ok,Sem.run_pure]
end Go.Lm

/- Built-in functions. -/
namespace Go.Lm
open Go.RowKit (Below)
variable {P:Program}
theorem rowAt_bytes{e:TypeId}(hc:P.cellsOf e=1)(fits:TypeId->Bool)(hf:fits e=true)(d count off n:Nat)(hn:off+n<=count):rowAt P fits (d+1) e count off n=true:=by
 simp [rowAt,hc,hf,hn,Nat.mod_one]
theorem liesAt_row{e:TypeId}(hc:P.cellsOf e=1)(count off n:Nat)(hn:off+n<=count):liesAt P P.depth e count off e n=true:=by
 have hd:P.depth=(2*(P.types.size+Made.depth)+1)+1:=rfl;rw [hd];simp only [liesAt,Bool.or_eq_true];left;rw [hd];exact rowAt_bytes hc _ (by simp [sameLayout]) _ _ _ _ hn
theorem byteRow_some{e:TypeId}{l:List TypeId}(h:byteRow P e l=true):∃t m,l=t::m/\P.underlying t=some (.pointer e)/\sizeOfT P e=some 1:=by
 cases l with
 |nil=>simp [byteRow] at h
 |cons t m=>
  simp only [byteRow] at h;split at h
  ·rename_i e' hp hs;have:=Nat.eq_of_beq_eq_true h;subst this;exact ⟨t,m,rfl,hp,hs⟩
  ·cases h
theorem loadBytes_ints:∀(ns:List Int) (W:World) (a:Addr) (acc:ByteArray),(∀j v,(ns.map (Value.int .u8))[j]? =some v->W.cell? (a.add j)=some v)->
  (loadBytes a acc ns.length).run P W=.ok ⟨acc.data++(ns.map fun n=>UInt8.ofNat n.toNat).toArray⟩ W
 |[],W,a,acc,_=>by simp [loadBytes]
 |n::ns,W,a,acc,h=>by
  have h0:W.cell? a=some (.int .u8 n):=by
   have:=h 0 _ rfl;simpa [Addr.add] using this
  have ih:=loadBytes_ints ns W (a.add 1) (acc.push (UInt8.ofNat n.toNat)) (fun j v hv=>by
   have:=h (j+1) v (by simpa using hv);have e:(a.add 1).add j=a.add (j+1):=by
    unfold Addr.add;by_cases hj:j=0
    ·subst hj;simp
    ·simp [hj];omega
   rw [e];exact this)
  have hx:(n.toNat).toUInt8=UInt8.ofNat n.toNat:=rfl;simp only [List.length_cons,loadBytes,Sem.run_bind,run_load,h0,Result.andThen_ok,hx];rw [ih];congr 1;apply ByteArray.ext;simp [ByteArray.push]
theorem unsafeString_rel{ι:Gh}{H H':LHeap}{W:World}{n0:Nat}(h:HRel ι H W n0){at_:Array TypeId}{k:IntKind}{a:LAddr}{b:Addr}{n:Nat}(hp:PRel ι a b)(ty:TypeId){cs0:List LV}{e:TypeId}{ver minv:Nat}{fz:FZ}{ro wh:Bool}
  (hg:H.get a.id=some (.cells cs0 e ver minv fz ro wh)) (hr:byteRow P e at_.toList=true) (hn:n+1<=9223372036854775807) {cs:List LV} (hl:loadN H a (n+1)=some cs) {bs:List UInt8} (hb:bytesOfCells cs=some bs)
  (hf:freezeL H a (n+1)=some H'):
  ∃X v,(Builtin.unsafeString_ at_ ty #[.pointer (some b),.int k (n+1:Nat)]).run P W=.ok v X/\VRel ι (.str bs) v/\HRel ι H' X n0/\On ι H W ι H' X n0:=by
 obtain ⟨t,m,hat,hpt,hsz⟩:=byteRow_some hr;have hc1:P.cellsOf e=1:=cellsOf_eq hsz;obtain ⟨q1,q2⟩:=freezeL_rel h hp (Nat.succ_pos n) hf;obtain ⟨vs,v1,v2,v3,v4⟩:=load_rel h hp hl;obtain ⟨ns,rfl,rfl⟩:=bytesOfCells_rel v1 hb;have hns:ns.length=n+1:=by simpa using v2
 have hld:=loadBytes_ints (P:=P) ns W b .empty v4;rw [hns] at hld;obtain ⟨l,hlo,h0,rfl⟩:=hp;obtain ⟨_,_,_,_,_,h6,_⟩:=cells_of_get h hlo hg;have hbnd:minv<=a.ver/\a.off+(n+1)<=a.ver:=by
  unfold loadN at hl;rw [hg] at hl;simp only at hl;split at hl
  ·rename_i hk;simpa only [Bool.and_eq_true,Nat.ble_eq] using hk
  ·cases hl
 obtain ⟨c,fr,hC⟩:=(h6 _ _ hlo).2 hbnd.1;have hshape:W.shape? l.blk=some (e,c.size):=by simp [World.shape?,hC.here]
 have hlies:liesAt P P.depth e (c.size / P.cellsOf e) ((a.off:Int)+l.sh).toNat e (n+1)=true:=by
  apply liesAt_row hc1;rw [hc1,Nat.div_one];have:=hC.fits;have:=hC.tot;omega
 have hat0:=array_one hat;refine ⟨_,.string ⟨(ns.map fun n=>UInt8.ofNat n.toNat).toArray⟩,?_,.str _ (by simp),q1,q2⟩;have hmax:IntKind.i64.max=9223372036854775807:=rfl;have hneg:¬((n+1:Nat):Int)<0:=by omega
 have hbig:¬((n+1:Nat):Int)>9223372036854775807:=by omega
 have hz:¬((n+1:Nat):Int)=0:=by omega
 have hdef:Builtin.unsafeString_ at_ ty #[.pointer (some ⟨l.blk,((a.off:Int)+l.sh).toNat,none⟩),.int k (n+1:Nat)]=
  (do
    let n <-asInt (.int k (n+1:Nat))
    let some pt:=at_[0]? |stuck "unsafe.String: no argument types"
    if n<0 then runtimePanic (.error "unsafe.String: len out of range")
    if n>IntKind.i64.max then unsupported (.unsafePointer "String: a length above the largest int")
    if n=0 then pure (.string .empty)
    else if <-variablesAt ⟨l.blk,((a.off:Int)+l.sh).toNat,none⟩ (<-elemOf pt) n.toNat then do
     let s <-loadBytes ⟨l.blk,((a.off:Int)+l.sh).toNat,none⟩ .empty n.toNat
     freeze ⟨l.blk,((a.off:Int)+l.sh).toNat,none⟩ n.toNat
     pure (.string s)
    else unsupported (.unsafePointer "String: not so many bytes at ptr")):=rfl
 rw [hdef];simp only [asInt,asIntOf,Sem.run_bind,Sem.run_pure,Result.andThen_ok,hat0,hneg,hmax,hbig,hz,if_false,variablesAt,run_program,run_shape,hshape,elemOf,run_underlying hpt,Int.toNat_natCast,hlies,if_true,hld,run_freeze];simp
theorem unsafeString_none(W:World)(at_:Array TypeId)(h0:∃t,at_[0]? =some t)(ty:TypeId)(p:Option Addr)(k:IntKind):(Builtin.unsafeString_ at_ ty #[.pointer p,.int k 0]).run P W=.ok (.string .empty) W:=by
 obtain ⟨t,h0⟩:=h0;have hmax:IntKind.i64.max=9223372036854775807:=rfl;cases p with
 |none=>
  have hdef:Builtin.unsafeString_ at_ ty #[.pointer none,.int k 0]=
   (do
     let n <-asInt (.int k 0)
     let some pt:=at_[0]? |stuck "unsafe.String: no argument types"
     if n<0 then runtimePanic (.error "unsafe.String: len out of range")
     if n>IntKind.i64.max then unsupported (.unsafePointer "String: a length above the largest int")
     if n=0 then pure (.string .empty)
     else runtimePanic (.error "unsafe.String: ptr is nil and len is not zero")):=rfl
  rw [hdef];simp [asInt,asIntOf,hmax,h0]
 |some a=>
  have hdef:Builtin.unsafeString_ at_ ty #[.pointer (some a),.int k 0]=
   (do
     let n <-asInt (.int k 0)
     let some pt:=at_[0]? |stuck "unsafe.String: no argument types"
     if n<0 then runtimePanic (.error "unsafe.String: len out of range")
     if n>IntKind.i64.max then unsupported (.unsafePointer "String: a length above the largest int")
     if n=0 then pure (.string .empty)
     else if <-variablesAt a (<-elemOf pt) n.toNat then do
      let s <-loadBytes a .empty n.toNat
      freeze a n.toNat
      pure (.string s)
     else unsupported (.unsafePointer "String: not so many bytes at ptr")):=rfl
  rw [hdef];simp [asInt,asIntOf,hmax,h0]
theorem unsafeSliceData_rel{ι:Gh}{a:LAddr}{len:Nat}{cap:Cap}{v:Value}(hv:VRel ι (.slice (some a) (len+1) cap) v)(W:World)(at_:Array TypeId)(ty:TypeId):
  ∃u,(Builtin.unsafeSliceData_ at_ ty #[v]).run P W=.ok u W/\VRel ι (.ptr (some a)) u:=by
 obtain ⟨b,c,rfl,hlc,hp⟩:=slice_place hv;exact ⟨_,Go.Lib.run_unsafeSliceData_row W at_ ty b (len+1) c (by omega),.ptr (hp (Nat.succ_pos _))⟩
theorem min_rel{k:IntKind}{x y:Int}(W:World)(at_:Array TypeId)(ty:TypeId):(Builtin.min_ at_ ty #[.int k x,.int k y]).run P W=.ok (.int k (if y<x then y else x)) W:=by
 simp [Builtin.min_,Builtin.min2]
theorem max_rel{k:IntKind}{x y:Int}(W:World)(at_:Array TypeId)(ty:TypeId):(Builtin.max_ at_ ty #[.int k x,.int k y]).run P W=.ok (.int k (if y>x then y else x)) W:=by
 simp [Builtin.max_,Builtin.max2]
theorem arr_two{α:Type}{a:Array α}{x y:α}(h:a.toList=[x,y]):a=#[x,y]:=Array.ext' h
theorem arr_one{α:Type}{a:Array α}{x:α}(h:a.toList=[x]):a=#[x]:=Array.ext' h
theorem builtinL_rel{C:Cfg}{ι:Gh}{H H':LHeap}{W:World}{n0:Nat}(h:HRel ι H W n0){b:Builtin}{at_:Array TypeId}{x:List LV}{a:Array Value}(hx:VRels ι x a.toList)(ty:TypeId)(consts:Array Bool){y:LNext}
  (hb:builtinL C H b at_.toList x=some (y,H')):
  ∃κ X r,(Go.builtin b at_ ty consts a).run C.P W=r/\HRel κ H' X n0/\On ι H W κ H' X n0/\OutRel C.P κ X y r:=by
 have val:∀{m:Sem Value} {κ:Gh} {X:World} {u:Value} {z:LV},m.run C.P W=.ok u X->VRel κ z u->HRel κ H' X n0->On ι H W κ H' X n0->
   ∃κ X r,(do pure (.value (<-m)):Sem Next).run C.P W=r/\HRel κ H' X n0/\On ι H W κ H' X n0/\OutRel C.P κ X (.value z) r:=by
  intro m κ X u z hm hz h1 h2;refine ⟨κ,X,_,rfl,h1,h2,?_⟩;simp only [Sem.run_bind,hm,Result.andThen_ok,Sem.run_pure];exact .value hz
 obtain ⟨al,hal⟩:∃al,a.toList=al:=⟨_,rfl⟩;unfold builtinL at hb;dsimp only at hb;split at hb
 ·split at hb
  ·rename_i r H1 hr;cases hb;obtain ⟨κ,X,v,h1,h2,h3,h4⟩:=appendL_rel h hx ty hr;exact val h1 h2 h3 h4
  ·cases hb
 ·split at hb
  ·rename_i r H1 hr;cases hb;obtain ⟨X,v,h1,h2,h3,h4⟩:=copyL_rel h hx ty hr;exact val h1 h2 h3 h4
  ·cases hb
 ·split at hb
  ·rename_i r H1 hr;cases hb;obtain ⟨X,v,h1,h2,h3,h4⟩:=clearL_rel h hx ty hr;exact val h1 h2 h3 h4
  ·cases hb
 ·split at hb
  ·rename_i r H1 hr;cases hb;obtain ⟨X,v,h1,h2,h3,h4⟩:=deleteL_rel h hx ty hr;exact val h1 h2 h3 h4
  ·cases hb
 ·
  rw [hal] at hx;split at hb
  ·rename_i t ts z zs hat;cases hx with |@cons _ v _ m hv _=>
   have ga:=array_one hal;have gt:=array_one hat;split at hb
   ·cases hb
   ·rename_i d hd;split at hb
    ·cases hb;cases hv with |str s hs=>
     refine val (m:=Builtin.len_ at_ ty a) (κ:=ι) (X:=W) (u:=.int .i64 s.size) ?_ (by rw [<-hs];simp only [Array.length_toList];exact .int _ _) h (.refl _ _ _ _);simp only [Builtin.len_,ga,gt,Sem.run_bind,Sem.run_pure,Result.andThen_ok,run_underlying hd,goInt]
    ·rename_i n e;cases hb;refine val (m:=Builtin.len_ at_ ty a) (κ:=ι) (X:=W) (u:=.int .i64 n) ?_ (.int _ _) h (.refl _ _ _ _);simp only [Builtin.len_,ga,gt,Sem.run_bind,Sem.run_pure,Result.andThen_ok,run_underlying hd,goInt]
    ·rename_i e a' n c;cases hb;have hv':∃p q,v=.slice p n q:=by cases hv<;>exact ⟨_,_,rfl⟩
     obtain ⟨p,q,rfl⟩:=hv';refine val (m:=Builtin.len_ at_ ty a) (κ:=ι) (X:=W) (u:=.int .i64 n) ?_ (.int _ _) h (.refl _ _ _ _);simp only [Builtin.len_,ga,gt,Sem.run_bind,Sem.run_pure,Result.andThen_ok,run_underlying hd,goInt]
    ·cases hb;cases hv;refine val (m:=Builtin.len_ at_ ty a) (κ:=ι) (X:=W) (u:=.int .i64 0) ?_ (.int _ _) h (.refl _ _ _ _);simp only [Builtin.len_,ga,gt,Sem.run_bind,Sem.run_pure,Result.andThen_ok,run_underlying hd,goInt]
    ·rename_i r;split at hb
     ·rename_i es c hm;cases hb;cases hv with |map hl=>
      obtain ⟨ces,g1,g2,_⟩:=run_getMap (P:=C.P) h hl hm;refine val (m:=Builtin.len_ at_ ty a) (κ:=ι) (X:=W) (u:=.int .i64 ces.size) ?_ (by rw [g2.len,Array.length_toList];exact .int _ _) h (.refl _ _ _ _);simp only [Builtin.len_,ga,gt,Sem.run_bind,Sem.run_pure,Result.andThen_ok,run_underlying hd,goInt,g1]
     ·cases hb
    ·rename_i arr;split at hb
     ·rename_i n e hu;cases hb;refine val (m:=Builtin.len_ at_ ty a) (κ:=ι) (X:=W) (u:=.int .i64 n) ?_ (.int _ _) h (.refl _ _ _ _);simp only [Builtin.len_,ga,gt,Sem.run_bind,Sem.run_pure,Result.andThen_ok,run_underlying hd,run_underlying hu,goInt]
     ·cases hb
    ·cases hb
  ·cases hb
 ·
  rw [hal] at hx;split at hb
  ·rename_i t ts a' n c zs hat;cases hx with |@cons _ v _ m hv _=>
   have ga:=array_one hal;have gt:=array_one hat;split at hb
   ·rename_i e hd;cases hb;have hv':∃p,v=.slice p n c:=by cases hv<;>exact ⟨_,rfl⟩
    obtain ⟨p,rfl⟩:=hv';refine val (m:=Builtin.cap_ at_ ty a) (κ:=ι) (X:=W) (u:=.int .i64 c) ?_ (.int _ _) h (.refl _ _ _ _);simp only [Builtin.cap_,ga,gt,Sem.run_bind,Sem.run_pure,Result.andThen_ok,run_underlying hd,goInt]
   ·cases hb
  ·cases hb
 ·
  rw [hal] at hx;split at hb
  ·rename_i k p j q;split at hb
   ·rename_i hk;have:=eq_of_beq hk;subst this;cases hb;cases hx with |cons h1 hx=>cases hx with |cons h2 hx=>
    cases hx;cases h1;cases h2;rw [arr_two hal];exact val (min_rel W at_ ty) (.int _ _) h (.refl _ _ _ _)
   ·cases hb
  ·cases hb
 ·rw [hal] at hx;split at hb
  ·rename_i k p j q;split at hb
   ·rename_i hk;have:=eq_of_beq hk;subst this;cases hb;cases hx with |cons h1 hx=>cases hx with |cons h2 hx=>
    cases hx;cases h1;cases h2;rw [arr_two hal];exact val (max_rel W at_ ty) (.int _ _) h (.refl _ _ _ _)
   ·cases hb
  ·cases hb
 ·cases hb;exact ⟨ι,W,_,rfl,h,.refl _ _ _ _,.recover⟩
 ·rw [hal] at hx;split at hb
  ·cases hb;cases hx with |cons h1 hx=>
   cases hx;cases h1;rw [arr_one hal];exact val (Go.Lib.run_unsafeSliceData_nil W at_ ty _ _) .nilptr h (.refl _ _ _ _)
  ·cases hb;cases hx with |cons h1 hx=>
   cases hx;rw [arr_one hal];obtain ⟨u,q1,q2⟩:=unsafeSliceData_rel (P:=C.P) h1 W at_ ty;exact val q1 q2 h (.refl _ _ _ _)
  ·cases hb
 ·rw [hal] at hx;split at hb
  ·split at hb
   ·rename_i t ts hat;cases hb;cases hx with |@cons _ v1 _ _ h1 hx=>cases hx with |cons h2 hx=>
    cases hx;cases h2;rw [arr_two hal];have h1':∃p,v1=Value.pointer p:=by cases h1<;>exact ⟨_,rfl⟩
    obtain ⟨p,rfl⟩:=h1';exact val (unsafeString_none W at_ ⟨_,array_one hat⟩ ty p _) (.str _ rfl) h (.refl _ _ _ _)
   ·cases hb
  ·rename_i a' k n;split at hb
   ·rename_i cs0 e ver minv fz ro wh hg;split at hb
    ·rename_i hbr;simp only [Bool.and_eq_true,Nat.ble_eq] at hbr;split at hb
     ·rename_i cs hl;split at hb
      ·rename_i bs hbs;split at hb
       ·rename_i H1 hf;cases hb;cases hx with |cons h1 hx=>cases hx with |cons h2 hx=>
        cases hx;cases h2;cases h1 with |ptr hp=>
        rw [arr_two hal];obtain ⟨X,v,q1,q2,q3,q4⟩:=unsafeString_rel h hp ty hg hbr.1 hbr.2 hl hbs hf (k:=k);exact val q1 q2 q3 q4
       ·cases hb
      ·cases hb
     ·cases hb
    ·cases hb
   ·cases hb
  ·cases hb
 ·cases hb
end Go.Lm

/- Library functions without a body. -/
namespace Go.Lm
open Go.RowKit (Below)
variable {P:Program}
theorem extLoadBytes_ints:∀(ns:List Int) (W:World) (a:Addr) (acc:ByteArray),(∀j v,(ns.map (Value.int .u8))[j]? =some v->W.cell? (a.add j)=some v)->
  (Extern.Bytes.loadBytes a ns.length acc).run P W=.ok ⟨acc.data++(ns.map fun n=>UInt8.ofNat n.toNat).toArray⟩ W
 |[],W,a,acc,_=>by simp [Extern.Bytes.loadBytes]
 |n::ns,W,a,acc,h=>by
  have h0:W.cell? a=some (.int .u8 n):=by
   have:=h 0 _ rfl;simpa [Addr.add] using this
  have ih:=extLoadBytes_ints ns W (a.add 1) (acc.push (UInt8.ofNat n.toNat)) (fun j v hv=>by
   have:=h (j+1) v (by simpa using hv);have e:(a.add 1).add j=a.add (j+1):=by
    unfold Addr.add;by_cases hj:j=0
    ·subst hj;simp
    ·simp [hj];omega
   rw [e];exact this)
  have hx:(n.toNat).toUInt8=UInt8.ofNat n.toNat:=rfl;simp only [List.length_cons,Extern.Bytes.loadBytes,Sem.run_bind,run_load,h0,Result.andThen_ok,hx];rw [ih];congr 1;apply ByteArray.ext;simp [ByteArray.push]
theorem bytesArg_rel{ι:Gh}{H:LHeap}{W:World}{n0:Nat}(h:HRel ι H W n0){x:LV}{v:Value}(hv:VRel ι x v){s:List UInt8}(hb:bytesArg H x=some s):
  ∃b:ByteArray,(Extern.Bytes.bytesOf v).run P W=.ok b W/\b.data.toList=s:=by
 unfold bytesArg at hb;split at hb
 ·cases hb;cases hv with |str b hs=>exact ⟨b,rfl,hs⟩
 ·cases hb;cases hv;exact ⟨.empty,rfl,rfl⟩
 ·rename_i a len cap;split at hb
  ·rename_i cs hl;obtain ⟨b,c,rfl,hlc,hp⟩:=slice_place hv;rcases Nat.eq_zero_or_pos len with hz |hpos
   ·subst hz;have hcs:cs=[]:=by
     unfold loadN at hl;split at hl
     ·split at hl
      ·simp [takeN] at hl;exact hl
      ·cases hl
     ·cases hl
    subst hcs;simp only [bytesOfCells,Option.some.injEq] at hb;subst hb;exact ⟨.empty,rfl,rfl⟩
   ·obtain ⟨vs,h1,h2,h3,h4⟩:=load_rel h (hp hpos) hl;obtain ⟨ns,rfl,rfl⟩:=bytesOfCells_rel h1 hb;have hns:ns.length=len:=by simpa using h2
    have:=extLoadBytes_ints (P:=P) ns W b .empty h4;rw [hns] at this;exact ⟨_,this,by simp⟩
  ·cases hb
 ·cases hb
theorem findByte_eq(c:UInt8):∀(l:List UInt8) (k:Nat),findByte c l k=if Go.Lib.indexByte l c== -1 then -1 else Go.Lib.indexByte l c+k
 |[],k=>by simp [findByte,Go.Lib.indexByte]
 |b::l,k=>by
  have ge:=Go.Lib.indexByte_ge l c;unfold findByte Go.Lib.indexByte;split
  ·simp
  ·rw [findByte_eq c l (k+1)];split
   ·simp
   ·rename_i hn;have hne:¬Go.Lib.indexByte l c= -1:=by simpa using hn
    have:¬((Go.Lib.indexByte l c+1== -1)=true):=by simp;omega
    rw [if_neg this]
    push_cast
    omega
theorem countByte_eq(c:UInt8):∀(l:List UInt8) (n:Nat),countByte c l n=n+Go.Lib.countByte l c
 |[],n=>by simp [countByte,Go.Lib.countByte]
 |b::l,n=>by
  unfold countByte;rw [countByte_eq c l];unfold Go.Lib.countByte;rw [List.count_cons];split<;>simp_all<;>omega
theorem cmpBytes_eq:∀(a b:List UInt8),cmpBytes a b=Go.Lib.compareBytes a b
 |[],[]=>rfl
 |[],_::_=>rfl
 |_::_,[]=>rfl
 |x::a,y::b=>by
  unfold cmpBytes Go.Lib.compareBytes;rw [cmpBytes_eq a b];by_cases h:x=y
  ·subst h;have:¬x<x:=UInt8.lt_irrefl x;simp [this]
  ·have hne:(x==y)=false:=by simpa using h
   simp only [hne,Bool.false_eq_true,if_false];by_cases hlt:x<y
   ·simp [hlt]
   ·have:y<x:=UInt8.lt_of_le_of_ne (UInt8.not_lt.1 hlt) (Ne.symm h);simp [hlt,this]
theorem indexByte_run{W:World}{v:Value}{s:ByteArray}(h:(Extern.Bytes.bytesOf v).run P W=.ok s W)(c:Int):
  (Extern.BytealgIndexByte.indexByte #[v,.int .u8 c]).run P W=.ok (.int .i64 (findByte (UInt8.ofNat c.toNat) s.data.toList 0)) W:=by
 have e:(Extern.BytealgIndexByte.indexByte #[v,.int .u8 c]).run P W=(Extern.BytealgIndexByte.indexByte #[.string s,.int .u8 c]).run P W:=by
  have d:∀v,Extern.BytealgIndexByte.indexByte #[v,.int .u8 c]=(do
   let b <-Extern.Bytes.bytesOf v
   let c <-Extern.Bytes.asByte (.int .u8 c)
   match (List.range b.size).find? fun i=>b[i]! ==c with
   |some i=>pure (goInt i)
   |none=>pure (goInt (-1))):=fun _=>rfl
  have hs:(Extern.Bytes.bytesOf (.string s)).run P W=.ok s W:=rfl;rw [d,d];simp only [Sem.run_bind,h,hs,Result.andThen_ok]
 have ge:=Go.Lib.indexByte_ge s.data.toList (UInt8.ofNat c.toNat);rw [e,Go.Lib.run_indexByteString,findByte_eq];have:c.toNat.toUInt8=UInt8.ofNat c.toNat:=rfl;rw [this];split
 ·rename_i h1;rw [eq_of_beq h1]
 ·simp
theorem count_run{W:World}{v:Value}{s:ByteArray}(h:(Extern.Bytes.bytesOf v).run P W=.ok s W)(c:Int):
  (Extern.BytealgCount.count #[v,.int .u8 c]).run P W=.ok (.int .i64 (countByte (UInt8.ofNat c.toNat) s.data.toList 0)) W:=by
 have e:(Extern.BytealgCount.count #[v,.int .u8 c]).run P W=(Extern.BytealgCount.count #[.string s,.int .u8 c]).run P W:=by
  have d:∀v,Extern.BytealgCount.count #[v,.int .u8 c]=(do
   let b <-Extern.Bytes.bytesOf v
   let c <-Extern.Bytes.asByte (.int .u8 c)
   pure (goInt (b.foldl (fun n x=>if x==c then n+1 else n) (0:Nat)))):=fun _=>rfl
  have hs:(Extern.Bytes.bytesOf (.string s)).run P W=.ok s W:=rfl;rw [d,d];simp only [Sem.run_bind,h,hs,Result.andThen_ok]
 rw [e,Go.Lib.run_countString,countByte_eq,Nat.zero_add]
theorem compare_run{W:World}{v w:Value}{s t:ByteArray}(h:(Extern.Bytes.bytesOf v).run P W=.ok s W)(k:(Extern.Bytes.bytesOf w).run P W=.ok t W):
  (Extern.BytealgCompare.compare #[v,w]).run P W=.ok (.int .i64 (cmpBytes s.data.toList t.data.toList)) W:=by
 have e:(Extern.BytealgCompare.compare #[v,w]).run P W=(Extern.BytealgCompare.compare #[.string s,.string t]).run P W:=by
  have d:∀v w,Extern.BytealgCompare.compare #[v,w]=(do pure (goInt (Extern.BytealgCompare.cmp (<-Extern.Bytes.bytesOf v) (<-Extern.Bytes.bytesOf w)))):=fun _ _=>rfl;have hs:(Extern.Bytes.bytesOf (.string s)).run P W=.ok s W:=rfl;have ht:(Extern.Bytes.bytesOf (.string t)).run P W=.ok t W:=rfl;rw [d,d];simp only [Sem.run_bind,h,k,hs,ht,Result.andThen_ok]
 rw [e,Go.Lib.run_compareString,cmpBytes_eq]
theorem mem_digits:∀(n t:Nat) (acc:Array Value),(∀v∈acc.toList,v.oneCell'=true)->(∀v∈(Extern.BytealgMakeNoZero.digits n t acc).toList,v.oneCell'=true)/\(Extern.BytealgMakeNoZero.digits n t acc).size=acc.size+n
 |0,t,acc,h=>⟨h,rfl⟩
 |n+1,t,acc,h=>by
  have:=mem_digits n (t / 256) (acc.push (.int .u8 (Int.ofNat (t%256)))) (fun v hv=>by
   simp only [Array.toList_push,List.mem_append,List.mem_singleton] at hv;rcases hv with hv |rfl
   ·exact h v hv
   ·rfl)
  refine ⟨this.1,?_⟩;rw [Extern.BytealgMakeNoZero.digits,this.2,Array.size_push];omega
theorem junks{ι:Gh}:∀(vs:List Value),(∀v∈vs,v.oneCell'=true)->VRels ι (List.replicate vs.length .junk) vs
 |[],_=>.nil
 |v::l,h=>.cons (.junk (h v List.mem_cons_self)) (junks l fun w hw=>h w (List.mem_cons_of_mem _ hw))
def ExtSem(e:Ext)(g:Array Value->Sem Value):Prop:=
 match e with
 | .noEscape=>g=Extern.AbiNoEscape.same
 | .indexByte=>g=Extern.BytealgIndexByte.indexByte
 | .countByte=>g=Extern.BytealgCount.count
 | .cmpStr=>g=Extern.BytealgCompare.compare
 | .overlaps t=>∃ps rs,g=Extern.SlicesOverlaps.overlaps ps rs/\ps[0]? =some t
 | .makeNoZero t=>∃ps rs,g=Extern.BytealgMakeNoZero.makeNoZero ps rs/\rs[0]? =some t
 | .mapsClone=>g=Extern.MapsClone.clone
 | .add64=>g=fun args=>do
  let (x,y,c) <-Extern.MathBitsCarry.three "Add64" args
  pure (Extern.MathBitsCarry.pair ((x+y+c)%Extern.MathBitsCarry.m64) ((x+y+c) / Extern.MathBitsCarry.m64))
 | .sub64=>False
theorem frozen_none{W:World}{b:Nat}{c:Array Value}{e:TypeId}{fr:Nat×Nat}(h:W.heap[b]? =some (.cells c e fr))(hf:fr.1=fr.2)(a:Addr)(ha:a.block=b):W.frozen? a=false:=by
 unfold World.frozen?;rw [ha,h];obtain ⟨lo,hi⟩:=fr;simp only at hf |-;subst hf;simp
theorem stringish_none{W:World}{b:Nat}{c:Array Value}{e:TypeId}{fr:Nat×Nat}(h:W.heap[b]? =some (.cells c e fr))(hf:fr.1=fr.2)(a:Addr)(ha:a.block=b):(stringish a).run P W=.ok false W:=by
 have hs:W.shape? a.block=some (e,c.size):=by simp [World.shape?,ha,h]
 have:=frozen_none h hf ⟨a.block,c.size,none⟩ ha;simp only [stringish,Sem.run_bind,run_frozen,frozen_none h hf a ha,Result.andThen_ok,Bool.false_eq_true,if_false,run_shape,hs,this]
theorem overlaps_rel{ι:Gh}{H:LHeap}{W:World}{n0:Nat}(h:HRel ι H W n0){t e:TypeId}{size la lb:Nat}{a b:Option LAddr}{ca cb:Cap}{v w:Value}(hv:VRel ι (.slice a la ca) v)(hw:VRel ι (.slice b lb cb) w)
  (he:elemOfSlice P t=some e) (hs:sizeOfT P e=some size) {ps rs:Array TypeId} (hps:ps[0]? =some t) {r:Bool}
  (hr:(match a,b with
    |some a,some b=>
     if Nat.beq la 0||Nat.beq lb 0||Nat.beq size 0 then some (.bool false,H) else
     if Nat.beq a.id b.id then
      if Nat.beq a.ver b.ver then some (.bool (Nat.ble (a.off+1) (b.off+lb*size)&&Nat.ble (b.off+1) (a.off+la*size)),H) else none
     else match H.get a.id,H.get b.id with
      |some (.cells _ _ _ m .none false _),some (.cells _ _ _ k .none false _)=>if Nat.ble m a.ver&&Nat.ble k b.ver then some (.bool false,H) else none
      |_,_=>none
    |_,_=>some (.bool false,H))=some (LV.bool r,H)):
  (Extern.SlicesOverlaps.overlaps ps rs #[v,w]).run P W=.ok (.bool r) W:=by
 have hu:=elemOfSlice_some he;have d:∀(x z:Option Addr) (cx cz:Nat),Extern.SlicesOverlaps.overlaps ps rs #[.slice x la cx,.slice z lb cz]=(do
  let some t:=ps[0]? |stuck "slices.overlaps: no parameter types"
  let .slice elem <-underlying t |stuck "slices.overlaps: slice type expected"
  let size <-sizeOf elem
  match x,z with
  |some a,some b=>
   if la=0\/lb=0\/size=0 then pure (.bool false)
   else if a.block != b.block&&(<-frozen a)&&(<-frozen b) then unsupported .addressObserved
   else do
    if a.block != b.block then do
     noView a;noView b
     if <-mayBeOne a b then return .bool ((<-choose (.extern "sameAddr.stringBytes" 2))==1)
    pure (.bool (a.block==b.block&&a.off<b.off+lb*size&&b.off<a.off+la*size))
  |_,_=>pure (.bool false)):=fun _ _ _ _=>rfl
 have none1:∀(z:Option Addr) (cx cz:Nat),(Extern.SlicesOverlaps.overlaps ps rs #[.slice none la cx,.slice z lb cz]).run P W=.ok (.bool false) W:=by
  intro z cx cz;rw [d];simp [hps,run_underlying hu,run_sizeOf hs]
 have none2:∀(x:Option Addr) (cx cz:Nat),(Extern.SlicesOverlaps.overlaps ps rs #[.slice x la cx,.slice none lb cz]).run P W=.ok (.bool false) W:=by
  intro x cx cz;rw [d];cases x<;>simp [hps,run_underlying hu,run_sizeOf hs]
 split at hr
 ·rename_i a b;obtain ⟨x,cx,rfl,hlx,hpx⟩:=slice_place hv;obtain ⟨z,cz,rfl,hlz,hpz⟩:=slice_place hw;rw [d];split at hr
  ·rename_i h0;cases hr;simp only [Bool.or_eq_true] at h0;have h0':la=0\/lb=0\/size=0:=by
    rcases h0 with (h0 |h0) |h0
    ·exact .inl (Nat.eq_of_beq_eq_true h0)
    ·exact .inr (.inl (Nat.eq_of_beq_eq_true h0))
    ·exact .inr (.inr (Nat.eq_of_beq_eq_true h0))
   simp [hps,run_underlying hu,run_sizeOf hs,h0']
  ·rename_i h0;have e0:la≠0/\lb≠0/\size≠0:=by
    refine ⟨?_,?_,?_⟩<;>(rintro rfl;simp at h0)
   have h0':¬(la=0\/lb=0\/size=0):=by omega
   obtain ⟨l,hl,hl0,rfl⟩:=hpx (by omega);obtain ⟨m,hm,hm0,rfl⟩:=hpz (by omega);split at hr
   ·rename_i hid
    replace hid:=Nat.eq_of_beq_eq_true hid
    split at hr
    ·rename_i hver
     replace hver:=Nat.eq_of_beq_eq_true hver
     rw [hid,hver] at hl;rw [hl] at hm;cases hm;simp only [Option.some.injEq,Prod.mk.injEq,LV.bool.injEq,and_true] at hr;subst hr;have q1:(decide (((a.off:Int)+l.sh).toNat<((b.off:Int)+l.sh).toNat+lb*size))=Nat.ble (a.off+1) (b.off+lb*size):=by
      rw [Bool.eq_iff_iff,decide_eq_true_eq,Nat.ble_eq];omega
     have q2:(decide (((b.off:Int)+l.sh).toNat<((a.off:Int)+l.sh).toNat+la*size))=Nat.ble (b.off+1) (a.off+la*size):=by
      rw [Bool.eq_iff_iff,decide_eq_true_eq,Nat.ble_eq];omega
     simp [hps,run_underlying hu,run_sizeOf hs,h0',q1,q2]
    ·cases hr
   ·rename_i hid;have hid':a.id≠b.id:=fun hh=>hid (by rw [hh];exact Nat.beq_refl _);split at hr
    ·rename_i cs1 e1 v1 m1 w1 cs2 e2 v2 m2 w2 hg1 hg2;split at hr
     ·rename_i hk;simp only [Bool.and_eq_true,Nat.ble_eq] at hk;cases hr;obtain ⟨_,_,_,_,_,h6,_⟩:=cells_of_get h hl hg1;obtain ⟨_,_,_,_,_,k6,_⟩:=cells_of_get h hm hg2;obtain ⟨c1,fr1,hC1⟩:=(h6 _ _ hl).2 hk.1;obtain ⟨c2,fr2,hC2⟩:=(k6 _ _ hm).2 hk.2;have hf1:fr1.1=fr1.2:=by
       rcases hC1.fz rfl with hf |hf
       ·exact hf
       ·cases hf
      have hf2:fr2.1=fr2.2:=by
       rcases hC2.fz rfl with hf |hf
       ·exact hf
       ·cases hf
      have hne:l.blk≠m.blk:=by
       intro hh;obtain ⟨⟨cs,e',v',m',fz,wh,hro⟩,_⟩:=h.sep _ _ _ _ _ _ hl hm hh hid';rw [hg1] at hro;cases hro
      have s1:=stringish_none (P:=P) hC1.here hf1 ⟨l.blk,((a.off:Int)+l.sh).toNat,none⟩ rfl;have s2:=stringish_none (P:=P) hC2.here hf2 ⟨m.blk,((b.off:Int)+m.sh).toNat,none⟩ rfl;have z1:=frozen_none hC1.here hf1 ⟨l.blk,((a.off:Int)+l.sh).toNat,none⟩ rfl;have sh1:W.shape? l.blk=some (e1,c1.size):=by simp [World.shape?,hC1.here]
      have sh2:W.shape? m.blk=some (e2,c2.size):=by simp [World.shape?,hC2.here]
      have hmb:(mayBeOne ⟨l.blk,((a.off:Int)+l.sh).toNat,none⟩ ⟨m.blk,((b.off:Int)+m.sh).toNat,none⟩).run P W=.ok false W:=by
       simp [mayBeOne,s1,s2,sh1,sh2]
      have hb:(l.blk != m.blk)=true:=by simpa using hne
      have hb':(l.blk==m.blk)=false:=by simpa using hne
      simp [hps,run_underlying hu,run_sizeOf hs,h0',z1,noView,viewAt,sh1,sh2,hmb,hne]
     ·cases hr
    ·cases hr
 ·rename_i hno;cases hr;cases hv<;>cases hw<;>first |exact none1 _ _ _ |exact none2 _ _ _ |exact absurd rfl (hno _ _ rfl)
theorem extL_rel{ι:Gh}{H H':LHeap}{W:World}{n0:Nat}(h:HRel ι H W n0){e:Ext}{g:Array Value->Sem Value}(hg:ExtSem e g){x:List LV}{a:Array Value}(hx:VRels ι x a.toList){r:LV}(hr:extL P H e x=some (r,H')):
  ∃(κ:Gh) (X:World) (u:Value),(g a).run P W=.ok u X/\VRel κ r u/\HRel κ H' X n0/\On ι H W κ H' X n0:=by
 obtain ⟨al,hal⟩:∃al,a.toList=al:=⟨_,rfl⟩;rw [hal] at hx;unfold extL at hr;split at hr
 ·cases hr;cases hx with |cons h1 hx=>
  cases hx;rw [arr_one hal];cases hg;exact ⟨ι,W,_,rfl,h1,h,.refl _ _ _ _⟩
 ·split at hr
  ·rename_i s hs;cases hr;cases hx with |cons h1 hx=>cases hx with |cons h2 hx=>
   cases hx;cases h2;rw [arr_two hal];cases hg;obtain ⟨b,q1,rfl⟩:=bytesArg_rel (P:=P) h h1 hs;exact ⟨ι,W,_,indexByte_run q1 _,.int _ _,h,.refl _ _ _ _⟩
  ·cases hr
 ·split at hr
  ·rename_i s hs;cases hr;cases hx with |cons h1 hx=>cases hx with |cons h2 hx=>
   cases hx;cases h2;rw [arr_two hal];cases hg;obtain ⟨b,q1,rfl⟩:=bytesArg_rel (P:=P) h h1 hs;exact ⟨ι,W,_,count_run q1 _,.int _ _,h,.refl _ _ _ _⟩
  ·cases hr
 ·split at hr
  ·rename_i s t hs ht;cases hr;cases hx with |cons h1 hx=>cases hx with |cons h2 hx=>
   cases hx;rw [arr_two hal];cases hg;obtain ⟨b,q1,rfl⟩:=bytesArg_rel (P:=P) h h1 hs;obtain ⟨c,q2,rfl⟩:=bytesArg_rel (P:=P) h h2 ht;exact ⟨ι,W,_,compare_run q1 q2,.int _ _,h,.refl _ _ _ _⟩
  ·cases hr
 ·rename_i t a1 la ca b1 lb cb;cases hx with |cons h1 hx=>cases hx with |cons h2 hx=>
  cases hx;rw [arr_two hal];obtain ⟨ps,rs,rfl,hps⟩:=hg;split at hr
  ·cases hr
  ·rename_i el hel;split at hr
   ·cases hr
   ·rename_i size hsz;obtain ⟨q,rfl,rfl⟩:∃q,r=.bool q/\H'=H:=by
     split at hr
     ·split at hr
      ·cases hr;exact ⟨_,rfl,rfl⟩
      ·split at hr
       ·split at hr
        ·cases hr;exact ⟨_,rfl,rfl⟩
        ·cases hr
       ·split at hr
        ·split at hr
         ·cases hr;exact ⟨_,rfl,rfl⟩
         ·cases hr
        ·cases hr
     ·cases hr;exact ⟨_,rfl,rfl⟩
    exact ⟨ι,W,_,overlaps_rel h h1 h2 hel hsz hps hr,.bool _,h,.refl _ _ _ _⟩
 ·rename_i t n;cases hx with |cons h1 hx=>
  cases hx;cases h1;rw [arr_one hal];obtain ⟨ps,rs,rfl,hrs⟩:=hg;split at hr
  ·rename_i el hel;have hu:=elemOfSlice_some hel;split at hr
   ·rename_i hn;rw [Nat.ble_eq] at hn;split at hr
    ·rename_i a1 H1 hnr;cases hr;unfold newRow at hnr;split at hnr
     ·rename_i hac;cases hnr
      let cap:=n+W.tape W.drawn (.appendCap n 0 el)%(2 ^ 63-n)
      let W1:World:={ W with drawn:=W.drawn+1 }
      let q:Question:=.extern "internal/bytealg.MakeNoZero.bytes" 0
      let bytes:=q.cut (W1.tape W1.drawn q)
      let W2:World:={ W with drawn:=W.drawn+1+1 }
      let ds:=Extern.BytealgMakeNoZero.digits cap bytes #[]
      obtain ⟨d1,d2⟩:=mem_digits cap bytes #[] (by simp);have d2':ds.toList.length=cap:=by rw [Array.length_toList];simpa using d2
      have hcap:n<=cap:=Nat.le_add_right _ _;have hl:(ds.toList.take n).length=n:=by rw [List.length_take];omega
      have hj:VRels ι (repl n [LV.junk] []) (ds.toList.take n):=by
       have e1:repl n [LV.junk] []=List.replicate (ds.toList.take n).length LV.junk:=by
        rw [hl,repl_eq,List.append_nil];exact List.flatten_replicate_singleton
       rw [e1];exact junks _ fun v hv=>d1 v (List.mem_of_mem_take hv)
      have hrl:(repl n [LV.junk] []).length=n:=by rw [hj.len,hl]
      obtain ⟨κ,k1,k2,k3⟩:=newRow_more (h.drew (W':=W2) rfl) (e:=el) hac hj (rest:=ds.toList.drop n) .none (0,0) (.inl rfl) (fun v hv=>d1 v (List.mem_of_mem_drop hv));have hds:(ds.toList.take n++ds.toList.drop n).toArray=ds:=by rw [List.take_append_drop]
      refine ⟨κ,_,.slice (some ⟨W.heap.size,0,none⟩) n cap,?_,?_,k1,(On.drew (W:=W) (W':=W2) rfl rfl rfl rfl).trans k2⟩
      ·have hneg:¬((n:Int)<0):=by omega
       have hbig:¬((n:Int)>2 ^ 48):=by omega
       have d:Extern.BytealgMakeNoZero.makeNoZero ps rs #[.int .i64 (Int.ofNat n)]=(do
        let some t:=rs[0]? |stuck "bytealg.MakeNoZero: no result type"
        let .slice elem <-underlying t |stuck "bytealg.MakeNoZero: slice type expected"
        if (Int.ofNat n)<0||(Int.ofNat n)>2 ^ 48 then runtimePanic (.error "makeslice: len out of range")
        let cap <-choose (.appendCap (Int.ofNat n).toNat 0 elem)
        askRoom cap
        let bytes <-choose (.extern "internal/bytealg.MakeNoZero.bytes" 0)
        let a <-Go.newRow elem (Extern.BytealgMakeNoZero.digits cap bytes #[])
        pure (.slice (some a) (Int.ofNat n).toNat cap)):=rfl
       have hcut:(Question.appendCap n 0 el).cut (W.tape W.drawn (.appendCap n 0 el))=cap:=rfl;have hcut2:(Question.extern "internal/bytealg.MakeNoZero.bytes" 0).cut (W.tape (W.drawn+1) (.extern "internal/bytealg.MakeNoZero.bytes" 0))=bytes:=rfl;rw [d];simp only [hrs,Sem.run_bind,Sem.run_pure,Result.andThen_ok,run_underlying hu,hneg,hbig,decide_false,Bool.or_self,Bool.false_eq_true,if_false,run_choose,Question.forced,Int.ofNat_eq_natCast,Int.toNat_natCast,run_askRoom,hcut,hcut2,
        Nat.zero_ne_one,Go.newRow,run_newObj,hds]
       rfl
      ·rw [hrl] at k3;have e3:(ds.toList.take n++ds.toList.drop n).length=cap:=by rw [List.take_append_drop];exact d2'
       rw [e3] at k3;have k4:κ H.next (repl n [LV.junk] []).length=some ⟨W.heap.size,0,cap⟩:=by rw [hrl];exact k3
       refine .free ⟨_,k4,Nat.le_refl _,hcap,?_,?_,.inl ⟨by simp,by simp,?_⟩⟩
       ·rw [hrl];simp
       ·simp only [hrl];omega
       ·simp
     ·cases hnr
    ·cases hr
   ·cases hr
  ·cases hr
 ·rename_i t q;split at hr
  ·rename_i es c hm;cases hr;cases hx with |cons h1 hx=>
   cases hx;rw [arr_one hal];cases hg;cases h1 with |iface _ h1=>cases h1 with |@map _ lm hl=>
   obtain ⟨ces,g1,g2,_⟩:=run_getMap (P:=P) h hl hm;obtain ⟨q1,q2⟩:=h.push_plain (o:=.map es c) (b:=.map ces c) rfl (.map c g2);refine ⟨_,_,.iface t (.map (some W.heap.size)),?_,.iface t (.map (l:=⟨W.heap.size,0,0⟩) (Gh.add_self _ _ _ _)),q1,q2⟩;have d:Extern.MapsClone.clone #[.iface t (.map (some lm.blk))]=(do
    let .map entries clock <-getObj lm.blk |stuck "maps.clone: a map expected"
    pure (.iface t (.map (some (<-newObj (.map entries clock)))))):=rfl
   rw [d];simp only [Sem.run_bind,g1,Result.andThen_ok,run_newObj,Sem.run_pure]
  ·cases hr
 ·rename_i x y c;split at hr
  ·rename_i hc;rw [Nat.ble_eq] at hc;cases hr;cases hx with |cons h1 hx=>cases hx with |cons h2 hx=>cases hx with |cons h3 hx=>
   cases hx;cases h1;cases h2;cases h3;have:a=#[.int .u64 x,.int .u64 y,.int .u64 c]:=Array.ext' hal;rw [this];cases hg;refine ⟨ι,W,_,?_,.tuple (.cons (.int _ _) (.cons (.int _ _) .nil)),h,.refl _ _ _ _⟩;have hcc:¬(c.toNat>1):=by omega
   have d:Extern.MathBitsCarry.three "Add64" #[.int .u64 x,.int .u64 y,.int .u64 c]=(do
    let c:=(<-asInt (.int .u64 c)).toNat
    if c>1 then unsupported (.noEntry ("extern/math/bits."++ "Add64"++ ": a carry that is neither 0 nor 1"))
    pure ((<-asInt (.int .u64 x)).toNat,(<-asInt (.int .u64 y)).toNat,c)):=rfl
   simp only [d,asInt,asIntOf,Sem.run_bind,Sem.run_pure,Result.andThen_ok,hcc,if_false];rfl
  ·cases hr
 ·cases hr
end Go.Lm

/- Every operation of this machine is one of the model's. -/
namespace Go.Lm
open Go.RowKit (Below)
structure CfgOK (C:Cfg) (n0:Nat) (Kw:World->Prop):Prop where
 keep:∀W X:World,Kw W->Below n0 W X->Kw X
 name:∀(f:FuncId) (fn:Func),C.P.funcs[f]? =some fn->(fn.name== "runtime.NumGoroutine")=false
 body:∀(f:FuncId) (fn:Func),C.orc f=none->C.ext f=none->C.P.funcs[f]? =some fn->fn.body.isNone=false
 ext:∀(f:FuncId) (e:Ext),C.orc f=none->C.ext f=some e->e≠.sub64->∃(fn:Func) (g:Array Value->Sem Value),C.P.funcs[f]? =some fn/\fn.body.isNone=true/\Extern.findNext fn=none/\Extern.find fn=some g/\ExtSem e g
 orc:∀(f:FuncId) (o:List LV->Option LV),C.orc f=some o->(∃fn:Func,C.P.funcs[f]? =some fn/\fn.body.isNone=false)/\∀(ι:Gh) (H:LHeap) (W:World) (x:List LV) (a:Array Value) (r:LV),HRel ι H W n0->Kw W->VRels ι x a.toList->o x=some r->
  Calls C.P f a W fun e X=>∃v,e=.returned v/\VRel ι r v/\Go.RowKit.Below W.heap.size W X
section
variable {C:Cfg} {n0:Nat} {Kw:World->Prop} {ι:Gh} {H:LHeap} {W:World}
def Enters(C:Cfg)(outs:List (LNext×LHeap)):Prop:=∀y∈outs,∀f x,y.1=.enter f x->(C.P.funcs[f]?).isSome
theorem enterL_rel(hC:CfgOK C n0 Kw)(hKw:Kw W)(h:HRel ι H W n0){f:FuncId}{x:List LV}{a:Array Value}(hx:VRels ι x a.toList){y:LNext×LHeap}(hy:enterL C H f x=some y)(he:Enters C [y]):
  OpSound C.P n0 ι H W [y] ((callFunc f a).run C.P W):=by
 unfold enterL at hy;split at hy
 ·rename_i o ho;obtain ⟨⟨fn,hf,hb⟩,hcall⟩:=hC.orc f o ho;split at hy
  ·rename_i v hv;cases hy;have:=hcall ι H W x a v h hKw hx hv;refine .one h (.refl _ _ _ _) ?_;have hrun:(callFunc f a).run C.P W=.ok (.enter f a) W:=by
    simp only [callFunc,Sem.run_bind,run_program,Result.andThen_ok,hf,hC.name f fn hf,hb,Bool.false_eq_true,if_false,Sem.run_pure]
   rw [hrun];exact .call this
  ·cases hy
 ·rename_i ho;split at hy
  ·rename_i e hext;split at hy
   ·rename_i v H' hv;cases hy;have hne:e≠.sub64:=by
     rintro rfl;simp [extL] at hv
    obtain ⟨fn,g,hf,hb,hn,hfd,hsem⟩:=hC.ext f e ho hext hne;obtain ⟨κ,X,u,q1,q2,q3,q4⟩:=extL_rel h hsem hx hv;refine .one q3 q4 ?_;have hrun:(callFunc f a).run C.P W=.ok (.value u) X:=by
     simp only [callFunc,Sem.run_bind,run_program,Result.andThen_ok,hf,hC.name f fn hf,hb,Bool.false_eq_true,if_false,if_true,run_mark,hn,hfd,q1,Sem.run_pure]
    rw [hrun];exact .value q2
   ·cases hy
  ·rename_i hext;cases hy;obtain ⟨fn,hf⟩:=Option.isSome_iff_exists.1 (he _ (List.mem_singleton.2 rfl) f x rfl);have hb:=hC.body f fn ho hext hf;refine .one h (.refl _ _ _ _) ?_;have hrun:(callFunc f a).run C.P W=.ok (.enter f a) W:=by
    simp only [callFunc,Sem.run_bind,run_program,Result.andThen_ok,hf,hC.name f fn hf,hb,Bool.false_eq_true,if_false,Sem.run_pure]
   rw [hrun];exact .enter hx
theorem zip_set{ι:Gh}:∀{ps:List Tmp} {x:List LV} {a:List Value},VRels ι x a->∀{t:List LV} {u:Array Value},VRels ι t u.toList->
  VRels ι ((ps.zip x).foldl (fun tmps (t,a)=>setNth tmps t a) t) ((ps.zip a).foldl (fun tmps (t,a)=>tmps.setIfInBounds t a) u).toList
 |[],_,_,_,_,_,h=>by simpa using h
 |_::_,_,_,.nil,_,_,h=>by simpa using h
 |p::ps,_,_,.cons hx t,_,_,h=>by
  simp only [List.zip_cons_cons,List.foldl_cons];apply zip_set t;rw [setNth_eq,Array.toList_setIfInBounds];exact h.set _ hx
theorem yieldL_rel(h:HRel ι H W n0){l:Nat}{lo:Loc}(hl:ι l 0=some lo){x:List LV}{a:Array Value}(hx:VRels ι x a.toList){y:LNext×LHeap}(hy:yieldL H l x=some y):
  OpSound C.P n0 ι H W [y] ((Instr.yield lo.blk a).run C.P W):=by
 unfold yieldL at hy;split at hy
 ·rename_i r hg;split at hy
  ·rename_i hn
   replace hn:=Nat.eq_of_beq_eq_true hn
   cases hy;obtain ⟨b,hb,hp⟩:=plain_at h hl hg rfl;cases hp with |@loop _ b hr=>
   refine .one h (.refl _ _ _ _) ?_;have hsz:a.size=b.params.size:=by
    rw [hr.params,<-hn,hx.len,Array.length_toList]
   have hrun:(Instr.yield lo.blk a).run C.P W=.ok (.round lo.blk b.fn ((b.params.zip a).foldl (fun tmps (t,a)=>tmps.setIfInBounds t a) b.tmps) b.assign b.body) W:=by
    simp only [Instr.yield,Instr.getLoop,Sem.run_bind,run_getObj hb (by intros;simp),Result.andThen_ok,Sem.run_pure,hsz,ne_eq,not_true_eq_false,if_false]
   rw [hrun,hr.fn,hr.assign,hr.body];refine .round hl ?_;rw [<-Array.foldl_toList,Array.toList_zip,hr.params];exact zip_set hx hr.tmps
  ·cases hy
 ·cases hy
theorem invokeL_rel(hC:CfgOK C n0 Kw)(hKw:Kw W)(h:HRel ι H W n0){t:LTarget}{u:Target}(ht:TgtRel ι t u){x:List LV}{a:Array Value}(hx:VRels ι x a.toList){y:LNext×LHeap}(hy:invokeL C H t x=some y)(he:Enters C [y]):
  OpSound C.P n0 ι H W [y] ((Go.invoke u a).run C.P W):=by
 unfold invokeL at hy;split at hy
 ·cases ht with |fn hf hc=>
  cases hf;exact enterL_rel hC hKw h (by rw [Array.toList_append];exact hx.append hc) hy he
 ·cases ht with |fn hf hc=>
  cases hf with |yield hl=>
  exact yieldL_rel h hl hx hy
 ·cases hy
theorem resolveL_rel{ρ:Operand->LV}{σ:Operand->Value}(hρ:∀x,VRel ι (ρ x) (σ x)){c:Call}{d:LDef}(hd:resolveL ρ c=some d)(ty:TypeId):
  ∃e,(Go.resolve σ c ty).run C.P W=.ok e W/\DefRel ι d e:=by
 unfold resolveL at hd;split at hd
 ·rename_i f hcal;split at hd
  ·rename_i fn first captured hf
   cases hd;have:=hρ f;rw [hf] at this;cases hs:σ f with
   |func g y z=>
    rw [hs] at this;cases this with |func h1 h2 h3=>
    refine ⟨⟨.fn g z,y++c.args.map σ⟩,?_,⟨.fn h1 h3,?_⟩⟩
    ·simp [Go.resolve,hcal,hs,Deferred.ofValue]
    ·simp only [Array.toList_append,Array.toList_map];exact h2.append (VRels.map fun b _=>hρ b)
   |_=>rw [hs] at this;cases this
  ·cases hd
 ·cases hd
theorem parts_rel{ρ:Operand->LV}{σ:Operand->Value}(hρ:∀x,VRel ι (ρ x) (σ x)):∀l:List (Nat×Operand),PartsRel ι (l.map fun (i,x)=>(i,ρ x)) (l.map fun (i,x)=>(i,σ x))
 |[]=>.nil
 |(i,x)::l=>.cons (hρ x) (parts_rel hρ l)
theorem opt_rel{ρ:Operand->LV}{σ:Operand->Value}(hρ:∀x,VRel ι (ρ x) (σ x))(o:Option Operand):BRel ι (optL ρ o) (o.map σ):=by
 cases o with
 |none=>exact .none
 |some x=>exact .some (hρ x)
theorem opL_rel(hC:CfgOK C n0 Kw)(hKw:Kw W)(h:HRel ι H W n0){ρ:Operand->LV}{σ:Operand->Value}(hρ:∀x,VRel ι (ρ x) (σ x)){o:Oper}{outs:List (LNext×LHeap)}(ho:opL C ρ H o=some outs)(he:Enters C outs):
  OpSound C.P n0 ι H W outs ((execOp σ o).run C.P W):=by
 have val:∀{m:Sem Value} {κ:Gh} {X:World} {u:Value} {z:LV} {H':LHeap},m.run C.P W=.ok u X->VRel κ z u->HRel κ H' X n0->On ι H W κ H' X n0->
   OpSound C.P n0 ι H W [(.value z,H')] ((do pure (.value (<-m)):Sem Next).run C.P W):=by
  intro m κ X u z H' hm hz h1 h2;refine .one h1 h2 ?_;simp only [Sem.run_bind,hm,Result.andThen_ok,Sem.run_pure];exact .value hz
 have unit:∀{m:Sem Unit} {κ:Gh} {X:World} {H':LHeap},m.run C.P W=.ok () X->HRel κ H' X n0->On ι H W κ H' X n0->
   OpSound C.P n0 ι H W [(.value .undef,H')] ((do m;pure .skip:Sem Next).run C.P W):=by
  intro m κ X H' hm h1 h2;refine .one h1 h2 ?_;simp only [Sem.run_bind,hm,Result.andThen_ok,Sem.run_pure];exact .skip
 have here:∀{z:LV} {u:Value},VRel ι z u->OpSound C.P n0 ι H W [(.value z,H)] ((pure (.value u):Sem Next).run C.P W):=fun hz=>.value h hz;obtain ⟨dst,op,ty,pos,after,guard⟩:=o;cases op<;>simp only [opL] at ho<;>simp only [execOp]
 case move x=>cases ho;exact here (hρ x)
 case assign x=>cases ho;exact here (hρ x)
 case pick c a b=>
  have hc:=hρ c;split at ho
  ·rename_i e;cases ho;rw [e] at hc;cases hs:σ c<;>rw [hs] at hc<;>cases hc;exact val (m:=pure (σ a)) rfl (hρ a) h (.refl _ _ _ _)
  ·rename_i e;cases ho;rw [e] at hc;cases hs:σ c<;>rw [hs] at hc<;>cases hc;exact val (m:=pure (σ b)) rfl (hρ b) h (.refl _ _ _ _)
  ·cases ho
 case alloc t=>
  split at ho
  ·rename_i z hz;split at ho
   ·rename_i a H' hn;cases ho;obtain ⟨κ,X,q1,q2,q3,q4⟩:=allocL_rel h hz hn (.tuple #[]);exact val q1 (.ptr q4) q2 q3
   ·cases ho
  ·cases ho
 case box t x=>
  split at ho
  ·rename_i a H' hn;cases ho;obtain ⟨κ,X,q1,q2,q3,q4⟩:=boxL_rel (P:=C.P) h (hρ x) hn;exact val q1 (.ptr q4) q2 q3
  ·cases ho
 case build t parts=>
  split at ho
  ·rename_i z hz;cases ho;obtain ⟨v,q1,q2⟩:=buildL_rel (cp:=parts.map fun (i,x)=>(i,σ x)) (by rw [Array.toList_map];exact parts_rel hρ _) hz W;exact val q2 q1 h (.refl _ _ _ _)
  ·cases ho
 case buildSlice t n parts=>
  split at ho
  ·rename_i z H' hz;cases ho;obtain ⟨κ,X,q1,q2,q3,q4⟩:=buildSliceL_rel (cp:=parts.map fun (i,x)=>(i,σ x)) h (by rw [Array.toList_map];exact parts_rel hρ _) hz;exact val q1 q2 q3 q4
  ·cases ho
 case load t a=>
  have ha:=hρ a;split at ho
  ·rename_i a' e;rw [e] at ha;split at ho
   ·rename_i z hz;cases ho;cases hs:σ a with
    |pointer b=>
     rw [hs] at ha;cases ha with |ptr hp=>
     obtain ⟨v,q1,q2⟩:=loadT_rel h hp hz;refine val (m:=Instr.loadAt t (.pointer (some _))) ?_ q1 h (.refl _ _ _ _);simpa [Instr.loadAt,Instr.sureAddr] using q2
    |_=>rw [hs] at ha;cases ha
   ·cases ho
  ·cases ho
 case store t a x=>
  have ha:=hρ a;split at ho
  ·rename_i a' e;rw [e] at ha;split at ho
   ·rename_i H' hz;cases ho;cases hs:σ a with
    |pointer b=>
     rw [hs] at ha;cases ha with |ptr hp=>
     obtain ⟨X,q1,q2,q3⟩:=storeT_rel h hp (hρ x) hz;refine unit (m:=Instr.storeAt t (.pointer (some _)) (σ x)) ?_ q2 q3;simpa [Instr.storeAt,Instr.sureAddr] using q1
    |_=>rw [hs] at ha;cases ha
   ·cases ho
  ·cases ho
 case nilCheck x=>
  have hx:=hρ x;split at ho
  ·rename_i a e;cases ho;rw [e] at hx;cases hs:σ x<;>rw [hs] at hx<;>cases hx;rename_i hp;exact val (m:=pure (.pointer (some _))) rfl (.ptr hp) h (.refl _ _ _ _)
  ·rename_i f a c e;cases ho;rw [e] at hx;cases hs:σ x<;>rw [hs] at hx<;>cases hx;rename_i h1 h2 h3;cases h1;exact val (m:=pure (.func (.func f) _ _)) rfl (.func (.func f) h2 h3) h (.refl _ _ _ _)
  ·rename_i f a c e;cases ho;rw [e] at hx;cases hs:σ x<;>rw [hs] at hx<;>cases hx;rename_i h1 h2 h3;cases h1 with |yield hl=>
   exact val (m:=pure (.func (.yield _) _ _)) rfl (.func (.yield hl) h2 h3) h (.refl _ _ _ _)
  ·rename_i t y e;cases ho;rw [e] at hx;cases hs:σ x<;>rw [hs] at hx<;>cases hx;rename_i h1;exact val (m:=pure (.iface t _)) rfl (.iface t h1) h (.refl _ _ _ _)
  ·cases ho
 case binOp op t x y yt=>
  split at ho
  ·rename_i z hz;cases ho;obtain ⟨u,q1,q2,q3⟩:=binL_rel h (hρ x) (hρ y) hz;refine val (m:=do eqGuard op t x y (σ x) (σ y);binOp op t (σ x) (σ y)) ?_ q1 h (.refl _ _ _ _);simp only [Sem.run_bind,q2,Result.andThen_ok,q3]
  ·cases ho
 case unOp op t x=>
  split at ho
  ·rename_i z hz;cases ho;obtain ⟨u,q1,q2⟩:=unL_rel (P:=C.P) (hρ x) hz W;exact val q2 q1 h (.refl _ _ _ _)
  ·cases ho
 case convert src d x=>
  split at ho
  ·rename_i z H' hz;cases ho;obtain ⟨κ,X,u,q1,q2,q3,q4⟩:=convertL_rel h (hρ x) hz;exact val q1 q2 q3 q4
  ·cases ho
 case makeInterface t x=>
  split at ho
  ·cases ho
  ·rename_i d hn hd;cases ho;refine val (m:=Instr.makeInterface t (σ x)) (u:=.iface t (σ x)) ?_ (.iface t (hρ x)) h (.refl _ _ _ _);cases d<;>simp_all [Instr.makeInterface,run_underlying hd]
  ·cases ho
 case makeFunc fn a c=>
  split at ho
  ·rename_i f;cases ho;exact val (m:=Instr.makeFunc (.func f) (a.map σ) (c.map σ)) rfl (.func (.func f) (by rw [Array.toList_map];exact VRels.map fun b _=>hρ b) (by rw [Array.toList_map];exact VRels.map fun b _=>hρ b)) h (.refl _ _ _ _)
  ·cases ho
 case makeMap t r=>
  split at ho
  ·cases ho;obtain ⟨q1,q2⟩:=h.push_plain (o:=.map [] 0) (b:=.map #[] 0) rfl (.map 0 .nil);exact val (m:=Instr.makeMap t none) rfl (.map (l:=⟨W.heap.size,0,0⟩) (Gh.add_self _ _ _ _)) q1 q2
  ·rename_i x;split at ho
   ·rename_i k v j n hu e;cases ho;have hx:=hρ x;rw [e] at hx;obtain ⟨q1,q2⟩:=h.push_plain (o:=.map [] 0) (b:=.map #[] 0) rfl (.map 0 .nil);refine val (m:=Instr.makeMap t (some (σ x))) (u:=.map (some W.heap.size)) ?_ (.map (l:=⟨W.heap.size,0,0⟩) (Gh.add_self _ _ _ _)) q1 q2;cases hs:σ x<;>rw [hs] at hx<;>cases hx;simp [Instr.makeMap,run_underlying hu,asInt,asIntOf]
   ·cases ho
 case makeSlice t l c=>
  have hl:=hρ l;have hc:=hρ c;split at ho
  ·rename_i e j l' k c' hel el ec;split at ho
   ·rename_i n by_ z hn hb hz;split at ho
    ·rename_i hk;simp only [Bool.and_eq_true,Nat.ble_eq] at hk;split at ho
     ·rename_i a H' hr;split at ho
      ·rename_i hzl;cases ho;rw [el] at hl;rw [ec] at hc;cases hs:σ l<;>rw [hs] at hl<;>cases hl;cases hs:σ c<;>rw [hs] at hc<;>cases hc;obtain ⟨κ,X,u,q1,q2,q3,q4⟩:=makeSliceL_rel h hel hn hb hz hk.1 hk.2 hr (Nat.eq_of_beq_eq_true hzl) (j:=j) (k:=k);exact val q1 q2 q3 q4
      ·cases ho
     ·cases ho
    ·cases ho
   ·cases ho
  ·cases ho
 case slice t x lo hi mx=>
  split at ho
  ·rename_i z hz;cases ho;obtain ⟨u,q1,q2⟩:=sliceL_rel (hρ x) (opt_rel hρ lo) (opt_rel hρ hi) (opt_rel hρ mx) hz W;exact val q2 q1 h (.refl _ _ _ _)
  ·cases ho
 case fieldAddr t x i=>
  split at ho
  ·rename_i z hz;cases ho;obtain ⟨u,q1,q2⟩:=fieldAddrL_rel (hρ x) hz W;exact val q2 q1 h (.refl _ _ _ _)
  ·cases ho
 case field t x i=>
  split at ho
  ·rename_i z hz;cases ho;obtain ⟨u,q1,q2⟩:=fieldL_rel (hρ x) hz W;exact val q2 q1 h (.refl _ _ _ _)
  ·cases ho
 case indexAddr t x i=>
  split at ho
  ·rename_i z hz;cases ho;obtain ⟨u,q1,q2⟩:=indexAddrL_rel (hρ x) (hρ i) hz W;exact val q2 q1 h (.refl _ _ _ _)
  ·cases ho
 case index t x i=>
  split at ho
  ·rename_i z hz;cases ho;obtain ⟨u,q1,q2⟩:=indexL_rel (hρ x) (hρ i) hz W;exact val q2 q1 h (.refl _ _ _ _)
  ·cases ho
 case lookup t x k ok=>
  split at ho
  ·rename_i z hz;cases ho;obtain ⟨u,q1,q2⟩:=lookupL_rel h (hρ x) (hρ k) hz;exact val q2 q1 h (.refl _ _ _ _)
  ·cases ho
 case mapUpdate t m k x=>
  split at ho
  ·rename_i H' hz;cases ho;obtain ⟨X,q1,q2,q3⟩:=mapUpdateL_rel h (hρ m) (hρ k) (hρ x) hz;exact unit q1 q2 q3
  ·cases ho
 case insert t m k x=>
  split at ho
  ·rename_i H' hz;cases ho;obtain ⟨X,q1,q2,q3⟩:=mapUpdateL_rel h (hρ m) (hρ k) (hρ x) hz;exact unit q1 q2 q3
  ·cases ho
 case mapEntry t m k=>
  split at ho
  ·rename_i z H' hz;cases ho;obtain ⟨X,v,q1,q2,q3,q4⟩:=mapEntryL_rel h (hρ m) (hρ k) hz;exact val q1 q2 q3 q4
  ·cases ho
 case entryStore t m st x=>
  split at ho
  ·rename_i H' hz;cases ho;obtain ⟨X,q1,q2,q3⟩:=entryStoreL_rel (P:=C.P) h (hρ m) (hρ st) (hρ x) t hz;exact unit q1 q2 q3
  ·cases ho
 case range t x=>
  split at ho
  ·rename_i z H' hz;cases ho;obtain ⟨κ,X,u,q1,q2,q3,q4⟩:=rangeL_rel h (hρ x) hz;exact val q1 q2 q3 q4
  ·cases ho
 case next it b=>
  split at ho
  ·rename_i l hl;cases ho;obtain ⟨y,hy,X,u,q1,q2,q3,q4⟩:=nextL_rel (P:=C.P) h (hρ it) hl ty;refine ⟨(.value y.1,y.2),List.mem_map.2 ⟨y,hy,rfl⟩,ι,X,q3,q4,?_⟩;simp only [Sem.run_bind,q1,Result.andThen_ok,Sem.run_pure];exact .value q2
  ·cases ho
 case entry it=>
  split at ho
  ·rename_i z hz;cases ho;obtain ⟨u,q1,q2⟩:=entryL_rel (P:=C.P) h (hρ it) hz;exact val q1 q2 h (.refl _ _ _ _)
  ·cases ho
 case typeAssert x xt a ok=>
  split at ho
  ·rename_i z hz;cases ho;obtain ⟨u,q1,q2⟩:=typeAssertL_rel (hρ x) (xt:=xt) hz W;exact val q2 q1 h (.refl _ _ _ _)
  ·cases ho
 case extract x i=>
  have hx:=hρ x;split at ho
  ·rename_i vs e;rw [e] at hx;split at ho
   ·rename_i z hz;cases ho;cases hs:σ x with
    |tuple us=>
     rw [hs] at hx;cases hx with |tuple hv=>
     rw [nth_eq] at hz;obtain ⟨u,q1,q2⟩:=hv.get hz;refine val (m:=Instr.extract (.tuple us) i) ?_ q2 h (.refl _ _ _ _);rw [Array.getElem?_toList] at q1;simp [Instr.extract,q1]
    |_=>rw [hs] at hx;cases hx
   ·cases ho
  ·cases ho
 case call c=>
  split at ho
  ·rename_i b hcal;split at ho
   ·rename_i y hy;cases ho;obtain ⟨z,H'⟩:=y;obtain ⟨κ,X,r,rfl,q2,q3,q4⟩:=builtinL_rel (a:=c.args.map σ) h (by rw [Array.toList_map];exact VRels.map fun b _=>hρ b) ty (c.args.map fun | .const _=>true |_=>false) hy;refine .one q2 q3 ?_;simp only [Sem.run_bind,Go.resolve,hcal,Sem.run_pure,Result.andThen_ok,Go.invoke];exact q4
   ·cases ho
  ·split at ho
   ·rename_i d hd;split at ho
    ·rename_i y hy;cases ho;obtain ⟨e,q1,q2⟩:=resolveL_rel (C:=C) (W:=W) hρ hd ty;simp only [Sem.run_bind,q1,Result.andThen_ok];exact invokeL_rel hC hKw h q2.target q2.args hy he
    ·cases ho
   ·cases ho
 case defer c=>
  split at ho
  ·rename_i d hd;cases ho;obtain ⟨e,q1,q2⟩:=resolveL_rel (C:=C) (W:=W) hρ hd ty;refine .one h (.refl _ _ _ _) ?_;simp only [Sem.run_bind,q1,Result.andThen_ok,Sem.run_pure];exact .defer q2
  ·cases ho
 case panic x=>
  have hx:=hρ x;split at ho
  ·rename_i t y e;cases ho;rw [e] at hx;cases hs:σ x with
   |iface t' v=>
    rw [hs] at hx;refine .one h (.refl _ _ _ _) ?_;simp only [Instr.panic,Sem.run_bind];exact .panic hx
   |_=>rw [hs] at hx;cases hx
  ·cases ho
 all_goals cases ho
end
end Go.Lm
