/- Its operations against the model, first part; no condition. -/
import Derived.Test.YtjihhflffkoffaaGreatDoorLa
import Derived.KernelRfl
import Derived.Laws.StructEq
import Derived.Lib.Strings
import Derived.Laws.Strings
import Derived.Great.BuildSlice
set_option linter.unusedSimpArgs false
set_option linter.unusedVariables false
set_option linter.unusedSectionVars false
set_option linter.unnecessarySimpa false
/- Operations that make values alone: both machines come to the same. -/
namespace Go.Lm
open Go.RowKit (Below)
variable {P:Program}
theorem run_underlying{t:TypeId}{d:TypeDesc}(h:P.underlying t=some d)(W:World):(underlying t).run P W=.ok d W:=by simp [underlying,h]
theorem run_typeInfo{t:TypeId}{i:TypeInfo}(h:P.info? t=some i)(W:World):(typeInfo t).run P W=.ok i W:=by simp [typeInfo,h]
theorem run_sizeOf{t:TypeId}{n:Nat}(h:sizeOfT P t=some n)(W:World):(sizeOf t).run P W=.ok n W:=by
 simp only [sizeOfT,Option.map_eq_some_iff] at h;obtain ⟨i,hi,rfl⟩:=h;simp [sizeOf,run_typeInfo hi]
theorem cellsOf_eq{t:TypeId}{n:Nat}(h:sizeOfT P t=some n):P.cellsOf t=n:=by
 simp only [sizeOfT,Option.map_eq_some_iff] at h;obtain ⟨i,hi,rfl⟩:=h;simp [Program.cellsOf,hi]
theorem run_isAgg{t:TypeId}{b:Bool}(h:isAggT P t=some b)(W:World):(isAgg t).run P W=.ok b W:=by
 unfold isAggT at h;split at h
 ·rename_i f hu;cases h;simp [isAgg,run_underlying hu]
 ·rename_i n e hu;cases h;simp [isAgg,run_underlying hu]
 ·rename_i d h1 h2 hu;cases h;simp only [isAgg,Sem.run_bind,run_underlying hu,Result.andThen_ok];cases d<;>simp_all
 ·cases h
theorem run_zeroValue{t:TypeId}{z:LV}(h:zeroOf P t=some z)(ι:Gh):∃v,VRel ι z v/\∀W,(zeroValue t).run P W=.ok v W:=by
 unfold zeroOf at h;split at h
 ·rename_i i hi;split at h
  ·rename_i v hz;exact ⟨v,toLV_rel ι _ _ _ h,fun W=>by simp [zeroValue,run_typeInfo hi,hz]⟩
  ·cases h
 ·cases h
inductive OutRel (P:Program) (ι:Gh) (W:World):LNext->Result Next->Prop
 |value {x:LV} {v:Value} (h:VRel ι x v):OutRel P ι W (.value x) (.ok (.value v) W)
 |skip:OutRel P ι W (.value .undef) (.ok .skip W)
 |enter {f:FuncId} {x:List LV} {a:Array Value} (h:VRels ι x a.toList):OutRel P ι W (.enter f x) (.ok (.enter f a) W)
 |call {x:LV} {f:FuncId} {a:Array Value} (h:Calls P f a W fun e X=>∃v,e=.returned v/\VRel ι x v/\Go.RowKit.Below W.heap.size W X):
  OutRel P ι W (.value x) (.ok (.enter f a) W)
 |defer {d:LDef} {e:Deferred} (h:DefRel ι d e):OutRel P ι W (.defer d) (.ok (.defer e) W)
 |recover:OutRel P ι W .recover (.ok .recover W)
 |panic {x:LV} {v:Value} (h:VRel ι x v):OutRel P ι W (.panic x) (.halt (.panic v) W)
 |round {i:Nat} {l:Loc} {f:FuncId} {x:List LV} {a:Array Value} {b c:Code} (h:ι i 0=some l) (hx:VRels ι x a.toList):OutRel P ι W (.round i f x b c) (.ok (.round l.blk f a b c) W)
def OpSound(P:Program)(n0:Nat)(ι:Gh)(H:LHeap)(W:World)(outs:List (LNext×LHeap))(r:Result Next):Prop:=
 ∃y∈outs,∃κ X,HRel κ y.2 X n0/\On ι H W κ y.2 X n0/\OutRel P κ X y.1 r
section
variable {n0:Nat} {ι:Gh} {H:LHeap} {W:World}
theorem OpSound.value(h:HRel ι H W n0){x:LV}{v:Value}(e:VRel ι x v):OpSound P n0 ι H W [(.value x,H)] (.ok (.value v) W):=
 ⟨(.value x,H),List.mem_singleton.2 rfl,ι,W,h,.refl _ _ _ _,.value e⟩
theorem OpSound.one{y:LNext×LHeap}{κ:Gh}{X:World}{r:Result Next}(h:HRel κ y.2 X n0)(g:On ι H W κ y.2 X n0)(o:OutRel P κ X y.1 r):OpSound P n0 ι H W [y] r:=
 ⟨y,List.mem_singleton.2 rfl,κ,X,h,g,o⟩
end
theorem pow64:(2:Int) ^ 64=18446744073709551616:=by kernel_rfl
theorem pow63:(2:Int) ^ (64-1)=9223372036854775808:=by kernel_rfl
theorem pow8:(2:Int) ^ 8=256:=by kernel_rfl
theorem pow32:(2:Int) ^ 32=4294967296:=by kernel_rfl
theorem pow31:(2:Int) ^ (32-1)=2147483648:=by kernel_rfl
theorem wrap_i64{n:Int}(h: -9223372036854775808<=n)(h':n<=9223372036854775807):IntKind.i64.wrap n=n:=by
 simp only [IntKind.wrap,IntKind.bits,IntKind.signed,pow64,pow63,Bool.true_and];split<;>rename_i hc<;>simp only [decide_eq_true_eq] at hc<;>omega
theorem wrap_i32{n:Int}(h: -2147483648<=n)(h':n<=2147483647):IntKind.i32.wrap n=n:=by
 simp only [IntKind.wrap,IntKind.bits,IntKind.signed,pow32,pow31,Bool.true_and];split<;>rename_i hc<;>simp only [decide_eq_true_eq] at hc<;>omega
theorem wrap_u8{n:Int}(h:0<=n)(h':n<=255):IntKind.u8.wrap n=n:=by
 simp only [IntKind.wrap,IntKind.bits,IntKind.signed,pow8,Bool.false_and,Bool.false_eq_true,if_false];omega
theorem wrap_u64{n:Int}(h:0<=n)(h':n<=18446744073709551615):IntKind.u64.wrap n=n:=by
 simp only [IntKind.wrap,IntKind.bits,IntKind.signed,pow64,Bool.false_and,Bool.false_eq_true,if_false];omega
theorem lwrap_eq(k:IntKind)(n:Int):lwrap k n=k.wrap n:=by
 unfold lwrap;split
 all_goals first
  |(split
    ·rename_i h;rw [Nat.ble_eq] at h
     symm
     first
      |exact wrap_i64 (by simp only [Int.ofNat_eq_natCast,Int.negSucc_eq];omega) (by simp only [Int.ofNat_eq_natCast,Int.negSucc_eq];omega)
      |exact wrap_u8 (by simp only [Int.ofNat_eq_natCast];omega) (by simp only [Int.ofNat_eq_natCast];omega)
      |exact wrap_i32 (by simp only [Int.ofNat_eq_natCast];omega) (by simp only [Int.ofNat_eq_natCast];omega)
      |exact wrap_u64 (by simp only [Int.ofNat_eq_natCast];omega) (by simp only [Int.ofNat_eq_natCast];omega)
    ·rfl)
  |rfl
theorem intBin_rel{op:BinOp}{k:IntKind}{x y:Int}{r:LV}(h:intBin op k x y=some r)(hs:op≠.shl/\op≠.shr)(t:TypeId)(ι:Gh)(W:World):
  ∃v,VRel ι r v/\(binOp op t (.int k x) (.int k y)).run P W=.ok v W:=by
 cases op<;>simp only [intBin,lwrap_eq] at h
 case shl=>exact absurd rfl hs.1
 case shr=>exact absurd rfl hs.2
 case quo |rem=>
  split at h<;>cases h;rename_i hy;have hy':y≠0:=by simpa using hy
  refine ⟨_,.int _ _,?_⟩;simp [binOp,Op.intDiv,hy']
 case and |or |xor |andNot=>
  cases h;refine ⟨_,.int _ _,?_⟩;unfold binOp;simp only [ne_eq,not_true_eq_false,if_false];rfl
 case add |sub |mul=>
  cases h;refine ⟨_,.int _ _,?_⟩;simp [binOp,Op.intArith]
 all_goals
  cases h;refine ⟨_,.bool _,?_⟩;simp [binOp,Op.intCmp]
theorem shiftBin_rel{op:BinOp}{k j:IntKind}{x y:Int}{r:LV}(h:shiftBin op k x y=some r)(t:TypeId)(ι:Gh)(W:World):
  ∃v,VRel ι r v/\(binOp op t (.int k x) (.int j y)).run P W=.ok v W:=by
 unfold shiftBin at h;split at h
 ·cases h
 ·rename_i hy;cases op<;>simp only [lwrap_eq] at h<;>cases h
  ·exact ⟨_,.int _ _,by simp [binOp,Op.shift,hy]⟩
  ·exact ⟨_,.int _ _,by simp [binOp,Op.shift,hy]⟩
theorem bytes_toList(s:ByteArray):s.toList=s.data.toList:=by
 have key:∀(n i:Nat) (r:List UInt8),s.size-i=n->ByteArray.toList.loop s i r=r.reverse++s.data.toList.drop i:=by
  intro n;induction n with
  |zero=>
   intro i r h;unfold ByteArray.toList.loop;rw [if_neg (by omega),List.drop_eq_nil_of_le (by simpa using (show s.size<=i by omega))];simp
  |succ n ih=>
   intro i r h;unfold ByteArray.toList.loop;rw [if_pos (by omega),ih _ _ (by omega)];have hi:i<s.data.toList.length:=by simp;omega
   rw [List.drop_eq_getElem_cons hi];have:s.get! i=s.data.toList[i]:=by
    unfold ByteArray.get!;have h2:i<s.data.size:=by simpa using hi
    show s.data[i]! =_;rw [getElem!_pos s.data i h2];simp
   simp [this]
 have:=key s.size 0 [] (by omega);simpa [ByteArray.toList] using this
theorem strBin_rel{op:BinOp}{a b:ByteArray}{r:LV}(h:strBin op a.data.toList b.data.toList=some r)(t:TypeId)(ι:Gh)(W:World):
  ∃v,VRel ι r v/\(binOp op t (.string a) (.string b)).run P W=.ok v W:=by
 cases op<;>simp only [strBin] at h<;>first
  |(cases h;done)
  |(cases h;exact ⟨_,.bool _,by simp [binOp,Op.stringOp,bytes_toList]⟩)
  |(split at h<;>cases h
    rename_i hc;rw [Nat.ble_eq] at hc;refine ⟨_,.str (a++b) (by simp),?_⟩;have hm:¬(((a.size+b.size:Nat):Int)>IntKind.i64.max):=by
     have:IntKind.i64.max=9223372036854775807:=by decide
     rw [this];simp at hc;have h1:a.size=a.data.size:=rfl;have h2:b.size=b.data.size:=rfl;omega
    simp only [binOp,Op.stringOp];rw [if_neg hm];rfl)
end Go.Lm

/- Operations that make values alone, more: parts, ==, slices, indexes, fields, assertions. -/
namespace Go.Lm
open Go.RowKit (Below)
variable {P:Program}
theorem part_rel{ι:Gh}{t:TypeId}{cs:List LV}{off:Nat}{x:LV}(h:partT P t cs off=some x){a:Array Value}(ha:VRels ι cs a.toList):
  ∃v,VRel ι x v/\∀W,(part t a off).run P W=.ok v W:=by
 unfold partT at h;split at h
 ·rename_i hagg;split at h
  ·rename_i n hn;simp only [Option.map_eq_some_iff] at h;obtain ⟨r,hr,rfl⟩:=h;obtain ⟨h1,rfl⟩:=takeN_some _ _ _ hr;rw [dropN_eq];refine ⟨.agg (a.extract off (off+n)),.agg ?_,fun W=> ?_⟩
   ·have:(a.extract off (off+n)).toList=(a.toList.drop off).take n:=by
     rw [Array.toList_extract,List.extract_eq_take_drop];congr 1;omega
    rw [this];exact (ha.drop off).take n
   ·simp only [part,Sem.run_bind,run_isAgg hagg,Result.andThen_ok,if_true,run_sizeOf hn,Sem.run_pure]
  ·cases h
 ·rename_i hagg;rw [nth_eq] at h;obtain ⟨v,hv,hr⟩:=ha.get h;refine ⟨v,hr,fun W=> ?_⟩;have hv':a[off]? =some v:=by rw [<-Array.getElem?_toList];exact hv
  simp only [part,Sem.run_bind,run_isAgg hagg,Result.andThen_ok,Bool.false_eq_true,if_false,hv',Sem.run_pure]
 ·cases h
set_option maxHeartbeats 1000000 in
theorem eqL_rel{ι:Gh}{H:LHeap}{W:World}{n0:Nat}(h:HRel ι H W n0):∀(n:Nat) (t:TypeId) (x y:LV) (b:Bool),eqL P n t x y=some b->
  ∀(v w:Value),VRel ι x v->VRel ι y w->∀d,n<=d->(Op.equalIn d t v w).run P W=.ok b W
 |0,_,_,_,_,he,_,_,_,_,_,_=>by simp [eqL] at he
 |n+1,t,x,y,b,he,v,w,hv,hw,d,hd=>by
  obtain ⟨d,rfl⟩:∃e,d=e+1:=⟨d-1,by omega⟩;simp only [eqL] at he;split at he
  ·cases he
  ·rename_i ds hu;split at he
   ·cases hv;cases hw;cases he;simp [Op.equalIn,run_underlying hu]
   ·rename_i k' k a j c;cases hv;cases hw;split at he<;>cases he;rename_i hk;have:k=j:=by simpa using hk
    subst this;simp [Op.equalIn,run_underlying hu]
   ·rename_i a c;cases hv with |str s hs=>cases hw with |str r hr=>
    cases he;simp only [Op.equalIn,Sem.run_bind,run_underlying hu,Result.andThen_ok,Sem.run_pure];rw [beq_toListBytes,bytes_toList,bytes_toList,hs,hr]
   ·rename_i e bb;cases hv;cases he;cases bb with
    |none=>cases hw;simp only [Op.equalIn,Sem.run_bind,run_underlying hu,Result.andThen_ok];rfl
    |some bb=>cases hw;simp only [Op.equalIn,Sem.run_bind,run_underlying hu,Result.andThen_ok];rfl
   ·cases hv;cases hw;cases he;simp only [Op.equalIn,Sem.run_bind,run_underlying hu,Result.andThen_ok];rfl
   ·rename_i e a c;cases hv with |ptr ha=>cases hw with |ptr hc=>
    split at he
    ·rename_i m hm;split at he
     ·rename_i hc2;cases he;simp only [Bool.and_eq_true] at hc2;have h1:=Nat.eq_of_beq_eq_true hc2.1;have h2:=Nat.eq_of_beq_eq_true hc2.2;obtain ⟨l,hl,h0,rfl⟩:=ha;obtain ⟨l',hl',h0',rfl⟩:=hc;rw [h1,h2,hl'] at hl;cases hl;have hiff:((a.off:Int)+l.sh).toNat=((c.off:Int)+l.sh).toNat↔a.off=c.off:=by omega
      have hne:¬(m+1=0):=by omega
      simp only [Op.equalIn,Sem.run_bind,run_underlying hu,Result.andThen_ok,run_sizeOf hm,Sem.run_ite,ne_eq,hne,not_false_eq_true,if_true,sameAddr,beq_self_eq_true,Sem.run_pure];congr 1;rw [Bool.eq_iff_iff,beq_iff_eq,Nat.beq_eq];simp [hiff]
     ·cases he
    ·cases he
   ·cases hv;cases hw;cases he;simp only [Op.equalIn,Sem.run_bind,run_underlying hu,Result.andThen_ok];rfl
   ·cases hv;cases hw;cases he;simp only [Op.equalIn,Sem.run_bind,run_underlying hu,Result.andThen_ok];rfl
   ·cases hv;cases hw;cases he;simp only [Op.equalIn,Sem.run_bind,run_underlying hu,Result.andThen_ok];rfl
   ·rename_i ms tx vx ty vy;cases hv with |iface _ hvx=>cases hw with |iface _ hvy=>
    split at he
    ·rename_i ht;have:=Nat.eq_of_beq_eq_true ht;subst this;split at he
     ·rename_i i hi;split at he
      ·rename_i hcmp;have:=eqL_rel h n tx vx vy b he _ _ hvx hvy d (by omega);simp [Op.equalIn,run_underlying hu,run_typeInfo hi,hcmp,this]
      ·cases he
     ·cases he
    ·rename_i ht;cases he;have:tx≠ty:=fun e=>ht (by subst e;simp);simp [Op.equalIn,run_underlying hu,this]
   ·rename_i fs xs ys;cases hv with |@agg _ xa hx=>cases hw with |@agg _ ya hy=>
    split at he
    ·cases he
    ·rename_i hst;have hst':P.stoodInHeld t=false:=by simpa using hst
     have hfo:P.underlying t=some (.struct (P.fieldsOf t)):=by simp [Program.fieldsOf,hu]
     have hfs:P.fieldsOf t=fs:=by simp [Program.fieldsOf,hu]
     rw [run_equalIn_struct W d t _ _ hfo hst',hfs];have key:∀(l:List Field) (b:Bool),eqL.eqFields P n (fun f u v=>eqL P n f u v) l xs ys=some b->(Op.eqFields d xa ya l).run P W=.ok b W:=by
      intro l;induction l with
      |nil=>intro b hb;simp [eqL.eqFields] at hb;subst hb;simp [Op.eqFields]
      |cons fd l ih=>
       intro b hb;simp only [eqL.eqFields] at hb;split at hb
       ·cases hb
       ·rename_i hnm;have hnm':fd.name≠ "_":=by simpa using hnm
        split at hb
        ·rename_i x y hx' hy';obtain ⟨v1,hv1,hr1⟩:=part_rel hx' hx;obtain ⟨v2,hv2,hr2⟩:=part_rel hy' hy;split at hb
         ·rename_i heq;have:=eqL_rel h n fd.type x y true heq _ _ hv1 hv2 d (by omega);simp only [Op.eqFields,hnm',ne_eq,not_false_eq_true,if_true,Sem.run_bind,hr1,hr2,this,Result.andThen_ok,Bool.not_true,Bool.false_eq_true,if_false];exact ih b hb
         ·rename_i heq;cases hb;have:=eqL_rel h n fd.type x y false heq _ _ hv1 hv2 d (by omega);simp only [Op.eqFields,hnm',ne_eq,not_false_eq_true,if_true,Sem.run_bind,hr1,hr2,this,Result.andThen_ok,Bool.not_false,Sem.run_pure]
         ·cases hb
        ·cases hb
     exact key _ _ he
   ·rename_i e l c bb m cc;cases he;cases hv;cases bb with
    |none=>cases hw;simp only [Op.equalIn,Sem.run_bind,run_underlying hu,Result.andThen_ok];rfl
    |some bb=>cases hw<;>(simp only [Op.equalIn,Sem.run_bind,run_underlying hu,Result.andThen_ok];rfl)
   ·cases he;cases hv<;>cases hw<;>(simp only [Op.equalIn,Sem.run_bind,run_underlying hu,Result.andThen_ok];rfl)
   ·rename_i k e bb;cases he;cases hv;cases bb with
    |none=>cases hw;simp only [Op.equalIn,Sem.run_bind,run_underlying hu,Result.andThen_ok];rfl
    |some bb=>cases hw;simp only [Op.equalIn,Sem.run_bind,run_underlying hu,Result.andThen_ok];rfl
   ·cases hv;cases hw;cases he;simp only [Op.equalIn,Sem.run_bind,run_underlying hu,Result.andThen_ok];rfl
   ·cases hv;cases hw;cases he;simp only [Op.equalIn,Sem.run_bind,run_underlying hu,Result.andThen_ok];rfl
   ·cases hv;cases hw;cases he;simp only [Op.equalIn,Sem.run_bind,run_underlying hu,Result.andThen_ok];rfl
   ·cases hv;cases hw;cases he;simp only [Op.equalIn,Sem.run_bind,run_underlying hu,Result.andThen_ok];rfl
   ·cases he
theorem eqGuard_other{op:BinOp}(h:op≠.eql)(h':op≠.neq)(t:TypeId)(x y:Operand)(v w:Value)(W:World):(eqGuard op t x y v w).run P W=.ok () W:=by
 cases op<;>first |rfl |exact absurd rfl h |exact absurd rfl h'
theorem eqGuard_rel{ι:Gh}{op:BinOp}{t:TypeId}{x y:Operand}{a b:LV}{v w:Value}(ha:VRel ι a v)(hb:VRel ι b w)(h:aggOk P t a b (isConstO x) (isConstO y)=true)
  (h1:a≠.junk) (h2:a≠.lost) (h3:b≠.junk) (h4:b≠.lost) (W:World):(eqGuard op t x y v w).run P W=.ok () W:=by
 by_cases ho:op=.eql\/op=.neq
 ·have hcase:(v=.nilIface/\w=.nilIface)\/(∃c d,v=.agg c/\w=.agg d)\/(eqGuard op t x y v w).run P W=.ok () W:=by
   rcases ho with rfl |rfl<;>cases ha<;>first
    |exact absurd rfl h1
    |exact absurd rfl h2
    |(cases hb<;>first
       |exact absurd rfl h3
       |exact absurd rfl h4
       |exact .inl ⟨rfl,rfl⟩
       |exact .inr (.inl ⟨_,_,rfl,rfl⟩)
       |exact .inr (.inr rfl))
  rcases hcase with ⟨rfl,rfl⟩ |⟨c,d,rfl,rfl⟩ |hc
  ·have hab:a=.nilIface/\b=.nilIface:=by
    cases ha<;>first |exact absurd rfl h1 |exact absurd rfl h2 |skip
    cases hb<;>first |exact absurd rfl h3 |exact absurd rfl h4 |exact ⟨rfl,rfl⟩
   obtain ⟨rfl,rfl⟩:=hab;simp only [aggOk,Bool.or_eq_true] at h;rcases ho with rfl |rfl<;>cases x<;>cases y<;>simp_all [isConstO]<;>rfl
  ·have hab:(∃p,a=.agg p)/\(∃q,b=.agg q):=by
    cases ha<;>first |exact absurd rfl h1 |exact absurd rfl h2 |skip
    cases hb<;>first |exact absurd rfl h3 |exact absurd rfl h4 |exact ⟨⟨_,rfl⟩,⟨_,rfl⟩⟩
   obtain ⟨⟨p,rfl⟩,⟨q,rfl⟩⟩:=hab;simp only [aggOk,Bool.not_eq_true'] at h;rcases ho with rfl |rfl<;>simp [eqGuard,h]
  ·exact hc
 ·exact eqGuard_other (fun e=>ho (.inl e)) (fun e=>ho (.inr e)) _ _ _ _ _ _
theorem eqL_not{n:Nat}{t:TypeId}{a b:LV}{e:Bool}(h:eqL P n t a b=some e):a≠.junk/\a≠.lost/\b≠.junk/\b≠.lost:=by
 cases n with
 |zero=>simp [eqL] at h
 |succ n=>
  simp only [eqL] at h;split at h
  ·cases h
  ·refine ⟨?_,?_,?_,?_⟩
   all_goals
    rintro rfl;split at h<;>simp_all
theorem binOp_eql(t:TypeId)(v w:Value)(h:∀k n j m,¬(v=.int k n/\w=.int j m))(h2:∀s r,¬(v=.string s/\w=.string r))(h3:∀k n,v≠.float k n)(h4:∀k n m,v≠.complex k n m):
  binOp .eql t v w=(Op.equal t v w >>= fun e=>pure (.bool e)):=by
 cases v<;>first
  |rfl
  |exact absurd rfl (h3 _ _)
  |exact absurd rfl (h4 _ _ _)
  |(cases w<;>first |rfl |exact absurd ⟨rfl,rfl⟩ (h _ _ _ _) |exact absurd ⟨rfl,rfl⟩ (h2 _ _))
theorem binOp_neq(t:TypeId)(v w:Value)(h:∀k n j m,¬(v=.int k n/\w=.int j m))(h2:∀s r,¬(v=.string s/\w=.string r))(h3:∀k n,v≠.float k n)(h4:∀k n m,v≠.complex k n m):
  binOp .neq t v w=(Op.equal t v w >>= fun e=>pure (.bool (!e))):=by
 cases v<;>first
  |rfl
  |exact absurd rfl (h3 _ _)
  |exact absurd rfl (h4 _ _ _)
  |(cases w<;>first |rfl |exact absurd ⟨rfl,rfl⟩ (h _ _ _ _) |exact absurd ⟨rfl,rfl⟩ (h2 _ _))
theorem binL_rel{ι:Gh}{H:LHeap}{W:World}{n0:Nat}(h:HRel ι H W n0){op:BinOp}{t:TypeId}{x y:Operand}{a b:LV}{v w:Value}(ha:VRel ι a v)(hb:VRel ι b w){r:LV}
  (he:binL P op t a b (isConstO x) (isConstO y)=some r):∃u,VRel ι r u/\(eqGuard op t x y v w).run P W=.ok () W/\(binOp op t v w).run P W=.ok u W:=by
 have triv:∀(v w:Value),(∀c,v≠.agg c)->v≠.nilIface->(eqGuard op t x y v w).run P W=.ok () W:=by
  intro v w h1 h2;by_cases ho:op=.eql\/op=.neq
  ·rcases ho with rfl |rfl<;>cases v<;>first |rfl |exact absurd rfl h2 |exact absurd rfl (h1 _)
  ·exact eqGuard_other (fun e=>ho (.inl e)) (fun e=>ho (.inr e)) _ _ _ _ _ _
 have gen:∀(q:Bool->LV),(if aggOk P t a b (isConstO x) (isConstO y)=true then (eqL P 50 t a b).map q else none)=some r->
   ∃e,q e=r/\(a≠.junk/\a≠.lost/\b≠.junk/\b≠.lost)/\(eqGuard op t x y v w).run P W=.ok () W/\(Op.equal t v w).run P W=.ok e W:=by
  intro q hq;split at hq
  ·rename_i hagg;simp only [Option.map_eq_some_iff] at hq;obtain ⟨e,hE,hqe⟩:=hq;obtain ⟨h1,h2,h3,h4⟩:=eqL_not hE;exact ⟨e,hqe,eqL_not hE,eqGuard_rel ha hb hagg h1 h2 h3 h4 W,eqL_rel h 50 t a b e hE v w ha hb Op.maxDepth (by decide)⟩
  ·cases hq
 have nots:(∀k n j m,¬(a=.int k n/\b=.int j m))->(∀s r,¬(a=.str s/\b=.str r))->(a≠.junk/\a≠.lost/\b≠.junk/\b≠.lost)->
   (∀k n j m,¬(v=.int k n/\w=.int j m))/\(∀s r,¬(v=.string s/\w=.string r))/\(∀k n,v≠.float k n)/\(∀k n m,v≠.complex k n m):=by
  intro h1 h2 ⟨j1,j2,j3,j4⟩;refine ⟨?_,?_,?_,?_⟩
  ·rintro k n j m ⟨rfl,rfl⟩;cases ha<;>first |exact absurd rfl j1 |exact absurd rfl j2 |skip
   cases hb<;>first |exact absurd rfl j3 |exact absurd rfl j4 |skip
   exact h1 _ _ _ _ ⟨rfl,rfl⟩
  ·rintro s r ⟨rfl,rfl⟩;cases ha<;>first |exact absurd rfl j1 |exact absurd rfl j2 |skip
   cases hb<;>first |exact absurd rfl j3 |exact absurd rfl j4 |skip
   exact h2 _ _ ⟨rfl,rfl⟩
  ·rintro k n rfl;cases ha<;>first |exact absurd rfl j1 |exact absurd rfl j2
  ·rintro k n m rfl;cases ha<;>first |exact absurd rfl j1 |exact absurd rfl j2
 unfold binL at he;split at he
 ·rename_i k1 m1 j1 m2;cases ha;cases hb;have hg:=triv (.int k1 m1) (.int j1 m2) (by intro c e;cases e) (by intro e;cases e);split at he
  ·obtain ⟨u,h1,h2⟩:=shiftBin_rel (P:=P) he t ι W;exact ⟨u,h1,hg,h2⟩
  ·obtain ⟨u,h1,h2⟩:=shiftBin_rel (P:=P) he t ι W;exact ⟨u,h1,hg,h2⟩
  ·split at he
   ·rename_i n1 n2 hk;have:=eq_of_beq hk;subst this;obtain ⟨u,h1,h2⟩:=intBin_rel (P:=P) he ⟨n1,n2⟩ t ι W;exact ⟨u,h1,hg,h2⟩
   ·cases he
 ·cases ha with |str s hs=>cases hb with |str r' hr=>
  subst hs;subst hr;obtain ⟨u,h1,h2⟩:=strBin_rel (P:=P) he t ι W;exact ⟨u,h1,triv _ _ (by intro c e;cases e) (by intro e;cases e),h2⟩
 ·rename_i n1 n2;split at he
  ·obtain ⟨e,hq,hj,hg,hr⟩:=gen _ he;obtain ⟨g1,g2,g3,g4⟩:=nots (fun k n j m ⟨e1,e2⟩=>n1 k n j m e1 e2) (fun s r ⟨e1,e2⟩=>n2 s r e1 e2) hj;refine ⟨.bool e,hq▸.bool e,hg,?_⟩;rw [binOp_eql t v w g1 g2 g3 g4];simp only [Sem.run_bind,hr,Result.andThen_ok,Sem.run_pure]
  ·obtain ⟨e,hq,hj,hg,hr⟩:=gen _ he;obtain ⟨g1,g2,g3,g4⟩:=nots (fun k n j m ⟨e1,e2⟩=>n1 k n j m e1 e2) (fun s r ⟨e1,e2⟩=>n2 s r e1 e2) hj;refine ⟨.bool (!e),hq▸.bool (!e),hg,?_⟩;rw [binOp_neq t v w g1 g2 g3 g4];simp only [Sem.run_bind,hr,Result.andThen_ok,Sem.run_pure]
  ·cases he
end Go.Lm

/- Operations that make values alone, the rest: slices, indexes, fields, assertions. -/
namespace Go.Lm
open Go.RowKit (Below)
variable {P:Program}
theorem unL_rel{ι:Gh}{op:UnOp}{x:LV}{v:Value}(hx:VRel ι x v){r:LV}(h:unL op x=some r)(W:World):∃u,VRel ι r u/\(Op.unary op v).run P W=.ok u W:=by
 unfold unL at h;split at h
 ·cases hx;cases h;refine ⟨_,.int _ _,?_⟩;rw [lwrap_eq];simp [Op.unary,Op.intArith]
 ·cases hx;cases h;refine ⟨_,.int _ _,?_⟩;unfold Op.unary;rfl
 ·cases hx;cases h;exact ⟨_,.bool _,by simp [Op.unary]⟩
 ·cases h
theorem PRel.add{ι:Gh}{a:LAddr}{b:Addr}(h:PRel ι a b)(n:Nat):PRel ι { a with off:=a.off+n } (b.add n):=by
 obtain ⟨l,hl,h0,rfl⟩:=h;refine ⟨l,hl,by simp;omega,?_⟩;rw [addr_add];congr 1;simp;omega
theorem bound_rel{ι:Gh}{x:LV}{v:Value}(hx:VRel ι x v){y m:Nat}(h:bound x y=some m):m<=y/\∀(code:BoundsCode) (W:World),(Instr.sliceBound v y code).run P W=.ok m W:=by
 unfold bound at h;split at h
 ·split at h
  ·rename_i k n m';split at h
   ·rename_i hm;rw [Nat.ble_eq] at hm;cases h;cases hx;refine ⟨hm,fun code W=> ?_⟩;have h0:(0:Int)<=Int.ofNat m/\Int.ofNat m<=(y:Int):=by simp only [Int.ofNat_eq_natCast];omega
    simp only [Instr.sliceBound,asIntOf,Sem.run_bind,Sem.run_pure,Result.andThen_ok,h0.1,h0.2,and_self,if_true];rfl
   ·cases h
  ·cases h
 ·cases h
theorem bound_weaken{x:LV}{y z q:Nat}(hb:bound x y=some q)(hyz:y<=z):bound x z=some q:=by
 unfold bound at hb |-;split at hb
 ·split at hb
  ·split at hb
   ·rename_i hq;rw [Nat.ble_eq] at hq;rw [if_pos (by rw [Nat.ble_eq];omega)];exact hb
   ·cases hb
  ·cases hb
 ·cases hb
inductive BRel (ι:Gh):Option LV->Option Value->Prop
 |none:BRel ι none none
 |some {x:LV} {v:Value} (h:VRel ι x v):BRel ι (some x) (some v)
theorem sliceBounds_rel{ι:Gh}{lo hi mx:Option LV}{clo chi cmx:Option Value}(hlo:BRel ι lo clo)(hhi:BRel ι hi chi)(hmx:BRel ι mx cmx){len cap m h l most:Nat}(hmost:most<=cap)(hlen:len<=cap)(isS:Bool)
  (hm:match mx with |none=>m=cap |some x=>bound x most=some m)
  (hh:match hi,mx with |none,none=>h=len |none,some _=>False |some x,none=>bound x most=some h |some x,some _=>bound x m=some h)
  (hl:match lo with |none=>l=0 |some x=>bound x h=some l):
  m<=cap/\h<=m/\l<=h/\∀W,(Instr.sliceBounds isS len cap clo chi cmx).run P W=.ok (l,h,m) W:=by
 have weaken:∀{x:LV} {y z q:Nat},bound x y=some q->y<=z->bound x z=some q:=fun h k=>bound_weaken h k;cases hmx with
 |none=>
  simp only at hm;subst hm;cases hhi with
  |none=>
   simp only at hh;subst hh;cases hlo with
   |none=>simp only at hl;subst hl;exact ⟨Nat.le_refl _,hlen,Nat.zero_le _,fun W=>by simp [Instr.sliceBounds]⟩
   |some e=>
    simp only at hl;obtain ⟨h1,h2⟩:=bound_rel (P:=P) e hl;exact ⟨Nat.le_refl _,hlen,h1,fun W=>by simp [Instr.sliceBounds,h2]⟩
  |some f=>
   simp only at hh;have hh':=weaken hh hmost;obtain ⟨g1,g2⟩:=bound_rel (P:=P) f hh';cases hlo with
   |none=>simp only at hl;subst hl;exact ⟨Nat.le_refl _,g1,Nat.zero_le _,fun W=>by simp [Instr.sliceBounds,g2]⟩
   |some e=>
    simp only at hl;obtain ⟨h1,h2⟩:=bound_rel (P:=P) e hl;exact ⟨Nat.le_refl _,g1,h1,fun W=>by simp [Instr.sliceBounds,h2,g2]⟩
 |some k=>
  simp only at hm;have hm':=weaken hm hmost;obtain ⟨k1,k2⟩:=bound_rel (P:=P) k hm';cases hhi with
  |none=>exact (hh:False).elim
  |some f=>
   simp only at hh;obtain ⟨g1,g2⟩:=bound_rel (P:=P) f hh;cases hlo with
   |none=>simp only at hl;subst hl;exact ⟨k1,g1,Nat.zero_le _,fun W=>by simp [Instr.sliceBounds,g2,k2]⟩
   |some e=>
    simp only at hl;obtain ⟨h1,h2⟩:=bound_rel (P:=P) e hl;exact ⟨k1,g1,h1,fun W=>by simp [Instr.sliceBounds,h2,g2,k2]⟩
theorem boundO_some{x:Option LV}{y d m:Nat}(h:boundO x y d=some m):match x with |none=>m=d |some v=>bound v y=some m:=by
 cases x with
 |none=>exact (Option.some.inj h).symm
 |some v=>exact h
theorem bound_le{x:LV}{y m:Nat}(h:bound x y=some m):m<=y:=by
 unfold bound at h;split at h
 ·split at h
  ·split at h
   ·rename_i hq;rw [Nat.ble_eq] at hq;cases h;exact hq
   ·cases h
  ·cases h
 ·cases h
theorem sliceStr_rel{ι:Gh}{lo hi:Option LV}{clo chi:Option Value}(hlo:BRel ι lo clo)(hhi:BRel ι hi chi){s:ByteArray}{r:LV}(h:sliceStr s.data.toList lo hi=some r):
  ∃l u,VRel ι r (.string (s.extract l u))/\∀W,(Instr.sliceBounds false s.size s.size clo chi none).run P W=.ok (l,u,s.size) W:=by
 unfold sliceStr at h;have hsz:s.data.toList.length=s.size:=by simp
 rw [hsz] at h;split at h
 ·cases h
 ·rename_i u hu;split at h
  ·cases h
  ·rename_i l hl;simp only [Option.map_eq_some_iff] at h;obtain ⟨q,hq,rfl⟩:=h;obtain ⟨_,rfl⟩:=takeN_some _ _ _ hq;obtain ⟨_,h2,h3,h4⟩:=sliceBounds_rel (P:=P) (cap:=s.size) (m:=s.size) (len:=s.size) (most:=s.size) (h:=u) (l:=l) hlo hhi .none (Nat.le_refl _) (Nat.le_refl _) false rfl
    (by have:=boundO_some hu;cases hi<;>simpa using this) (by have:=boundO_some hl;cases lo<;>simpa using this)
   refine ⟨l,u,.str _ ?_,h4⟩;rw [Go.Lib.extract_data,dropN_eq]
theorem sliceExact_rel{ι:Gh}{lo hi mx:Option LV}{clo chi cmx:Option Value}(hlo:BRel ι lo clo)(hhi:BRel ι hi chi)(hmx:BRel ι mx cmx){a:Option LAddr}{b:Option Addr}{len cap size:Nat}(isS:Bool){r:LV}
  (h:sliceExact a len cap size lo hi mx=some r) (hlen:len<=cap) (hab:(a=none/\b=none/\cap=0)\/∃a' b',a=some a'/\b=some b'/\(0<cap->PRel ι a' b')/\∃l,ι a'.id a'.ver=some l):
  ∃l u m,VRel ι r (.slice (if m=l then b else b.map (·.add (l*size))) (u-l) (m-l))/\∀W,(Instr.sliceBounds isS len cap clo chi cmx).run P W=.ok (l,u,m) W:=by
 unfold sliceExact at h;split at h
 ·cases h
 ·rename_i m hm;split at h
  ·cases h
  ·rename_i hnn;split at h
   ·cases h
   ·rename_i u hu;split at h
    ·cases h
    ·rename_i l hl;obtain ⟨h1,h2,h3,h4⟩:=sliceBounds_rel (P:=P) (cap:=cap) (m:=m) (len:=len) (most:=if mx.isSome then cap else m) (h:=u) (l:=l) hlo hhi hmx
      (by have:=boundO_some hm;cases mx with
          |none=>simp at this;simp [this]
          |some x=>simp) hlen isS
      (by have:=boundO_some hm;cases mx<;>simpa using this)
      (by have:=boundO_some hu
          cases hi with
          |none=>cases mx with
           |none=>exact this
           |some _=>exact (hnn rfl).elim
          |some _=>cases mx<;>exact this) (by have:=boundO_some hl;cases lo<;>simpa using this)
     refine ⟨l,u,m,?_,h4⟩;cases h;rcases hab with ⟨rfl,rfl,rfl⟩ |⟨a',b',rfl,rfl,hp,hd⟩
     ·have e1:m=0:=by omega
      have e2:u=0:=by omega
      have e3:l=0:=by omega
      subst e1;subst e2;subst e3;exact .nilslice
     ·by_cases hml:m=l
      ·subst hml;rw [if_pos rfl,if_pos (by simp)];exact .slice (fun h=>by omega) hd (by omega)
      ·rw [if_neg hml,if_neg (by rw [Nat.beq_eq];exact hml)];exact .slice (fun _=>(hp (by omega)).add _) hd (by omega)
theorem mostOf_spec{ι:Gh}{a:LAddr}{b:Addr}{len c sz:Nat}(hf:FreeRel ι a len sz b c):mostOf a len sz<=c/\mostOf a len sz*sz<=a.ver-a.off:=by
 obtain ⟨q,hq,hsz,hlc,hver,htot,hcase⟩:=hf;cases len with
 |zero=>simp [mostOf]
 |succ n=>
  rcases hcase with ⟨h0,_,hct⟩ |⟨h0,_⟩
  ·refine ⟨?_,Nat.div_mul_le_self _ _⟩;have:(a.ver-a.off:Nat)<=c*sz:=by omega
   show (a.ver-a.off) / sz<=c
   calc (a.ver-a.off) / sz<=(c*sz) / sz:=Nat.div_le_div_right this
    _=c:=Nat.mul_div_cancel _ (by omega)
  ·cases h0
theorem sliceFree3_rel{ι:Gh}{lo:Option LV}{hi mx:LV}{clo:Option Value}{chi cmx:Value}(hlo:BRel ι lo clo)(hhi:VRel ι hi chi)(hmx:VRel ι mx cmx){a:LAddr}{b:Addr}{len c sz:Nat}{r:LV}
  (h:sliceFree3 a len sz lo hi mx=some r) (hf:FreeRel ι a len sz b c):
  ∃l u m,VRel ι r (.slice (if m=l then some b else some (b.add (l*sz))) (u-l) (m-l))/\∀W,(Instr.sliceBounds true len c clo (some chi) (some cmx)).run P W=.ok (l,u,m) W:=by
 obtain ⟨hm1,hm2⟩:=mostOf_spec hf;obtain ⟨q,hq,hsz,hlc,hver,htot,hcase⟩:=hf;unfold sliceFree3 at h;split at h
 ·cases h
 ·rename_i m hm;split at h
  ·cases h
  ·rename_i u hu;split at h
   ·cases h
   ·rename_i l hl;obtain ⟨h1,h2,h3,h4⟩:=sliceBounds_rel (P:=P) (cap:=c) (m:=m) (len:=len) (most:=mostOf a len sz) (h:=u) (l:=l) hlo (.some hhi) (.some hmx) hm1 hlc true hm hu
     (by have:=boundO_some hl;cases lo<;>simpa using this)
    refine ⟨l,u,m,?_,h4⟩;cases h;have hp:0<m->PRel ι a b:=by
     intro hm0;rcases hcase with ⟨h0,rfl,hct⟩ |⟨_,h0,_⟩
     ·exact ⟨q,hq,h0,rfl⟩
     ·omega
    by_cases hml:m=l
    ·subst hml;rw [if_pos rfl,if_pos (by simp)];exact .slice (fun h=>by omega) ⟨q,hq⟩ (by omega)
    ·rw [if_neg hml,if_neg (by rw [Nat.beq_eq];exact hml)];exact .slice (fun _=>(hp (by omega)).add _) ⟨q,hq⟩ (by omega)
theorem sliceFree2_rel{ι:Gh}{lo hi:Option LV}{clo chi:Option Value}(hlo:BRel ι lo clo)(hhi:BRel ι hi chi){a:LAddr}{b:Addr}{len c sz:Nat}{r:LV}
  (h:sliceFree2 a len sz lo hi=some r) (hf:FreeRel ι a len sz b c):
  ∃l u m,VRel ι r (.slice (if m=l then some b else some (b.add (l*sz))) (u-l) (m-l))/\∀W,(Instr.sliceBounds true len c clo chi none).run P W=.ok (l,u,m) W:=by
 obtain ⟨hm1,hm2⟩:=mostOf_spec hf;obtain ⟨q,hq,hsz,hlc,hver,htot,hcase⟩:=hf;unfold sliceFree2 at h;split at h
 ·cases h
 ·rename_i u hu;split at h
  ·cases h
  ·rename_i l hl;obtain ⟨h1,h2,h3,h4⟩:=sliceBounds_rel (P:=P) (cap:=c) (m:=c) (len:=len) (most:=c) (h:=u) (l:=l) hlo hhi .none (Nat.le_refl _) hlc true rfl
    (by have:=boundO_some hu
        cases hi with
        |none=>exact this
        |some x=>exact bound_weaken this hm1) (by have:=boundO_some hl;cases lo<;>simpa using this)
   refine ⟨l,u,c,?_,h4⟩;cases h;have hu':a.off+u*sz<=a.ver:=by
    have:=boundO_some hu;cases hi with
    |none=>simp only at this;subst this;exact hver
    |some x=>
     have hb:u<=mostOf a len sz:=bound_le this;have h5:u*sz<=mostOf a len sz*sz:=Nat.mul_le_mul_right _ hb;have h6:a.off<=a.ver:=by omega
     omega
   have hlu:l*sz<=u*sz:=Nat.mul_le_mul_right _ h3;have hsub:(u-l)*sz=u*sz-l*sz:=Nat.sub_mul _ _ _;by_cases hcl:c=l
   ·subst hcl;rw [if_pos rfl];have e1:u-c=0:=by omega
    have e2:c-c=0:=by omega
    rw [e1,e2];exact .free ⟨q,hq,hsz,Nat.le_refl _,by simp;omega,htot,.inr ⟨rfl,rfl,by
     rcases hcase with ⟨_,_,hct⟩ |⟨_,h0,hct⟩
     ·simp;omega
     ·subst h0;simp;omega⟩⟩
   ·rw [if_neg hcl];rcases hcase with ⟨h0,rfl,hct⟩ |⟨_,h0,_⟩
    ·refine .free ⟨q,hq,hsz,by omega,by simp;omega,htot,.inl ⟨by simp;omega,?_,?_⟩⟩
     ·rw [addr_add];congr 1;simp;omega
     ·have hlc':l*sz<=c*sz:=Nat.mul_le_mul_right _ (by omega);have hsub':(c-l)*sz=c*sz-l*sz:=Nat.sub_mul _ _ _;rw [hsub'];simp only;omega
    ·omega
theorem sliceFree_rel{ι:Gh}{lo hi mx:Option LV}{clo chi cmx:Option Value}(hlo:BRel ι lo clo)(hhi:BRel ι hi chi)(hmx:BRel ι mx cmx){a:LAddr}{b:Addr}{len c sz:Nat}{r:LV}
  (h:sliceFree a len sz lo hi mx=some r) (hf:FreeRel ι a len sz b c):
  ∃l u m,VRel ι r (.slice (if m=l then some b else some (b.add (l*sz))) (u-l) (m-l))/\∀W,(Instr.sliceBounds true len c clo chi cmx).run P W=.ok (l,u,m) W:=by
 cases hmx with
 |none=>exact sliceFree2_rel hlo hhi (by simpa [sliceFree] using h) hf
 |some e=>cases hhi with
  |none=>cases h
  |some g=>exact sliceFree3_rel hlo g e h hf
theorem sliceL_rel{ι:Gh}{t:TypeId}{x:LV}{v:Value}(hx:VRel ι x v){lo hi mx:Option LV}{clo chi cmx:Option Value}(hlo:BRel ι lo clo)(hhi:BRel ι hi chi)(hmx:BRel ι mx cmx){r:LV}
  (h:sliceL P t x lo hi mx=some r) (W:World):∃u,VRel ι r u/\(Instr.sliceAt t v clo chi cmx).run P W=.ok u W:=by
 unfold sliceL at h;split at h
 ·cases h
 ·rename_i d hu;split at h
  ·split at h
   ·cases h
   ·rename_i hm;cases hmx with
    |some _=>simp at hm
    |none=>
     cases hx with |str s hs=>
     subst hs;obtain ⟨l,u,hr,hb⟩:=sliceStr_rel (P:=P) hlo hhi h;refine ⟨_,hr,?_⟩;simp [Instr.sliceAt,run_underlying hu,Instr.slice,hb]
  ·rename_i e a len c;split at h
   ·rename_i n hn;have fin:∀(b:Option Addr),((a=none/\b=none/\c=0)\/∃a' b',a=some a'/\b=some b'/\(0<c->PRel ι a' b')/\∃l,ι a'.id a'.ver=some l)->len<=c->∃u,VRel ι r u/\(Instr.sliceAt t (.slice b len c) clo chi cmx).run P W=.ok u W:=by
     intro b hab hlen;obtain ⟨l,u,m,hr,hb⟩:=sliceExact_rel (P:=P) hlo hhi hmx true h hlen hab;refine ⟨_,hr,?_⟩;simp [Instr.sliceAt,run_underlying hu,Instr.slice,hb,run_sizeOf hn]
    cases hx with
    |nilslice=>exact fin none (.inl ⟨rfl,rfl,rfl⟩) (Nat.le_refl _)
    |slice hp hd hn=>exact fin _ (.inr ⟨_,_,rfl,rfl,hp,hd⟩) hn
   ·cases h
  ·rename_i e a len sz;split at h
   ·rename_i n hn;split at h
    ·rename_i hc;simp only [Bool.and_eq_true] at hc;have:=Nat.eq_of_beq_eq_true hc.1;subst this;cases hx with |free hf=>
     obtain ⟨l,u,m,hr,hb⟩:=sliceFree_rel (P:=P) hlo hhi hmx h hf;refine ⟨_,hr,?_⟩;simp only [Instr.sliceAt,Sem.run_bind,run_underlying hu,Result.andThen_ok,Instr.slice,hb,run_sizeOf hn,Sem.run_pure,Option.map_some]
    ·cases h
   ·cases h
  ·rename_i n e a;split at h
   ·cases h
   ·rename_i hm;cases hmx with
    |some _=>simp at hm
    |none=>
     split at h
     ·rename_i z hz;cases hx with |ptr hp=>
      obtain ⟨l,u,m,hr,hb⟩:=sliceExact_rel (P:=P) hlo hhi .none false h (Nat.le_refl _) (.inr ⟨_,_,rfl,rfl,fun _=>hp,hp.imp fun _ x=>x.1⟩);refine ⟨_,hr,?_⟩;simp only [Instr.sliceAt,Sem.run_bind,run_underlying hu,Result.andThen_ok,Instr.sureAddr,hb,run_sizeOf hz,Sem.run_pure];congr 2;split<;>rfl
     ·cases h
  ·cases h
theorem PRel.of_free{ι:Gh}{a:LAddr}{b:Addr}{len sz c:Nat}(h:FreeRel ι a len sz b c)(h0:0<len):PRel ι a b:=by
 obtain ⟨q,hq,_,_,_,_,h |h⟩:=h
 ·exact ⟨q,hq,h.1,h.2.1⟩
 ·omega
theorem indexAddrL_rel{ι:Gh}{t:TypeId}{x i:LV}{v w:Value}(hx:VRel ι x v)(hi:VRel ι i w){r:LV}(h:indexAddrL P t x i=some r)(W:World):
  ∃u,VRel ι r u/\(Instr.indexAt t v w).run P W=.ok u W:=by
 unfold indexAddrL at h;split at h
 ·rename_i k m;cases hi;split at h
  ·cases h
  ·rename_i d hu;split at h
   ·rename_i n e a;split at h
    ·rename_i z hz;split at h
     ·rename_i hm;rw [Nat.ble_eq] at hm;cases h;cases hx with |ptr hp=>
      refine ⟨_,.ptr (hp.add _),?_⟩;have h0:(0:Int)<=Int.ofNat m/\Int.ofNat m<(n:Int):=by simp only [Int.ofNat_eq_natCast];omega
      simp only [Instr.indexAt,asIntOf,Sem.run_bind,Sem.run_pure,Result.andThen_ok,run_underlying hu,Instr.sureAddr,h0.1,h0.2,and_self,if_true,run_sizeOf hz];rfl
     ·cases h
    ·cases h
   ·rename_i e a n c;split at h
    ·rename_i z hz;split at h
     ·rename_i hm;rw [Nat.ble_eq] at hm;cases h;have fin:∀(b:Addr) (cc:Nat),PRel ι a b->∃u,VRel ι (.ptr (some { a with off:=a.off+m*z })) u/\(Instr.indexAt t (.slice (some b) n cc) (.int k (Int.ofNat m))).run P W=.ok u W:=by
       intro b cc hp;refine ⟨_,.ptr (hp.add _),?_⟩;have h0:(0:Int)<=Int.ofNat m/\Int.ofNat m<(n:Int):=by simp only [Int.ofNat_eq_natCast];omega
       simp only [Instr.indexAt,asIntOf,Sem.run_bind,Sem.run_pure,Result.andThen_ok,run_underlying hu,h0.1,h0.2,and_self,if_true,run_sizeOf hz];rfl
      cases hx with
      |slice hp _ hn=>exact fin _ _ (hp (by omega))
      |free hf=>exact fin _ _ (PRel.of_free hf (by omega))
     ·cases h
    ·cases h
   ·cases h
 ·cases h
theorem bytes_get(s:ByteArray)(m:Nat):s[m]? =s.data.toList[m]? :=by
 have hsz:s.data.toList.length=s.size:=by simp
 by_cases h:m<s.size
 ·rw [ByteArray.getElem?_lt' s m h,List.getElem?_eq_getElem (by omega)];simp;rfl
 ·rw [ByteArray.getElem?_ge' s m h,List.getElem?_eq_none (by omega)]
theorem indexL_rel{ι:Gh}{t:TypeId}{x i:LV}{v w:Value}(hx:VRel ι x v)(hi:VRel ι i w){r:LV}(h:indexL P t x i=some r)(W:World):
  ∃u,VRel ι r u/\(Instr.index t v w).run P W=.ok u W:=by
 unfold indexL at h;split at h
 ·rename_i k m;cases hi;split at h
  ·cases h
  ·rename_i d hu;split at h
   ·rename_i n e cs;split at h
    ·rename_i z hz;split at h
     ·rename_i hm;rw [Nat.ble_eq] at hm;cases hx with |agg ha=>
      obtain ⟨u,hr,hrun⟩:=part_rel h ha;refine ⟨u,hr,?_⟩;have h0:(0:Int)<=Int.ofNat m/\Int.ofNat m<(n:Int):=by simp only [Int.ofNat_eq_natCast];omega
      simp only [Instr.index,asIntOf,Sem.run_bind,Sem.run_pure,Result.andThen_ok,run_underlying hu,h0.1,h0.2,and_self,if_true,run_sizeOf hz];exact hrun W
     ·cases h
    ·cases h
   ·rename_i s;split at h
    ·rename_i b hb;cases h;cases hx with |str s' hs=>
     subst hs;rw [nth_eq] at hb;refine ⟨_,.int _ _,?_⟩;have h0:(0:Int)<=Int.ofNat m:=by simp only [Int.ofNat_eq_natCast];omega
     have h1:s'[(Int.ofNat m).toNat]? =some b:=by
      rw [show (Int.ofNat m).toNat=m from rfl,bytes_get];exact hb
     simp only [Instr.index,asIntOf,Sem.run_bind,Sem.run_pure,Result.andThen_ok,run_underlying hu,h0,if_true,h1]
    ·cases h
   ·cases h
 ·cases h
theorem fieldOf_some{t:TypeId}{i:Nat}{f:Field}(h:fieldOf P t i=some f):∃fs,P.underlying t=some (.struct fs)/\fs[i]? =some f:=by
 unfold fieldOf at h;split at h
 ·rename_i fs hu;exact ⟨fs,hu,h⟩
 ·cases h
theorem fieldAddrL_rel{ι:Gh}{t:TypeId}{x:LV}{v:Value}(hx:VRel ι x v){i:Nat}{r:LV}(h:fieldAddrL P t x i=some r)(W:World):
  ∃u,VRel ι r u/\(Instr.fieldAt t v i).run P W=.ok u W:=by
 unfold fieldAddrL at h;split at h
 ·rename_i a;split at h
  ·rename_i f hf;split at h
   ·rename_i z hz;cases h;cases hx with |ptr hp=>
    obtain ⟨fs,hu,hi⟩:=fieldOf_some hf;refine ⟨_,.ptr (hp.add _),?_⟩;simp only [Instr.fieldAt,Sem.run_bind,run_underlying hu,Result.andThen_ok,hi,Instr.sureAddr,Sem.run_pure,fieldPlace,run_sizeOf hz,Nat.succ_ne_zero,if_false]
   ·cases h
  ·cases h
 ·cases h
theorem fieldL_rel{ι:Gh}{t:TypeId}{x:LV}{v:Value}(hx:VRel ι x v){i:Nat}{r:LV}(h:fieldL P t x i=some r)(W:World):
  ∃u,VRel ι r u/\(Instr.field t v i).run P W=.ok u W:=by
 unfold fieldL at h;split at h
 ·rename_i cs;split at h
  ·rename_i f hf;cases hx with |agg ha=>
   obtain ⟨fs,hu,hi⟩:=fieldOf_some hf;obtain ⟨u,hr,hrun⟩:=part_rel h ha;refine ⟨u,hr,?_⟩;simp only [Instr.field,Sem.run_bind,run_underlying hu,Result.andThen_ok,hi,asAgg,Sem.run_pure];exact hrun W
  ·cases h
 ·cases h
theorem typeAssertL_rel{ι:Gh}{x:LV}{v:Value}(hx:VRel ι x v){xt a:TypeId}{ok:Bool}{r:LV}(h:typeAssertL P x a ok=some r)(W:World):
  ∃u,VRel ι r u/\(Instr.typeAssert v xt a ok).run P W=.ok u W:=by
 have two:∀{y:LV} {u:Value} (b:Bool),VRel ι y u->VRel ι (.tuple [y,.bool b]) (.tuple #[u,.bool b]):=fun b e=>.tuple (.cons e (.cons (.bool _) .nil));unfold typeAssertL at h;split at h
 ·cases h
 ·rename_i d hu;split at h
  ·rename_i want t y;split at h
   ·rename_i hw;simp only [Bool.and_eq_true] at hw;cases h;cases hx with |@iface _ _ v' hy=>
    have hmi:∀(ms:Array Method),Instr.missingMethod want ms=none:=by
     intro ms;have:want=#[]:=by simpa using hw.1
     subst this;rfl
    obtain ⟨i,hi⟩:=Option.isSome_iff_exists.1 hw.2;cases ok
    ·refine ⟨_,.iface t hy,?_⟩;simp only [Instr.typeAssert,Sem.run_bind,run_underlying hu,Result.andThen_ok,run_typeInfo hi,hmi,Sem.run_pure,Bool.false_eq_true,if_false]
    ·refine ⟨_,two true (.iface t hy),?_⟩;simp only [Instr.typeAssert,Sem.run_bind,run_underlying hu,Result.andThen_ok,run_typeInfo hi,hmi,Sem.run_pure,if_true]
   ·cases h
  ·split at h
   ·rename_i hok;subst hok;split at h
    ·rename_i z hz;cases h;cases hx;obtain ⟨u,hr,hrun⟩:=run_zeroValue hz ι;refine ⟨_,two false hr,?_⟩;simp only [Instr.typeAssert,Sem.run_bind,run_underlying hu,Result.andThen_ok,if_true,hrun,Sem.run_pure]
    ·cases h
   ·cases h
  ·cases h
  ·rename_i hni;split at h
   ·rename_i hok;subst hok;split at h
    ·rename_i z hz;cases h;cases hx;obtain ⟨u,hr,hrun⟩:=run_zeroValue hz ι;refine ⟨_,two false hr,?_⟩;cases d<;>first
      |exact (hni _ rfl).elim
      |simp only [Instr.typeAssert,Sem.run_bind,run_underlying hu,Result.andThen_ok,if_true,hrun,Sem.run_pure]
    ·cases h
   ·cases h
  ·rename_i t y hni;cases hx with |@iface _ _ v' hy=>
   split at h
   ·rename_i ht;have:=Nat.eq_of_beq_eq_true ht;subst this;cases h;cases ok
    ·refine ⟨_,hy,?_⟩;cases d<;>first
      |exact (hni _ rfl).elim
      |simp only [Instr.typeAssert,Sem.run_bind,run_underlying hu,Result.andThen_ok,if_true,Sem.run_pure,Bool.false_eq_true,if_false]
    ·refine ⟨_,two true hy,?_⟩;cases d<;>first
      |exact (hni _ rfl).elim
      |simp only [Instr.typeAssert,Sem.run_bind,run_underlying hu,Result.andThen_ok,if_true,Sem.run_pure]
   ·rename_i ht;have hne:t≠a:=fun e=>ht (by subst e;simp);split at h
    ·rename_i hok;subst hok;split at h
     ·rename_i z hz;cases h;obtain ⟨u,hr,hrun⟩:=run_zeroValue hz ι;refine ⟨_,two false hr,?_⟩;cases d<;>first
       |exact (hni _ rfl).elim
       |simp only [Instr.typeAssert,Sem.run_bind,run_underlying hu,Result.andThen_ok,hne,if_true,if_false,hrun,Sem.run_pure]
     ·cases h
    ·cases h
  ·cases h
end Go.Lm

/- Operations on memory: made, read, written. -/
namespace Go.Lm
open Go.RowKit (Below)
variable {P:Program}
theorem newRow_rel{ι:Gh}{H:LHeap}{W:World}{n0:Nat}(h:HRel ι H W n0){e:TypeId}{cs:List LV}{wh:Bool}{a:LAddr}{H':LHeap}(hn:newRow H e cs wh=some (a,H'))
  {c:Array Value} (hc:VRels ι cs c.toList):
  ∃κ X,(Go.newRow e c).run P W=.ok ⟨W.heap.size,0,none⟩ X/\HRel κ H' X n0/\On ι H W κ H' X n0/\PRel κ a ⟨W.heap.size,0,none⟩/\a.off=0/\a.ver=cs.length:=by
 unfold newRow at hn;split at hn
 ·rename_i ha;cases hn;have hlen:=hc.len;have hl:cs.length=c.size:=by simpa using hlen
  obtain ⟨h1,h2⟩:=h.push_cells (cs:=cs) (c:=c) e wh .none (0,0) (by rw [List.take_of_length_le (by simp;omega)];exact hc) (by omega) (fun _=>hl.symm) ha (.inl rfl) (fun j v hv=>hc.oneCell ha v (List.mem_of_getElem? (by rw [Array.getElem?_toList];exact hv)));refine ⟨_,_,?_,h1,h2,⟨_,Gh.add_self _ _ _ _,by simp,by simp⟩,rfl,rfl⟩;simp [Go.newRow]
 ·cases hn
theorem newRow_more{ι:Gh}{H:LHeap}{W:World}{n0:Nat}(h:HRel ι H W n0){e:TypeId}{cs:List LV}(ha:allCells cs=true){vs rest:List Value}(hc:VRels ι cs vs)(fz:FZ)(fr:Nat×Nat)
  (hfz:FzRel fz ⟨W.heap.size,0,(vs++rest).length⟩ fr) (hrest:∀v∈rest,v.oneCell'=true):
  ∃κ,let X:World:={ W with heap:=W.heap.push (.cells (vs++rest).toArray e fr) }
   let K:=H.push (.cells cs e cs.length cs.length fz false false)
   HRel κ K X n0/\On ι H W κ K X n0/\κ H.next cs.length=some ⟨W.heap.size,0,(vs++rest).length⟩:=by
 have hlen:=hc.len;obtain ⟨h1,h2⟩:=h.push_cells (cs:=cs) (c:=(vs++rest).toArray) e false fz fr (by simp [hlen];exact hc) (by simp;omega) (fun h=>by cases h) ha (by simpa using hfz) (fun j v hv=>by
  rw [List.getElem?_toArray] at hv;rcases List.mem_append.1 (List.mem_of_getElem? hv) with hm |hm
  ·exact hc.oneCell ha v hm
  ·exact hrest v hm)
 exact ⟨_,h1,h2,by simpa using Gh.add_self _ _ _ _⟩
theorem allocL_rel{ι:Gh}{H:LHeap}{W:World}{n0:Nat}(h:HRel ι H W n0){t:TypeId}{z:LV}(hz:zeroOf P t=some z){a:LAddr}{H':LHeap}(hn:newRow H t z.cells true=some (a,H'))(old:Value):
  ∃κ X,(Instr.alloc t true old).run P W=.ok (.pointer (some ⟨W.heap.size,0,none⟩)) X/\HRel κ H' X n0/\On ι H W κ H' X n0/\PRel κ a ⟨W.heap.size,0,none⟩:=by
 obtain ⟨v,hv,hrun⟩:=run_zeroValue hz ι;have hnl:z≠.lost:=by
  rintro rfl;simp [newRow,LV.cells,allCells,LV.isCell] at hn
 obtain ⟨κ,X,h1,h2,h3,h4,_⟩:=newRow_rel (P:=P) h hn (hv.cells' hnl);refine ⟨κ,X,?_,h2,h3,h4⟩;simp only [Instr.alloc,Sem.run_bind,hrun,Result.andThen_ok,newVar,h1,Sem.run_pure]
theorem boxL_rel{ι:Gh}{H:LHeap}{W:World}{n0:Nat}(h:HRel ι H W n0){t:TypeId}{x:LV}{v:Value}(hx:VRel ι x v){a:LAddr}{H':LHeap}(hn:newRow H t x.cells true=some (a,H')):
  ∃κ X,(Instr.box t v).run P W=.ok (.pointer (some ⟨W.heap.size,0,none⟩)) X/\HRel κ H' X n0/\On ι H W κ H' X n0/\PRel κ a ⟨W.heap.size,0,none⟩:=by
 have hnl:x≠.lost:=by
  rintro rfl;simp [newRow,LV.cells,allCells,LV.isCell] at hn
 obtain ⟨κ,X,h1,h2,h3,h4,_⟩:=newRow_rel (P:=P) h hn (hx.cells' hnl);refine ⟨κ,X,?_,h2,h3,h4⟩;simp only [Instr.box,Sem.run_bind,newVar,h1,Result.andThen_ok,Sem.run_pure]
theorem foldl_set:∀(vs:List Value) (s off:Nat) (c:Array Value) (k:Nat),off+s+vs.length<=c.size->
  ((vs.zipIdx s).foldl (fun (cs:Array Value) (p:Value×Nat)=>cs.setIfInBounds (off+p.2) p.1) c)[k]? =if off+s<=k/\k<off+s+vs.length then vs[k-(off+s)]? else c[k]?
 |[],s,off,c,k,_=>by simp;omega
 |v::vs,s,off,c,k,h=>by
  simp only [List.zipIdx_cons,List.foldl_cons];rw [foldl_set vs (s+1) off _ k (by simp at h |-;omega),Array.getElem?_setIfInBounds];simp only [List.length_cons] at h |-;by_cases hk:off+s=k
  ·subst hk;rw [if_neg (by omega),if_pos rfl,if_pos (by omega),if_pos (by omega)];simp
  ·by_cases hc:off+(s+1)<=k/\k<off+(s+1)+vs.length
   ·rw [if_pos hc,if_pos (by omega),show k-(off+s)=(k-(off+(s+1)))+1 by omega];simp
   ·rw [if_neg hc,if_neg hk,if_neg (by omega)]
theorem foldl_size:∀(vs:List (Value×Nat)) (off:Nat) (c:Array Value),(vs.foldl (fun (cs:Array Value) (p:Value×Nat)=>cs.setIfInBounds (off+p.2) p.1) c).size=c.size
 |[],off,c=>rfl
 |v::vs,off,c=>by
  simp only [List.foldl_cons];rw [foldl_size vs off];simp
inductive PartsRel (ι:Gh):List (Nat×LV)->List (Nat×Value)->Prop
 |nil:PartsRel ι [] []
 |cons {i:Nat} {x:LV} {v:Value} {l:List (Nat×LV)} {m:List (Nat×Value)} (h:VRel ι x v) (t:PartsRel ι l m):PartsRel ι ((i,x)::l) ((i,v)::m)
theorem fillL_rel{ι:Gh}{place:Nat->Option (Nat×Nat)}:∀{l:List (Nat×LV)} {m:List (Nat×Value)},PartsRel ι l m->∀{cs r:List LV} {c:Array Value},VRels ι cs c.toList->fillL place cs l=some r->
  ∃d:Array Value,Instr.fill place c m=some d/\VRels ι r d.toList
 |_,_,.nil,cs,r,c,hc,h=>by
  simp [fillL] at h;subst h;exact ⟨c,rfl,hc⟩
 |_,_,@PartsRel.cons _ i x v l m hx t,cs,r,c,hc,h=>by
  simp only [fillL] at h;split at h
  ·cases h
  ·rename_i off size hp;split at h
   ·rename_i hs;simp only [Bool.and_eq_true] at hs;obtain ⟨hs,hac⟩:=hs
    replace hs:=Nat.eq_of_beq_eq_true hs
    split at h
    ·rename_i cs' ho;obtain ⟨h1,h2,h3⟩:=over_spec _ _ _ _ ho;have hlen:=hc.len;have hlen':cs.length=c.size:=by simpa using hlen
     by_cases hx0:x=.lost
     ·subst hx0;simp [LV.cells,allCells,LV.isCell] at hac
     ·have hxc:=hx.cells' hx0;have hxl:=hxc.len;have hxl':x.cells.length=v.cells.size:=by simpa using hxl
      have hd:VRels ι cs' (v.cells.toList.zipIdx.foldl (fun (cs:Array Value) (p:Value×Nat)=>cs.setIfInBounds (off+p.2) p.1) c).toList:=by
       refine VRels.iff.2 ⟨?_,fun k a b ha hb=> ?_⟩
       ·rw [h1,hlen'];simp [foldl_size]
       ·rw [Array.getElem?_toList,foldl_set _ 0 off c k (by simp;omega)] at hb;rw [h3 k] at ha;simp only [Nat.add_zero,Array.length_toList] at hb;split at ha
        ·rename_i hin;rw [if_pos (by omega)] at hb;obtain ⟨b',hb',hr⟩:=hxc.get ha;rw [hb] at hb';cases hb';exact hr
        ·rename_i hout;rw [if_neg (by omega)] at hb;obtain ⟨b',hb',hr⟩:=hc.get ha;rw [Array.getElem?_toList,hb] at hb';cases hb';exact hr
      obtain ⟨d,hd1,hd2⟩:=fillL_rel t hd h;refine ⟨d,?_,hd2⟩;simp only [Instr.fill,hp];rw [if_neg]
      ·rw [<-hd1];congr 1;rw [<-Array.foldl_toList,Array.toList_zipIdx]
      ·simp;omega
    ·cases h
   ·cases h
theorem mapO_mapM{α β:Type}(f:α->Option β):∀l:List α,mapO f l=l.mapM f
 |[]=>rfl
 |a::l=>by
  simp only [mapO,List.mapM_cons,Option.bind_eq_bind,Option.pure_def];cases f a with
  |none=>rfl
  |some b=>
   rw [mapO_mapM f l];cases l.mapM f<;>rfl
theorem zeroOf_some{t:TypeId}{z:LV}(h:zeroOf P t=some z):∃i v,P.info? t=some i/\i.zero=some v/\toLV 20 v=some z:=by
 unfold zeroOf at h;split at h
 ·rename_i i hi;split at h
  ·rename_i v hz;exact ⟨i,v,hi,hz,h⟩
  ·cases h
 ·cases h
theorem toLV_not_lost{n:Nat}{v:Value}{z:LV}(h:toLV n v=some z):z≠.lost:=by
 rintro rfl;cases n with
 |zero=>simp [toLV] at h
 |succ n=>cases v<;>first
  |(simp [toLV] at h;done)
  |(rename_i a;cases a<;>simp [toLV] at h;done)
  |(rename_i a l c;cases a<;>cases l<;>cases c<;>simp [toLV] at h)
theorem sizeOfT_some{t:TypeId}{n:Nat}(h:sizeOfT P t=some n):∃i,P.info? t=some i/\i.size=n:=by
 simpa [sizeOfT] using h
theorem bytesOfT_some{t:TypeId}{n:Nat}(h:bytesOfT P t=some n):∃i,P.info? t=some i/\i.bytes=n:=by
 simpa [bytesOfT] using h
theorem buildL_rel{ι:Gh}{t:TypeId}{parts:List (Nat×LV)}{cp:Array (Nat×Value)}(hp:PartsRel ι parts cp.toList){r:LV}(h:buildL P t parts=some r)(W:World):
  ∃v,VRel ι r v/\(Instr.build t cp).run P W=.ok v W:=by
 unfold buildL at h;split at h
 ·cases h
 ·rename_i z hz;obtain ⟨it,zv,hit,hzv,hto⟩:=zeroOf_some hz;have hzr:VRels ι z.cells zv.cells.toList:=(toLV_rel ι _ _ _ hto).cells' (toLV_not_lost hto);split at h
  ·rename_i fs hu;split at h
   ·rename_i places hpl;simp only [Option.map_eq_some_iff] at h;obtain ⟨cs,hcs,rfl⟩:=h;obtain ⟨d,hd1,hd2⟩:=fillL_rel hp hzr hcs;refine ⟨_,.agg hd2,run_build W t cp d ?_⟩;rw [mapO_mapM] at hpl;simp only [Program.built,hit,hu,hzv,hpl];rw [<-hd1];congr 1;funext i;rw [List.getElem?_toArray,nth_eq]
   ·cases h
  ·rename_i n e hu;split at h
   ·rename_i m hm;simp only [Option.map_eq_some_iff] at h;obtain ⟨cs,hcs,rfl⟩:=h;obtain ⟨d,hd1,hd2⟩:=fillL_rel hp hzr hcs;obtain ⟨ie,hie,rfl⟩:=sizeOfT_some hm;refine ⟨_,.agg hd2,run_build W t cp d ?_⟩;simp only [Program.built,hit,hu,hzv,hie];exact hd1
   ·cases h
  ·cases h
theorem rep_get{α:Type}{z:List α}{n:Nat}(hz:z.length=n)(hn:0<n):∀(len k:Nat),((List.replicate len z).flatten)[k]? =if k<len*n then z[k%n]? else none
 |0,k=>by simp
 |len+1,k=>by
  rw [List.replicate_succ,List.flatten_cons,List.getElem?_append];split
  ·rename_i h;rw [Nat.mod_eq_of_lt (by omega),if_pos];have:len*n+n=(len+1)*n:=by rw [Nat.add_mul];simp
   omega
  ·rename_i h;rw [rep_get hz hn len,hz];have e1:(k-n)%n=k%n:=by
    have:k=(k-n)+n:=by omega
    conv=>rhs;rw [this,Nat.add_mod_right]
   have e2:(len+1)*n=len*n+n:=by rw [Nat.add_mul];simp
   rw [e1,e2];by_cases hc:k-n<len*n
   ·rw [if_pos hc,if_pos (by omega)]
   ·rw [if_neg hc,if_neg (by omega)]
theorem range_map_rep{z:Array Value}{n:Nat}(hz:z.size=n)(hn:0<n)(len:Nat):((Array.range (len*n)).map (fun i=>z[i%z.size]!)).toList=(List.replicate len z.toList).flatten:=by
 apply List.ext_getElem?;intro k;rw [rep_get (n:=n) (by simpa using hz) hn];rw [Array.getElem?_toList,Array.getElem?_map];by_cases hk:k<len*n
 ·rw [if_pos hk,Array.getElem?_eq_getElem (by simpa using hk)];have hm:k%n<z.size:=by rw [hz];exact Nat.mod_lt _ hn
  simp only [Array.getElem_range,Option.map_some];rw [hz,getElem!_pos z (k%n) hm,Array.getElem?_toList,Array.getElem?_eq_getElem hm]
 ·rw [if_neg hk,Array.getElem?_eq_none (by simp;omega)];rfl
theorem zeroCells_rep{z:Array Value}(hn:0<z.size)(len:Nat):(Builtin.zeroCells z len).toList=(List.replicate len z.toList).flatten:=
 range_map_rep rfl hn len
theorem buildSliceL_rel{ι:Gh}{H:LHeap}{W:World}{n0:Nat}(h:HRel ι H W n0){t:TypeId}{len:Nat}{parts:List (Nat×LV)}{cp:Array (Nat×Value)}(hp:PartsRel ι parts cp.toList){r:LV}{H':LHeap}
  (hb:buildSliceL P H t len parts=some (r,H')):
  ∃κ X,(Instr.buildSlice t len cp).run P W=.ok (.slice (some ⟨W.heap.size,0,none⟩) len len) X/\VRel κ r (.slice (some ⟨W.heap.size,0,none⟩) len len)/\HRel κ H' X n0/\On ι H W κ H' X n0:=by
 unfold buildSliceL at hb;split at hb
 ·cases hb
 ·rename_i e he;have hu:P.underlying t=some (.slice e):=by
   unfold elemOfSlice at he;split at he
   ·cases he;assumption
   ·cases he
  split at hb
  ·split at hb
   ·rename_i n a H1 hn hr;cases hb;have hcp:cp.toList=[]:=by
     generalize cp.toList=l at hp;cases hp;rfl
    obtain ⟨κ,X,h1,h2,h3,h4,_⟩:=newRow_rel (P:=P) h hr (c:=#[]) .nil;refine ⟨κ,X,?_,.slice (fun _=>h4) (h4.imp fun _ x=>x.1) (Nat.le_refl _),h2,h3⟩;simp only [Instr.buildSlice,Sem.run_bind,run_underlying hu,Result.andThen_ok,run_sizeOf hn,Nat.zero_mul,if_true,hcp,Instr.fill];simp;rw [show (Array.map (fun _=>(default:Value)) (Array.range 0))=#[] by simp,h1];rfl
   ·cases hb
  split at hb
  ·rename_i n z hn hz;split at hb
   ·rename_i hc;simp only [Bool.and_eq_true,Nat.ble_eq] at hc;obtain ⟨⟨hc1,hc2⟩,hc3⟩:=hc
    replace hc3:=Nat.eq_of_beq_eq_true hc3
    split at hb
    ·rename_i cs hf;split at hb
     ·rename_i a H1 hr;cases hb;obtain ⟨it,zv,hit,hzv,hto⟩:=zeroOf_some hz;obtain ⟨it',hit',hsz⟩:=sizeOfT_some hn;rw [hit] at hit';cases hit';have hzr:VRels ι z.cells zv.cells.toList:=(toLV_rel ι _ _ _ hto).cells' (toLV_not_lost hto);have hzl:=hzr.len;have hzs:zv.cells.size=n:=by
       have:zv.cells.toList.length=zv.cells.size:=Array.length_toList;omega
      have hn0:0<n:=by
       rcases Nat.eq_zero_or_pos n with h |h
       ·subst h;simp at hc2
       ·exact h
      have h0:VRels ι (repl len z.cells []) ((Array.range (len*n)).map (fun i=>zv.cells[i%zv.cells.size]!)).toList:=by
       rw [repl_eq,List.append_nil,range_map_rep hzs hn0];exact hzr.rep len
      obtain ⟨d,hd1,hd2⟩:=fillL_rel hp h0 hf;obtain ⟨κ,X,h1,h2,h3,h4,_⟩:=newRow_rel (P:=P) h hr hd2;refine ⟨κ,X,?_,.slice (fun _=>h4) (h4.imp fun _ x=>x.1) (Nat.le_refl _),h2,h3⟩;subst hsz;have:=run_buildSlice W t e len cp d it zv hu hit hzv (by omega) (by omega) hd1;rw [this];simp [Go.newRow] at h1;rw [<-h1]
     ·cases hb
    ·cases hb
   ·cases hb
  ·cases hb
theorem loadT_rel{ι:Gh}{H:LHeap}{W:World}{n0:Nat}(h:HRel ι H W n0){t:TypeId}{a:LAddr}{b:Addr}(hp:PRel ι a b){r:LV}(hl:loadT P H t a=some r):
  ∃v,VRel ι r v/\(loadVar t b).run P W=.ok v W:=by
 unfold loadT at hl;split at hl
 ·rename_i hagg;split at hl
  ·rename_i n hn;simp only [Option.map_eq_some_iff] at hl;obtain ⟨cs,hcs,rfl⟩:=hl;obtain ⟨vs,h1,h2,_,h4⟩:=load_rel h hp hcs;refine ⟨.agg vs.toArray,.agg (by simpa using h1),?_⟩;have:=run_loadCells_list (P:=P) W b vs h4;rw [h2] at this;simp only [loadVar,Sem.run_bind,run_isAgg hagg,Result.andThen_ok,if_true,run_sizeOf hn,this,Sem.run_pure]
  ·cases hl
 ·rename_i hagg;obtain ⟨v,h1,_,h3⟩:=load1_rel h hp hl;refine ⟨v,h1,?_⟩;simp only [loadVar,Sem.run_bind,run_isAgg hagg,Result.andThen_ok,Bool.false_eq_true,if_false,run_load,h3]
 ·cases hl
theorem storeN_nil{H H':LHeap}{a:LAddr}(h:storeN H a []=some H'):H'=H:=by
 simp [storeN] at h;exact h.symm
theorem storeN_cells{H H':LHeap}{a:LAddr}{xs:List LV}(h:storeN H a xs=some H'):allCells xs=true:=by
 cases xs with
 |nil=>rfl
 |cons x xs=>
  simp only [storeN] at h;split at h
  ·split at h
   ·rename_i hc;simp only [Bool.and_eq_true] at hc;exact hc.2
   ·cases h
  ·cases h
theorem storeT_rel{ι:Gh}{H H':LHeap}{W:World}{n0:Nat}(h:HRel ι H W n0){t:TypeId}{a:LAddr}{b:Addr}(hp:PRel ι a b){x:LV}{v:Value}(hx:VRel ι x v)(hs:storeT P H t a x=some H'):
  ∃X:World,(storeVar t b v).run P W=.ok () X/\HRel ι H' X n0/\On ι H W ι H' X n0:=by
 unfold storeT at hs;split at hs
 ·rename_i n hn;split at hs
  ·rename_i hl
   replace hl:=Nat.eq_of_beq_eq_true hl
   have hnl:x≠.lost:=by
    rintro rfl;have:=storeN_cells hs;simp [LV.cells,allCells,LV.isCell] at this
   have hxc:=hx.cells' hnl;have hxl:=hxc.len;have hvt:v.cells.toList.length=v.cells.size:=Array.length_toList;obtain ⟨X,h1,h2,h3⟩:=store_rel (P:=P) h hp hxc hs;refine ⟨X,?_,h2,h3⟩;have hne:¬(v.cells.size≠n):=by omega
   simp only [storeVar,Sem.run_bind,run_sizeOf hn,Result.andThen_ok];rw [if_neg hne];exact h1
  ·cases hs
 ·cases hs
end Go.Lm

/- append, copy, clear: both machines go on together. -/
namespace Go.Lm
open Go.RowKit (Below)
variable {P:Program}
theorem elemOfSlice_some{t e:TypeId}(h:elemOfSlice P t=some e):P.underlying t=some (.slice e):=by
 unfold elemOfSlice at h;split at h
 ·cases h;assumption
 ·cases h
theorem slice_place{ι:Gh}{a:LAddr}{len:Nat}{cap:Cap}{v:Value}(h:VRel ι (.slice (some a) len cap) v):∃b c,v=.slice (some b) len c/\len<=c/\(0<len->PRel ι a b):=by
 cases h with
 |slice hp hd hn=>exact ⟨_,_,rfl,hn,fun h0=>hp (by omega)⟩
 |free hf=>exact ⟨_,_,rfl,by obtain ⟨_,_,_,h,_⟩:=hf;exact h,fun h0=>PRel.of_free hf h0⟩
theorem firstCellsL_rel{ι:Gh}{H:LHeap}{W:World}{n0:Nat}(h:HRel ι H W n0){size n:Nat}{x:LV}{v:Value}(hx:VRel ι x v){cs:List LV}(hc:firstCellsL H size n x=some cs):
  ∃arr:Array Value,(Builtin.firstCells size n v).run P W=.ok arr W/\VRels ι cs arr.toList:=by
 unfold firstCellsL at hc;split at hc
 ·rename_i a m cap;split at hc
  ·rename_i hnm;rw [Nat.ble_eq] at hnm;obtain ⟨b,c,rfl,hmc,hp⟩:=slice_place hx;by_cases hn:n*size=0
   ·have hcs:cs=[]:=by
     rw [hn] at hc;unfold loadN at hc;split at hc
     ·split at hc
      ·simp [takeN] at hc;exact hc
      ·cases hc
     ·cases hc
    subst hcs;exact ⟨#[],by simp [Builtin.firstCells,hn,loadCells,loadCellsFrom],.nil⟩
   ·have hm0:0<m:=by
     rcases Nat.eq_zero_or_pos n with h |h
     ·subst h;simp at hn
     ·omega
    obtain ⟨vs,h1,h2,_,h4⟩:=load_rel h (hp hm0) hc;refine ⟨vs.toArray,?_,by simpa using h1⟩;have:=run_loadCells_list (P:=P) W b vs h4;rw [h2] at this;simp only [Builtin.firstCells,this]
  ·cases hc
 ·split at hc
  ·rename_i m cap hn;cases hc
   replace hn:=Nat.eq_of_beq_eq_true hn
   cases hx;exact ⟨#[],by simp [Builtin.firstCells],.nil⟩
  ·cases hc
 ·rename_i s;split at hc
  ·rename_i hs;simp only [Option.map_eq_some_iff] at hc;obtain ⟨l,hl,rfl⟩:=hc;obtain ⟨h1,rfl⟩:=takeN_some _ _ _ hl;cases hx with |str s' hs'=>
   subst hs';refine ⟨_,by simp only [Builtin.firstCells];rfl,?_⟩;have:((s'.extract 0 n).data.map fun b=>Value.int .u8 (b.toNat:Int)).toList=(s'.data.toList.take n).map fun b=>Value.int .u8 (b.toNat:Int):=by
    rw [Array.toList_map,Go.Lib.extract_data];simp
   rw [this];exact VRels.map fun b _=>.int _ _
  ·cases hc
 ·cases hc
theorem firstCells_len{H:LHeap}{size n:Nat}{x:LV}{cs:List LV}(hc:firstCellsL H size n x=some cs):cs.length=n*size:=by
 unfold firstCellsL at hc;split at hc
 ·split at hc
  ·unfold loadN at hc;split at hc
   ·split at hc
    ·obtain ⟨h1,rfl⟩:=takeN_some _ _ _ hc;simp;omega
    ·cases hc
   ·cases hc
  ·cases hc
 ·split at hc
  ·rename_i hn;cases hc;have:=Nat.eq_of_beq_eq_true hn;subst this;simp
  ·cases hc
 ·split at hc
  ·rename_i hs;have:=Nat.eq_of_beq_eq_true hs;subst this;simp only [Option.map_eq_some_iff] at hc;obtain ⟨l,hl,rfl⟩:=hc;obtain ⟨h1,rfl⟩:=takeN_some _ _ _ hl;simp;omega
  ·cases hc
 ·cases hc
structure AppSrc (P:Program) (W:World) (e size:Nat) (xt:TypeId) (xv:Value) (n:Nat) (arr:Array Value):Prop where
 src:(isIntT P xt=false/\(∀X,(Builtin.lenOf xv).run P X=.ok n X)/\(∀X:World,X.heap=W.heap->(Builtin.firstCells size n xv).run P X=.ok arr X))\/
  (isIntT P xt=true/\(∃k,xv=.int k (Int.ofNat n))/\n<=1000000/\0<n*size/\∃zv:Value,(∀X,(zeroValue e).run P X=.ok zv X)/\arr=Builtin.zeroCells zv.cells n)
theorem isInt_not{t:TypeId}{d:TypeDesc}(h:P.underlying t=some d)(hi:isIntT P t=false)(k:IntKind):d≠.int k:=by
 rintro rfl;simp [isIntT,h] at hi
theorem isInt_yes{t:TypeId}{d:TypeDesc}(h:P.underlying t=some d)(hi:isIntT P t=true):∃k,d=.int k:=by
 unfold isIntT at hi;rw [h] at hi;cases d<;>simp at hi;exact ⟨_,rfl⟩
theorem growBy_le:∀(r c n:Nat),c<=2*n+1000->Builtin.growBy n r c<=2*n+1000
 |0,c,n,h=>by simpa [Builtin.growBy] using h
 |r+1,c,n,h=>by
  unfold Builtin.growBy;split
  ·exact h
  ·exact growBy_le r _ n (by omega)
theorem nextslicecap_le{n c:Nat}(h:c<n):Builtin.nextslicecap n c<=2*n+1000:=by
 unfold Builtin.nextslicecap;split
 ·omega
 ·split
  ·omega
  ·exact growBy_le _ _ _ (by omega)
theorem append_run{st e xt:TypeId}{size bytes:Nat}{b:Option Addr}{len c n:Nat}{xv:Value}{arr:Array Value}{W:World}(hu:P.underlying st=some (.slice e))(hs:sizeOfT P e=some size)
  (hxt:(P.underlying xt).isSome) (hb:bytesOfT P e=some bytes) (src:AppSrc P W e size xt xv n arr) (ty:TypeId) (at_:Array TypeId) (args:Array Value) (h0:at_[0]? =some st) (h1:at_[1]? =some xt) (g0:args[0]? =some (.slice b len c)) (g1:args[1]? =some xv)
  (hsmall:(2*(len+n)+1000)*(bytes+1)<=140737488355328) (hn:0<n) {zv:Value} (hz:∀X,(zeroValue e).run P X=.ok zv X) {old:Array Value} (hold:c<len+n->∀X:World,X.heap=W.heap->(Builtin.firstCells size len (.slice b len c)).run P X=.ok old X):
  (Builtin.append_ at_ ty args).run P W=if len+n<=c then
     ((match b with |some a=>storeCells (a.add (len*size)) arr.toList |none=>(pure ():Sem Unit)).run P W).andThen (fun _ X=>.ok (.slice b (len+n) c) X)
    else
     let cap:=len+n+W.tape W.drawn (.appendCap (len+n) c e)%(2 ^ 63-(len+n))
     .ok (.slice (some ⟨W.heap.size,0,none⟩) (len+n) cap) { W with drawn:=W.drawn+1,heap:=W.heap.push (.cells (old++arr++Builtin.zeroCells zv.cells (cap-(len+n))) e) }:=by
 obtain ⟨d,hd⟩:=Option.isSome_iff_exists.1 hxt;obtain ⟨ie,hie,hby⟩:=bytesOfT_some hb;have hie2:sizeOfT P e=some size:=hs;have small1:¬(((len+n:Nat):Int)>IntKind.i64.max):=by
  have:IntKind.i64.max=9223372036854775807:=by kernel_rfl
  rw [this];have:(2*(len+n)+1000)*1<=(2*(len+n)+1000)*(bytes+1):=Nat.mul_le_mul_left _ (by omega);omega
 have small2:c<len+n->¬(Builtin.nextslicecap (len+n) c*bytes>2 ^ 48):=by
  intro hc;have h1:=nextslicecap_le hc;have h2:Builtin.nextslicecap (len+n) c*bytes<=(2*(len+n)+1000)*(bytes+1):=Nat.mul_le_mul h1 (by omega);omega
 have forced:(Question.appendCap (len+n) c e).forced=false:=rfl;rcases src.src with ⟨hi,hlen,hfc⟩ |⟨hi,⟨k,rfl⟩,hn1,hnz,zv',hz',rfl⟩
 ·have hne:=isInt_not hd hi;by_cases hfit:len+n<=c
  ·rw [if_pos hfit];have key:(Builtin.append_ at_ ty args).run P W=((match b with |some a=>storeCells (a.add (len*size)) arr.toList |none=>(pure ():Sem Unit)).run P W).andThen (fun _ X=>.ok (.slice b (len+n) c) X):=by
    cases d with
    |int k=>exact absurd rfl (hne k)
    |_=>
     simp only [Builtin.append_,h0,h1,g0,g1,Sem.run_bind,run_underlying hu,Result.andThen_ok,run_sizeOf hs,run_underlying hd,Sem.run_pure,Bool.false_eq_true,if_false,hlen,hfit,if_true,
      Bool.not_false,hfc W rfl]
     cases b<;>simp
   exact key
  ·rw [if_neg hfit];have hc:c<len+n:=by omega
   have e1:=hold hc { W with drawn:=W.drawn+1 } rfl;have e2:=hfc { W with drawn:=W.drawn+1 } rfl;cases d with
   |int k=>exact absurd rfl (hne k)
   |_=>
    simp only [Builtin.append_,h0,h1,g0,g1,Sem.run_bind,run_underlying hu,Result.andThen_ok,run_sizeOf hs,run_underlying hd,Sem.run_pure,Bool.false_eq_true,if_false,hlen,hfit,
     Bool.not_false,if_true,run_typeInfo hie,hby]
    rw [if_neg (fun h=>small1 h.1)];simp only [Sem.run_pure,Sem.run_bind,Result.andThen_ok,run_typeInfo hie,hby];rw [if_neg (small2 hc)];simp only [Sem.run_pure,Result.andThen_ok,run_choose,forced,Bool.false_eq_true,if_false,run_askRoom,Question.cut,e1,e2,hz,Go.newRow,Sem.run_bind,run_newObj,run_typeInfo hie]
 ·have hzz:zv'=zv:=by
   have a:=hz W;rw [hz' W] at a;cases a;rfl
  subst hzz;obtain ⟨j,rfl⟩:=isInt_yes hd hi;have hw:IntKind.i64.wrap (Int.ofNat n)=(n:Int):=wrap_i64 (by simp only [Int.ofNat_eq_natCast];omega) (by simp only [Int.ofNat_eq_natCast];omega);have hneg:¬((n:Int)<0):=by omega
  have hbig:¬((n:Int)*(bytes:Int)>2 ^ 48):=by
   have h2:n*bytes<=(2*(len+n)+1000)*(bytes+1):=Nat.mul_le_mul (by omega) (by omega);have h3:((n*bytes:Nat):Int)=(n:Int)*(bytes:Int):=by push_cast;rfl
   have h4:(2:Int) ^ 48=281474976710656:=by kernel_rfl
   rw [h4,<-h3];omega
  have hnz':¬(n*size=0):=by omega
  by_cases hfit:len+n<=c
  ·rw [if_pos hfit];simp only [Builtin.append_,h0,h1,g0,g1,Sem.run_bind,run_underlying hu,Result.andThen_ok,run_sizeOf hs,run_underlying hd,Sem.run_pure,if_true,asInt,asIntOf,hw,hneg,if_false,run_typeInfo hie,hby];rw [if_neg hbig];simp only [Sem.run_pure,Result.andThen_ok,Int.toNat_natCast,hfit,if_true,Bool.not_true,Bool.false_eq_true,if_false,hnz',hz',Sem.run_bind];cases b<;>simp
  ·rw [if_neg hfit];have hc:c<len+n:=by omega
   have e1:=hold hc { W with drawn:=W.drawn+1 } rfl;simp only [Builtin.append_,h0,h1,g0,g1,Sem.run_bind,run_underlying hu,Result.andThen_ok,run_sizeOf hs,run_underlying hd,Sem.run_pure,if_true,asInt,asIntOf,hw,hneg,if_false,run_typeInfo hie,hby];rw [if_neg hbig];simp only [Sem.run_pure,Result.andThen_ok,Int.toNat_natCast,hfit,Bool.not_true,Bool.false_eq_true,if_false,hnz',hz',Sem.run_bind,run_typeInfo hie,hby];rw [if_neg (fun h=>small1 h.1)];simp only [Sem.run_pure,Sem.run_bind,Result.andThen_ok,run_typeInfo hie,hby];rw [if_neg (small2 hc)];simp only [Sem.run_pure,Result.andThen_ok,run_choose,forced,Bool.false_eq_true,if_false,run_askRoom,Question.cut,e1,hz,hz',Go.newRow,Sem.run_bind,run_newObj,run_typeInfo hie]
theorem arr3(a b c:Array Value):(a.toList++b.toList++c.toList).toArray=a++b++c:=by apply Array.ext';simp
theorem appendCells_rel{ι:Gh}{H:LHeap}{W:World}{n0:Nat}(h:HRel ι H W n0){st e xt:TypeId}{size bytes:Nat}{s:LV}{sv xv:Value}(hsv:VRel ι s sv){new:List LV}{n:Nat}{arr:Array Value}(hnew:VRels ι new arr.toList)
  (hu:P.underlying st=some (.slice e)) (hs:sizeOfT P e=some size) (hsz:0<size) (hxt:(P.underlying xt).isSome) (hb:bytesOfT P e=some bytes) (src:AppSrc P W e size xt xv n arr)
  (ty:TypeId) (at_:Array TypeId) (args:Array Value) (h0:at_[0]? =some st) (h1:at_[1]? =some xt) (g0:args[0]? =some sv) (g1:args[1]? =some xv) {r:LV} {H':LHeap}
  (ha:appendCells P H e size bytes s new n=some (r,H')) (hnil:n=0->(Builtin.append_ at_ ty args).run P W=.ok sv W):
  ∃κ X v,(Builtin.append_ at_ ty args).run P W=.ok v X/\VRel κ r v/\HRel κ H' X n0/\On ι H W κ H' X n0:=by
 unfold appendCells at ha;split at ha
 ·rename_i a len cap;split at ha
  ·rename_i hn0;cases ha;exact ⟨ι,W,sv,hnil (Nat.eq_of_beq_eq_true hn0),hsv,h,.refl _ _ _ _⟩
  ·rename_i hn0;have hn:0<n:=by
    rcases Nat.eq_zero_or_pos n with e |e
    ·subst e;exact absurd rfl hn0
    ·exact e
   split at ha
   ·cases ha
   ·rename_i hsm;simp only [Bool.not_eq_true',Bool.not_eq_false,Bool.and_eq_true,Nat.ble_eq] at hsm;obtain ⟨hsmall,hnl⟩:=hsm
    replace hnl:=Nat.eq_of_beq_eq_true hnl
    split at ha
    ·cases ha
    ·rename_i z hz;obtain ⟨zv,hzr,hzrun⟩:=run_zeroValue hz ι;split at ha
     ·cases ha
     ·rename_i hzl;simp only [Bool.not_eq_true',Bool.not_eq_false,Bool.and_eq_true] at hzl;obtain ⟨hzl,hzall⟩:=hzl
      replace hzl:=Nat.eq_of_beq_eq_true hzl
      have hznl:z≠.lost:=by
       obtain ⟨_,_,_,_,hto⟩:=zeroOf_some hz;exact toLV_not_lost hto
      have hzc:=hzr.cells' hznl;have hzs:zv.cells.size=size:=by
       have e1:=hzc.len;have e2:zv.cells.toList.length=zv.cells.size:=Array.length_toList;omega
      have hrest:∀k,(Builtin.zeroCells zv.cells k).toList.length=k*size:=by
       intro k;rw [zeroCells_rep (by omega)];simp [hzs]
      have hz1:∀k,∀v∈(Builtin.zeroCells zv.cells k).toList,v.oneCell'=true:=by
       intro k v hv;rw [zeroCells_rep (by omega)] at hv;obtain ⟨l,hl1,hl2⟩:=List.mem_flatten.1 hv;rw [List.eq_of_mem_replicate hl1] at hl2;exact hzc.oneCell hzall v hl2
      have hal:=hnew.len;have hasz:arr.toList.length=n*size:=by omega
      have hnewne:new≠[]:=by
       rintro rfl;have:0<n*size:=Nat.mul_pos hn hsz;simp at hnl;omega
      split at ha
      ·
       rename_i c;split at ha
       ·rename_i hfit;rw [Nat.ble_eq] at hfit;split at ha
        ·rename_i a;unfold appendHere at ha;split at ha
         ·rename_i H1 hst;cases ha;cases hsv with |@slice _ b _ _ hp hd hlc=>
          have hp':=hp (by omega);obtain ⟨X,x1,x2,x3⟩:=store_rel (P:=P) h (hp'.add (len*size)) hnew hst;refine ⟨ι,X,.slice (some b) (len+n) c,?_,.slice hp hd hfit,x2,x3⟩;rw [append_run hu hs hxt hb src ty at_ args h0 h1 g0 g1 hsmall hn hzrun (old:=#[]) (fun hc=>by omega),if_pos hfit];simp only [x1,Result.andThen_ok]
         ·cases ha
        ·cases ha
       ·rename_i hfit;rw [Nat.ble_eq] at hfit;split at ha
        ·rename_i old hold;unfold growL at ha;split at ha
         ·rename_i a' H1 hr;cases ha;obtain ⟨b,rfl⟩:∃b,sv=.slice b len c:=by
           cases hsv with
           |nilslice=>exact ⟨_,rfl⟩
           |slice=>exact ⟨_,rfl⟩
          have hoc:∀X:World,X.heap=W.heap->∃arr',(Builtin.firstCells size len (.slice b len c)).run P X=.ok arr' X/\VRels ι old arr'.toList:=fun X hX=>firstCellsL_rel (h.drew hX) hsv hold;obtain ⟨oa,ho1,ho2⟩:=hoc W rfl;have hsame:∀X:World,X.heap=W.heap->(Builtin.firstCells size len (.slice b len c)).run P X=.ok oa X:=by
           intro X hX;cases b with
           |none=>simp only [Builtin.firstCells,Sem.run_pure] at ho1 |-;cases ho1;rfl
           |some b=>
            obtain ⟨arr',q1,_⟩:=hoc X hX;rw [q1];congr 1;have key:∀(Y:World) (ar:Array Value),Y.heap=W.heap->(Builtin.firstCells size len (.slice (some b) len c)).run P Y=.ok ar Y->∀ar',(Builtin.firstCells size len (.slice (some b) len c)).run P W=.ok ar' W->ar=ar':=by
             intro Y ar hY q ar' q';have hcell:∀x,Y.cell? x=W.cell? x:=fun x=>by simp only [World.cell?,hY]
             have:∀(k i:Nat) (acc r r':Array Value),(loadCellsFrom b i k acc).run P Y=.ok r Y->(loadCellsFrom b i k acc).run P W=.ok r' W->r=r':=by
              intro k;induction k with
              |zero=>intro i acc r r' g g';simp [loadCellsFrom] at g g';rw [<-g,<-g']
              |succ k ih=>
               intro i acc r r' g g';simp only [loadCellsFrom,Sem.run_bind,run_load] at g g';rw [hcell] at g;cases hc:W.cell? (b.add i) with
               |some v=>
                rw [hc] at g g';simp only [Result.andThen_ok] at g g';exact ih _ _ _ _ g g'
               |none=>
                rw [hc] at g g';simp only at g g';have hfar:Y.farLoad P (b.add i) (Mode.plain==Mode.atomic)=W.farLoad P (b.add i) (Mode.plain==Mode.atomic):=by
                 simp only [World.farLoad,World.viewLoad,World.seen,World.noCell,hY]
                rw [hfar] at g;cases hf:W.farLoad P (b.add i) (Mode.plain==Mode.atomic) with
                |ok p=>
                 obtain ⟨p1,p2⟩:=p;rw [hf] at g g';simp only [Result.andThen_ok] at g g';exact ih _ _ _ _ g g'
                |error er=>rw [hf] at g;simp at g
             simp only [Builtin.firstCells] at q q';exact this _ _ _ _ _ q q'
            exact key X arr' hX q1 oa ho1
          have holdl:=firstCells_len hold;have hol:=ho2.len;have hrow:=hr;unfold newRow at hrow;split at hrow
          ·rename_i hac;cases hrow
           let capn:=len+n+W.tape W.drawn (.appendCap (len+n) c e)%(2 ^ 63-(len+n))
           have hcap:len+n<=capn:=Nat.le_add_right _ _;obtain ⟨κ,k1,k2,k3⟩:=newRow_more (h.drew (W':={ W with drawn:=W.drawn+1 }) rfl) (e:=e) hac (ho2.append hnew) (rest:=(Builtin.zeroCells zv.cells (capn-(len+n))).toList) .none (0,0) (.inl rfl) (hz1 _);refine ⟨κ,_,.slice (some ⟨W.heap.size,0,none⟩) (len+n) capn,?_,?_,k1,(On.drew (W:=W) (W':={ W with drawn:=W.drawn+1 }) rfl rfl rfl rfl).trans k2⟩
           ·rw [append_run hu hs hxt hb src ty at_ args h0 h1 g0 g1 hsmall hn hzrun (old:=oa) (fun _=>hsame),if_neg hfit,arr3]
           ·have hlen3:=hrest (capn-(len+n));have e1:(capn-(len+n))*size=capn*size-(len+n)*size:=Nat.sub_mul _ _ _;have e2:(len+n)*size=len*size+n*size:=Nat.add_mul _ _ _;have e3:(len+n)*size<=capn*size:=Nat.mul_le_mul_right _ hcap;have hoas:oa.size=len*size:=by have:oa.toList.length=oa.size:=Array.length_toList;omega
            have hars:arr.size=n*size:=by have:arr.toList.length=arr.size:=Array.length_toList;omega
            have hzcs:(Builtin.zeroCells zv.cells (capn-(len+n))).size=(capn-(len+n))*size:=by
             have:(Builtin.zeroCells zv.cells (capn-(len+n))).toList.length=(Builtin.zeroCells zv.cells (capn-(len+n))).size:=Array.length_toList;omega
            refine .free ⟨_,k3,hsz,hcap,by simp;omega,by simp;omega,.inl ⟨by simp,by simp,?_⟩⟩;simp only [List.length_append,Array.length_toList]
            push_cast
            omega
          ·cases hrow
         ·cases ha
        ·cases ha
      ·
       rename_i sz;split at ha
       ·cases ha
       ·rename_i a;split at ha
        ·cases ha
        ·rename_i hq;simp only [Bool.not_eq_true',Bool.not_eq_false] at hq
         replace hq:=Nat.eq_of_beq_eq_true hq
         subst hq;cases hsv with |@free _ b _ c _ hf=>
         have hf':=hf;obtain ⟨l,hl,_,hlc,hver,htot,hcase⟩:=hf';have e2:(len+n)*sz=len*sz+n*sz:=Nat.add_mul _ _ _;have hnsz:0<n*sz:=Nat.mul_pos hn hsz;split at ha
         ·
          rename_i hin;rw [Nat.ble_eq] at hin;rcases hcase with ⟨hb0,rfl,hct⟩ |⟨_,_,hct⟩
          ·have hfit:len+n<=c:=by
            have:(len+n)*sz<=c*sz:=by omega
            exact Nat.le_of_mul_le_mul_right this hsz
           unfold appendHere at ha;split at ha
           ·rename_i H1 hst;cases ha;have hp:PRel ι a ⟨l.blk,((a.off:Int)+l.sh).toNat,none⟩:=⟨l,hl,hb0,rfl⟩;obtain ⟨X,x1,x2,x3⟩:=store_rel (P:=P) h (hp.add (len*sz)) hnew hst;refine ⟨ι,X,.slice (some _) (len+n) c,?_,.free ⟨l,hl,hsz,hfit,hin,htot,.inl ⟨hb0,rfl,hct⟩⟩,x2,x3⟩;rw [append_run hu hs hxt hb src ty at_ args h0 h1 g0 g1 hsmall hn hzrun (old:=#[]) (fun hc=>by omega),if_pos hfit];simp only [x1,Result.andThen_ok]
           ·cases ha
          ·omega
         ·
          rename_i hin;rw [Nat.ble_eq] at hin;unfold appendEnd at ha;split at ha
          ·rename_i cs el ver minv fz hg;split at ha
           ·rename_i hc;simp only [Bool.and_eq_true] at hc;obtain ⟨⟨⟨⟨c1,hel⟩,c2⟩,c3⟩,c4⟩:=hc
            replace hel:=Nat.eq_of_beq_eq_true hel
            replace c1:=Nat.eq_of_beq_eq_true c1
            replace c2:=Nat.eq_of_beq_eq_true c2
            cases ha;have hl':=hl;rw [c1] at hl';obtain ⟨hlen,hm,hallc,_,_,h6,_⟩:=cells_of_get h hl' hg;obtain ⟨cc,fr,hC⟩:=(h6 _ _ hl').2 hm;by_cases hfit:len+n<=c
            ·
             rcases hcase with ⟨hb0,rfl,hct⟩ |⟨hl0,hc0,hct⟩
             ·have hroom:(len+n)*sz<=c*sz:=Nat.mul_le_mul_right _ hfit;have e3:((ver:Int)+l.sh).toNat=((a.off:Int)+l.sh).toNat+len*sz:=by omega
              have ctot:=hC.tot;obtain ⟨c',s1,s2,s3⟩:=run_storeCells (P:=P) (k:=l.blk) (o:=((ver:Int)+l.sh).toNat) (e:=el) (fr:=fr) arr.toList 0 W cc hC.here (hnew.oneCell c4) (by omega)
               (fun j hj=>by
                 have:=apart_spec (hC.fz rfl) c3 j (by omega) (by omega) (by omega);simpa using this) (by intro hv;rw [hv] at hasz;simp at hasz;omega)
              have s2':∀j,c'[j]? =if ((ver:Int)+l.sh).toNat<=j/\j<((ver:Int)+l.sh).toNat+arr.toList.length then arr.toList[j-((ver:Int)+l.sh).toNat]? else cc[j]? :=by
               intro j;have:=s2 j;simpa using this
              obtain ⟨q1,q2⟩:=h.extend (lo:=ver) hl' hg hnewne c4 (by omega) (Int.le_refl _) (fun _=>trivial) hC.here s1 (by omega) hnew s2';refine ⟨_,_,.slice (some _) (len+n) c,?_,.free ⟨l,?_,hsz,hfit,by simp;omega,by simp;omega,.inl ⟨hb0,rfl,hct⟩⟩,q1,q2⟩
              ·rw [append_run hu hs hxt hb src ty at_ args h0 h1 g0 g1 hsmall hn hzrun (old:=#[]) (fun hc=>by omega),if_pos hfit];simp only [addr_add];rw [<-e3,s3];rfl
              ·exact Gh.add_self _ _ _ _
             ·omega
            ·
             have hoff:a.off<=ver:=by omega
             have hloadN:loadN H a (len*sz)=some (cs.drop a.off):=by
              unfold loadN;rw [hg];simp only;rw [if_pos (by simp only [Bool.and_eq_true,Nat.ble_eq];omega),dropN_eq,takeN_of _ _ (by simp;omega)];rw [List.take_of_length_le (by simp;omega)]
             have hold:firstCellsL H sz len (.slice (some a) len (.free sz))=some (cs.drop a.off):=by
              show (if Nat.ble len len then loadN H a (len*sz) else none)=_;rw [if_pos (by simp),hloadN]
             obtain ⟨oa,ho1,ho2⟩:=firstCellsL_rel (P:=P) h (.free hf) hold;have hsame:∀X:World,X.heap=W.heap->(Builtin.firstCells sz len (.slice (some b) len c)).run P X=.ok oa X:=by
              intro X hX;by_cases hz0:len*sz=0
              ·simp only [Builtin.firstCells,hz0,loadCells,loadCellsFrom,Sem.run_pure] at ho1 |-;cases ho1;rfl
              ·have hl0:0<len:=by
                rcases Nat.eq_zero_or_pos len with e |e
                ·subst e;simp at hz0
                ·exact e
               have hp:=PRel.of_free hf hl0;obtain ⟨vs,v1,v2,_,v4⟩:=load_rel h hp hloadN;have r1:=run_loadCells_list (P:=P) W b vs v4;have r2:=run_loadCells_list (P:=P) X b vs (fun j v hv=>by
                have:=v4 j v hv;simp only [World.cell?,hX] at this |-;exact this)
               rw [v2] at r1 r2;simp only [Builtin.firstCells,r1] at ho1;cases ho1;simp only [Builtin.firstCells,r2]
             have hol:=ho2.len
             let capn:=len+n+W.tape W.drawn (.appendCap (len+n) c e)%(2 ^ 63-(len+n))
             have hcap:len+n<=capn:=Nat.le_add_right _ _;obtain ⟨q1,q2⟩:=(h.drew (W':={ W with drawn:=W.drawn+1 }) rfl).regrow hl' hg hnewne c4 hoff (rest:=(Builtin.zeroCells zv.cells (capn-(len+n))).toList) ho2 hnew (hz1 _);have hlen3:=hrest (capn-(len+n));have e1:(capn-(len+n))*sz=capn*sz-(len+n)*sz:=Nat.sub_mul _ _ _;have e3:(len+n)*sz<=capn*sz:=Nat.mul_le_mul_right _ hcap;have hoas:oa.size=len*sz:=by
              have:oa.toList.length=oa.size:=Array.length_toList;simp only [List.length_drop] at hol;omega
             have hars:arr.size=n*sz:=by have:arr.toList.length=arr.size:=Array.length_toList;omega
             have hzcs:(Builtin.zeroCells zv.cells (capn-(len+n))).size=(capn-(len+n))*sz:=by
              have:(Builtin.zeroCells zv.cells (capn-(len+n))).toList.length=(Builtin.zeroCells zv.cells (capn-(len+n))).size:=Array.length_toList;omega
             refine ⟨_,_,.slice (some ⟨W.heap.size,0,none⟩) (len+n) capn,?_,.free ⟨_,Gh.add_self _ _ _ _,hsz,hcap,by simp;omega,?_,.inl ⟨by simp only [];omega,?_,?_⟩⟩,q1,(On.drew (W:=W) (W':={ W with drawn:=W.drawn+1 }) rfl rfl rfl rfl).trans q2⟩
             ·rw [append_run hu hs hxt hb src ty at_ args h0 h1 g0 g1 hsmall hn hzrun (old:=oa) (fun _=>hsame),if_neg hfit,arr3,hel]
             ·simp only [List.length_append,Array.length_toList];push_cast;omega
             ·congr 1;simp;omega
             ·simp only [List.length_append,Array.length_toList];push_cast;omega
           ·cases ha
          ·cases ha
 ·cases ha
end Go.Lm
