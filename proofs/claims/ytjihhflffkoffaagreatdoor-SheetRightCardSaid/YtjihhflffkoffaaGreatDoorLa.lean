/- The machine beside the model: definitions, base laws, how its values and memory stand to the model; no condition. -/
import GoSem.Step
import Derived.Laws.Sem
import Derived.Laws.Cells
import Derived.Below
set_option linter.unusedSimpArgs false
set_option linter.unusedVariables false
set_option linter.unusedSectionVars false
set_option linter.unnecessarySimpa false
/- A machine of its own beside the model's: values and memory by name, every choice that the model leaves open left out. Definitions alone. -/
namespace Go.Lm
structure LAddr where
 id:Nat
 ver:Nat
 off:Nat
 deriving Inhabited
inductive Cap where
 |exact (n:Nat)
 |free (sz:Nat)
 deriving Inhabited
inductive LV where
 |junk
 |lost
 |bool (b:Bool)
 |int (k:IntKind) (n:Int)
 |str (s:List UInt8)
 |ptr (a:Option LAddr)
 |slice (a:Option LAddr) (len:Nat) (cap:Cap)
 |map (r:Option Nat)
 |func (fn:Fn) (first captured:List LV)
 |nilFunc
 |iface (t:TypeId) (v:LV)
 |nilIface
 |agg (cs:List LV)
 |tuple (vs:List LV)
 deriving Inhabited
def LV.cells:LV->List LV
 | .agg cs=>cs
 |v=>[v]
def LV.undef:LV:=.tuple []
def LV.isCell:LV->Bool
 | .agg _ | .tuple _ | .lost=>false
 |_=>true
def mapO{α β:Type}(f:α->Option β):List α->Option (List β)
 |[]=>some []
 |a::l=>match f a with
  |none=>none
  |some b=>match mapO f l with
   |none=>none
   |some bs=>some (b::bs)
def toLV:Nat->Value->Option LV
 |0,_=>none
 |_+1,.bool b=>some (.bool b)
 |_+1,.int k n=>some (.int k n)
 |_+1,.string s=>some (.str s.data.toList)
 |_+1,.pointer none=>some (.ptr none)
 |_+1,.slice none 0 0=>some (.slice none 0 (.exact 0))
 |_+1,.map none=>some (.map none)
 |_+1,.nilFunc=>some .nilFunc
 |_+1,.nilIface=>some .nilIface
 |n+1,.agg cs=>(mapO (toLV n) cs.toList).map .agg
 |n+1,.tuple cs=>(mapO (toLV n) cs.toList).map .tuple
 |_+1,_=>none
def sameFn:Fn->Fn->Bool
 | .func f,.func g=>Nat.beq f g
 | .yield f,.yield g=>Nat.beq f g
 |_,_=>false
mutual
def LV.beq:LV->LV->Bool
 | .bool a,.bool b=>a==b
 | .int k a,.int j b=>k==j&&a==b
 | .str a,.str b=>a==b
 | .ptr none,.ptr none=>true
 | .ptr (some a),.ptr (some b)=>Nat.beq a.id b.id&&Nat.beq a.ver b.ver&&Nat.beq a.off b.off
 | .slice none m (.exact c),.slice none n (.exact d)=>Nat.beq m n&&Nat.beq c d
 | .slice none m (.free c),.slice none n (.free d)=>Nat.beq m n&&Nat.beq c d
 | .slice (some a) m (.exact c),.slice (some b) n (.exact d)=>Nat.beq a.id b.id&&Nat.beq a.ver b.ver&&Nat.beq a.off b.off&&Nat.beq m n&&Nat.beq c d
 | .slice (some a) m (.free c),.slice (some b) n (.free d)=>Nat.beq a.id b.id&&Nat.beq a.ver b.ver&&Nat.beq a.off b.off&&Nat.beq m n&&Nat.beq c d
 | .map none,.map none=>true
 | .map (some a),.map (some b)=>Nat.beq a b
 | .func f a c,.func g b d=>sameFn f g&&beqs a b&&beqs c d
 | .nilFunc,.nilFunc=>true
 | .iface t v,.iface u w=>Nat.beq t u&&v.beq w
 | .nilIface,.nilIface=>true
 | .agg a,.agg b=>beqs a b
 | .tuple a,.tuple b=>beqs a b
 |_,_=>false
def beqs:List LV->List LV->Bool
 |[],[]=>true
 |a::l,b::m=>a.beq b&&beqs l m
 |_,_=>false
end
structure LEntry where
 key:LV
 val:LV
 born:Nat
 deriving Inhabited
inductive LTarget where
 |fn (fn:Fn) (captured:List LV)
 |collected (r:Nat)
 deriving Inhabited
structure LDef where
 target:LTarget
 args:List LV
 deriving Inhabited
structure LLoop where
 state:LoopState
 pending:Option Code
 fn:FuncId
 tmps:List LV
 params:Array Tmp
 assign:Code
 body:Code
 defers:Nat
inductive FZ where
 |none
 |range (lo hi:Nat)
 |mark
 deriving Inhabited
inductive LObj where
 |cells (cs:List LV) (elem:TypeId) (ver minv:Nat) (fz:FZ) (ro:Bool) (whole:Bool)
 |map (es:List LEntry) (clock:Nat)
 |stringIter (s:List UInt8) (pos:Nat)
 |mapIter (m:Option Nat) (since:Nat) (seen:List Nat) (stepped:Nat)
 |loop (l:LLoop)
 |deferred (calls:Option (List LDef))
inductive Tree (α:Type) where
 |leaf
 |node (l:Tree α) (v:Option α) (r:Tree α)
def Tree.get{α:Type}:Tree α->Nat->Option α
 | .leaf,_=>none
 | .node _ v _,0=>v
 | .node l _ r,k+1=>match k%2 with
  |0=>l.get (k / 2)
  |_=>r.get (k / 2)
def Tree.set{α:Type}:Nat->Tree α->Nat->α->Tree α
 |0,t,_,_=>t
 |_+1,.leaf,0,a=>.node .leaf (some a) .leaf
 |f+1,.leaf,k+1,a=>match k%2 with
  |0=>.node (Tree.set f .leaf (k / 2) a) none .leaf
  |_=>.node .leaf none (Tree.set f .leaf (k / 2) a)
 |_+1,.node l _ r,0,a=>.node l (some a) r
 |f+1,.node l v r,k+1,a=>match k%2 with
  |0=>.node (Tree.set f l (k / 2) a) v r
  |_=>.node l v (Tree.set f r (k / 2) a)
structure LHeap where
 next:Nat
 tree:Tree LObj
def LHeap.get(H:LHeap)(i:Nat):Option LObj:=H.tree.get i
def LHeap.put(H:LHeap)(i:Nat)(o:LObj):LHeap:=⟨H.next,H.tree.set (i+1) i o⟩
def LHeap.push(H:LHeap)(o:LObj):LHeap:=⟨H.next+1,H.tree.set (H.next+1) H.next o⟩
inductive LNext where
 |value (v:LV)
 |enter (f:FuncId) (args:List LV)
 |defer (d:LDef)
 |recover
 |panic (v:LV)
 |round (l:Nat) (f:FuncId) (tmps:List LV) (assign body:Code)
inductive Ext where
 |noEscape |indexByte |countByte |cmpStr |overlaps (t:TypeId) |makeNoZero (t:TypeId) |mapsClone |add64 |sub64
 deriving Inhabited,DecidableEq
structure Cfg where
 P:Program
 glob:Nat->LV
 ext:FuncId->Option Ext
 orc:FuncId->Option (List LV->Option LV)
def takeN{α:Type}:Nat->List α->Option (List α)
 |0,_=>some []
 |_+1,[]=>none
 |n+1,a::l=>(takeN n l).map (a::·)
def dropN{α:Type}:Nat->List α->List α
 |0,l=>l
 |_+1,[]=>[]
 |n+1,_::l=>dropN n l
def nth{α:Type}:List α->Nat->Option α
 |[],_=>none
 |a::_,0=>some a
 |_::l,n+1=>nth l n
def over{α:Type}:Nat->List α->List α->Option (List α)
 |0,l,[]=>some l
 |0,[],_::_=>none
 |0,_::l,v::vs=>(over 0 l vs).map (v::·)
 |_+1,[],_=>none
 |n+1,a::l,vs=>(over n l vs).map (a::·)
def loadN(H:LHeap)(a:LAddr)(n:Nat):Option (List LV):=
 match H.get a.id with
 |some (.cells cs _ _ minv _ _ _)=>if Nat.ble minv a.ver&&Nat.ble (a.off+n) a.ver then takeN n (dropN a.off cs) else none
 |_=>none
def load1(H:LHeap)(a:LAddr):Option LV:=
 match H.get a.id with
 |some (.cells cs _ _ minv _ _ _)=>if Nat.ble minv a.ver&&Nat.ble (a.off+1) a.ver then nth cs a.off else none
 |_=>none
def FZ.apart(fz:FZ)(off n:Nat):Bool:=
 match fz with
 | .range lo hi=>Nat.ble (off+n) lo||Nat.ble hi off
 |_=>true
def allCells:List LV->Bool
 |[]=>true
 |v::l=>v.isCell&&allCells l
def storeN(H:LHeap)(a:LAddr)(vs:List LV):Option LHeap:=
 match vs with
 |[]=>some H
 |_::_=>match H.get a.id with
  |some (.cells cs e ver _ fz ro wh)=>
   if Nat.beq a.ver ver&& !ro&&fz.apart a.off vs.length&&allCells vs then
    match over a.off cs vs with
    |some cs'=>some (H.put a.id (.cells cs' e ver ver fz ro wh))
    |none=>none
   else none
  |_=>none
section
variable (P:Program)
def sizeOfT(t:TypeId):Option Nat:=(P.info? t).map (·.size)
def bytesOfT(t:TypeId):Option Nat:=(P.info? t).map (·.bytes)
def zeroOf(t:TypeId):Option LV:=match P.info? t with
 |some i=>match i.zero with
  |some z=>toLV 20 z
  |none=>none
 |none=>none
def isAggT(t:TypeId):Option Bool:=match P.underlying t with
 |some (.struct _) |some (.array _ _)=>some true
 |some _=>some false
 |none=>none
def loadT(H:LHeap)(t:TypeId)(a:LAddr):Option LV:=
 match isAggT P t with
 |some true=>match sizeOfT P t with
  |some n=>(loadN H a n).map .agg
  |none=>none
 |some false=>load1 H a
 |none=>none
def storeT(H:LHeap)(t:TypeId)(a:LAddr)(v:LV):Option LHeap:=
 match sizeOfT P t with
 |some n=>if Nat.beq v.cells.length n then storeN H a v.cells else none
 |none=>none
def newRow(H:LHeap)(e:TypeId)(cs:List LV)(whole:Bool):Option (LAddr×LHeap):=
 if allCells cs then some (⟨H.next,cs.length,0⟩,H.push (.cells cs e cs.length cs.length .none false whole)) else none
def partT(t:TypeId)(cs:List LV)(off:Nat):Option LV:=
 match isAggT P t with
 |some true=>match sizeOfT P t with
  |some n=>(takeN n (dropN off cs)).map .agg
  |none=>none
 |some false=>nth cs off
 |none=>none
def repl{α:Type}:Nat->List α->List α->List α
 |0,_,acc=>acc
 |n+1,z,acc=>repl n z (z++acc)
def fillL(place:Nat->Option (Nat×Nat))(cells:List LV):List (Nat×LV)->Option (List LV)
 |[]=>some cells
 |(i,v)::rest=>
  match place i with
  |none=>none
  |some (off,size)=>
   if Nat.beq v.cells.length size&&allCells v.cells then
    match over off cells v.cells with
    |some cs=>fillL place cs rest
    |none=>none
   else none
def fieldOf(t:TypeId)(i:Nat):Option Field:=
 match P.underlying t with
 |some (.struct fs)=>fs[i]?
 |_=>none
def buildL(t:TypeId)(parts:List (Nat×LV)):Option LV:=
 match zeroOf P t with
 |none=>none
 |some z=>
  match P.underlying t with
  |some (.struct fs)=>
   match mapO (fun f=>(P.info? f.type).map fun i=>(f.offset,i.size)) fs.toList with
   |some places=>(fillL (nth places) z.cells parts).map .agg
   |none=>none
  |some (.array _ e)=>match sizeOfT P e with
   |some n=>(fillL (fun i=>some (i*n,n)) z.cells parts).map .agg
   |none=>none
  |_=>none
def elemOfSlice(t:TypeId):Option TypeId:=
 match P.underlying t with
 |some (.slice e)=>some e
 |_=>none
def buildSliceL(H:LHeap)(t:TypeId)(len:Nat)(parts:List (Nat×LV)):Option (LV×LHeap):=
 match elemOfSlice P t with
 |none=>none
 |some e=>match len,parts with
  |0,[]=>match sizeOfT P e,newRow H e [] true with
   |some _,some (a,H')=>some (.slice (some a) 0 (.exact 0),H')
   |_,_=>none
  |_,_=>match sizeOfT P e,zeroOf P e with
  |some n,some z=>
   if Nat.ble (len*n) 16777216&&Nat.ble 1 (len*n)&&Nat.beq z.cells.length n then
    match fillL (fun i=>some (i*n,n)) (repl len z.cells []) parts with
    |some cs=>match newRow H e cs true with
     |some (a,H')=>some (.slice (some a) len (.exact len),H')
     |none=>none
    |none=>none
   else none
  |_,_=>none
def lwrap(k:IntKind)(n:Int):Int:=
 match k,n with
 | .i64,.ofNat m=>if Nat.ble m 9223372036854775807 then n else k.wrap n
 | .i64,.negSucc m=>if Nat.ble m 9223372036854775807 then n else k.wrap n
 | .u8,.ofNat m=>if Nat.ble m 255 then n else k.wrap n
 | .i32,.ofNat m=>if Nat.ble m 2147483647 then n else k.wrap n
 | .u64,.ofNat m=>if Nat.ble m 18446744073709551615 then n else k.wrap n
 |_,_=>k.wrap n
def intBin(op:BinOp)(k:IntKind)(x y:Int):Option LV:=
 match op with
 | .add=>some (.int k (lwrap k (x+y)))
 | .sub=>some (.int k (lwrap k (x-y)))
 | .mul=>some (.int k (lwrap k (x*y)))
 | .quo=>if y==0 then none else some (.int k (lwrap k (x.tdiv y)))
 | .rem=>if y==0 then none else some (.int k (x.tmod y))
 | .and=>some (.int k (k.wrap ((BitVec.ofInt k.bits x &&& BitVec.ofInt k.bits y).toNat)))
 | .or=>some (.int k (k.wrap ((BitVec.ofInt k.bits x |||BitVec.ofInt k.bits y).toNat)))
 | .xor=>some (.int k (k.wrap ((BitVec.ofInt k.bits x ^^^ BitVec.ofInt k.bits y).toNat)))
 | .andNot=>some (.int k (k.wrap ((BitVec.ofInt k.bits x &&& ~~~(BitVec.ofInt k.bits y)).toNat)))
 | .eql=>some (.bool (x==y))
 | .neq=>some (.bool (x != y))
 | .lss=>some (.bool (decide (x<y)))
 | .leq=>some (.bool (decide (x<=y)))
 | .gtr=>some (.bool (decide (x>y)))
 | .geq=>some (.bool (decide (x>=y)))
 |_=>none
def shiftBin(op:BinOp)(k:IntKind)(x y:Int):Option LV:=
 if y<0 then none else
 match op with
 | .shl=>some (.int k (lwrap k (x*2 ^ (min y.toNat k.bits))))
 | .shr=>some (.int k (x.fdiv (2 ^ (min y.toNat k.bits))))
 |_=>none
def strBin(op:BinOp)(x y:List UInt8):Option LV:=
 match op with
 | .add=>if Nat.ble (x.length+y.length) 4611686018427387904 then some (.str (x++y)) else none
 | .eql=>some (.bool (x==y))
 | .neq=>some (.bool (!(x==y)))
 | .lss=>some (.bool (Op.bytesLess x y))
 | .leq=>some (.bool (Op.bytesLess x y||x==y))
 | .gtr=>some (.bool (!(Op.bytesLess x y||x==y)))
 | .geq=>some (.bool (!(Op.bytesLess x y)))
 |_=>none
def eqL:Nat->TypeId->LV->LV->Option Bool
 |0,_,_,_=>none
 |n+1,t,x,y=>
  match P.underlying t with
  |none=>none
  |some d=>match d,x,y with
   | .bool,.bool a,.bool b=>some (a==b)
   | .int _,.int k a,.int j b=>if k==j then some (a==b) else none
   | .string,.str a,.str b=>some (a==b)
   | .pointer _,.ptr none,.ptr b=>some b.isNone
   | .pointer _,.ptr (some _),.ptr none=>some false
   | .pointer e,.ptr (some a),.ptr (some b)=>
    match sizeOfT P e with
    |some (_+1)=>if Nat.beq a.id b.id&&Nat.beq a.ver b.ver then some (Nat.beq a.off b.off) else none
    |_=>none
   | .interface _,.nilIface,.nilIface=>some true
   | .interface _,.nilIface,.iface _ _=>some false
   | .interface _,.iface _ _,.nilIface=>some false
   | .interface _,.iface tx vx,.iface ty vy=>
    if Nat.beq tx ty then
     match P.info? tx with
     |some i=>if i.comparable then eqL n tx vx vy else none
     |none=>none
    else some false
   | .struct fs,.agg xs,.agg ys=>
    if P.stoodInHeld t then none else eqFields n (fun f u v=>eqL n f u v) fs.toList xs ys
   | .slice _,.slice none _ _,.slice b _ _=>some b.isNone
   | .slice _,.slice (some _) _ _,.slice none _ _=>some false
   | .map _ _,.map none,.map b=>some b.isNone
   | .map _ _,.map (some _),.map none=>some false
   | .func _ _ _,.nilFunc,.nilFunc=>some true
   | .func _ _ _,.nilFunc,.func _ _ _=>some false
   | .func _ _ _,.func _ _ _,.nilFunc=>some false
   |_,_,_=>none
where
 eqFields (n:Nat) (f:TypeId->LV->LV->Option Bool):List Field->List LV->List LV->Option Bool
 |[],_,_=>some true
 |fd::fs,xs,ys=>
  if fd.name== "_" then none else
  match partT P fd.type xs fd.offset,partT P fd.type ys fd.offset with
  |some x,some y=>match f fd.type x y with
   |some true=>eqFields n f fs xs ys
   |some false=>some false
   |none=>none
  |_,_=>none
def aggOk(t:TypeId)(x y:LV)(cx cy:Bool):Bool:=
 match x,y with
 | .nilIface,.nilIface=>cx||cy
 | .agg _,.agg _=> !(P.eqGuardType P.depth t)
 |_,_=>true
def isConstO:Operand->Bool
 | .const _=>true
 |_=>false
def binL(op:BinOp)(t:TypeId)(x y:LV)(cx cy:Bool):Option LV:=
 match x,y with
 | .int k a,.int j b=>match op with
  | .shl | .shr=>shiftBin op k a b
  |_=>if k==j then intBin op k a b else none
 | .str a,.str b=>strBin op a b
 |_,_=>match op with
  | .eql=>if aggOk P t x y cx cy then (eqL P 50 t x y).map .bool else none
  | .neq=>if aggOk P t x y cx cy then (eqL P 50 t x y).map fun b=>.bool (!b) else none
  |_=>none
def unL(op:UnOp)(x:LV):Option LV:=
 match op,x with
 | .neg,.int k n=>some (.int k (lwrap k (0-n)))
 | .xor,.int k n=>some (.int k (k.wrap ((BitVec.ofInt k.bits (if k.signed then -1 else k.max) ^^^ BitVec.ofInt k.bits n).toNat)))
 | .not,.bool b=>some (.bool (!b))
 |_,_=>none
def bound(x:LV)(y:Nat):Option Nat:=
 match x with
 | .int _ n=>match n with
  | .ofNat m=>if Nat.ble m y then some m else none
  | .negSucc _=>none
 |_=>none
def boundO(x:Option LV)(y d:Nat):Option Nat:=
 match x with
 |none=>some d
 |some v=>bound v y
def sliceStr(s:List UInt8)(lo hi:Option LV):Option LV:=
 match boundO hi s.length s.length with
 |none=>none
 |some h=>match boundO lo h 0 with
  |none=>none
  |some l=>(takeN (h-l) (dropN l s)).map .str
def sliceExact(a:Option LAddr)(len cap size:Nat)(lo hi mx:Option LV):Option LV:=
 match boundO mx cap cap with
 |none=>none
 |some m=>
  if hi.isNone&&mx.isSome then none else
  match boundO hi m len with
  |none=>none
  |some h=>match boundO lo h 0 with
   |none=>none
   |some l=>some (.slice (if Nat.beq m l then a else a.map fun a=>{ a with off:=a.off+l*size }) (h-l) (.exact (m-l)))
def mostOf(a:LAddr)(len sz:Nat):Nat:=
 match len with
 |0=>0
 |_+1=>(a.ver-a.off) / sz
def sliceFree3(a:LAddr)(len sz:Nat)(lo:Option LV)(hi mx:LV):Option LV:=
 match bound mx (mostOf a len sz) with
 |none=>none
 |some m=>match bound hi m with
  |none=>none
  |some h=>match boundO lo h 0 with
   |none=>none
   |some l=>some (.slice (some (if Nat.beq m l then a else { a with off:=a.off+l*sz })) (h-l) (.exact (m-l)))
def sliceFree2(a:LAddr)(len sz:Nat)(lo hi:Option LV):Option LV:=
 match boundO hi (mostOf a len sz) len with
 |none=>none
 |some h=>match boundO lo h 0 with
  |none=>none
  |some l=>some (.slice (some { a with off:=a.off+l*sz }) (h-l) (.free sz))
def sliceFree(a:LAddr)(len sz:Nat)(lo hi mx:Option LV):Option LV:=
 match mx,hi with
 |some m,some h=>sliceFree3 a len sz lo h m
 |some _,none=>none
 |none,_=>sliceFree2 a len sz lo hi
def sliceL(t:TypeId)(x:LV)(lo hi mx:Option LV):Option LV:=
 match P.underlying t with
 |none=>none
 |some d=>match d,x with
  | .string,.str s=>if mx.isSome then none else sliceStr s lo hi
  | .slice e,.slice a len (.exact c)=>match sizeOfT P e with
   |some n=>sliceExact a len c n lo hi mx
   |none=>none
  | .slice e,.slice (some a) len (.free sz)=>match sizeOfT P e with
   |some n=>if Nat.beq n sz&&Nat.ble 1 sz then sliceFree a len sz lo hi mx else none
   |none=>none
  | .array n e,.ptr (some a)=>if mx.isSome then none else match sizeOfT P e with
   |some z=>sliceExact (some a) n n z lo hi none
   |none=>none
  |_,_=>none
def indexAddrL(t:TypeId)(x i:LV):Option LV:=
 match i with
 | .int _ (.ofNat m)=>
  match P.underlying t with
  |none=>none
  |some d=>match d,x with
   | .array n e,.ptr (some a)=>match sizeOfT P e with
    |some z=>if Nat.ble (m+1) n then some (.ptr (some { a with off:=a.off+m*z })) else none
    |none=>none
   | .slice e,.slice (some a) n _=>match sizeOfT P e with
    |some z=>if Nat.ble (m+1) n then some (.ptr (some { a with off:=a.off+m*z })) else none
    |none=>none
   |_,_=>none
 |_=>none
def indexL(t:TypeId)(x i:LV):Option LV:=
 match i with
 | .int _ (.ofNat m)=>
  match P.underlying t with
  |none=>none
  |some d=>match d,x with
   | .array n e,.agg cs=>match sizeOfT P e with
    |some z=>if Nat.ble (m+1) n then partT P e cs (m*z) else none
    |none=>none
   | .string,.str s=>match nth s m with
    |some b=>some (.int .u8 b.toNat)
    |none=>none
   |_,_=>none
 |_=>none
def fieldAddrL(t:TypeId)(x:LV)(i:Nat):Option LV:=
 match x with
 | .ptr (some a)=>match fieldOf P t i with
  |some f=>match sizeOfT P f.type with
   |some (_+1)=>some (.ptr (some { a with off:=a.off+f.offset }))
   |_=>none
  |none=>none
 |_=>none
def fieldL(t:TypeId)(x:LV)(i:Nat):Option LV:=
 match x with
 | .agg cs=>match fieldOf P t i with
  |some f=>partT P f.type cs f.offset
  |none=>none
 |_=>none
def firstCellsL(H:LHeap)(size n:Nat)(x:LV):Option (List LV):=
 match x with
 | .slice (some a) m _=>if Nat.ble n m then loadN H a (n*size) else none
 | .slice none _ _=>if Nat.beq n 0 then some [] else none
 | .str s=>if Nat.beq size 1 then (takeN n s).map fun l=>l.map fun b=>.int .u8 b.toNat else none
 |_=>none
def lenL(x:LV):Option Nat:=
 match x with
 | .slice _ n _=>some n
 | .str s=>some s.length
 |_=>none
def growL(H:LHeap)(e:TypeId)(old new:List LV)(size need:Nat):Option (LV×LHeap):=
 match newRow H e (old++new) false with
 |some (a,H')=>some (.slice (some a) need (.free size),H')
 |none=>none
def appendHere(H:LHeap)(size:Nat)(a:LAddr)(len n:Nat)(cap:Cap)(new:List LV):Option (LV×LHeap):=
 match storeN H { a with off:=a.off+len*size } new with
 |some H'=>some (.slice (some a) (len+n) cap,H')
 |none=>none
def appendEnd(H:LHeap)(e:TypeId)(size:Nat)(a:LAddr)(len n:Nat)(new:List LV):Option (LV×LHeap):=
 match H.get a.id with
 |some (.cells cs el ver minv fz false false)=>
  if Nat.beq a.ver ver&&Nat.beq el e&&Nat.beq (a.off+len*size) ver&&fz.apart ver new.length&&allCells new then
   some (.slice (some { a with ver:=ver+new.length }) (len+n) (.free size),H.put a.id (.cells (cs++new) el (ver+new.length) minv fz false false))
  else none
 |_=>none
def appendCells(H:LHeap)(e:TypeId)(size bytes:Nat)(s:LV)(new:List LV)(n:Nat):Option (LV×LHeap):=
 match s with
 | .slice a len cap=>
  if Nat.beq n 0 then some (s,H) else
  if !(Nat.ble ((2*(len+n)+1000)*(bytes+1)) 140737488355328&&Nat.beq new.length (n*size)) then none else
  match zeroOf P e with
  |none=>none
  |some z=>
  if !(Nat.beq z.cells.length size&&allCells z.cells) then none else
  match cap with
  | .exact c=>
   if Nat.ble (len+n) c then
    match a with
    |some a=>appendHere H size a len n cap new
    |none=>none
   else match firstCellsL H size len s with
    |some old=>growL H e old new size (len+n)
    |none=>none
  | .free sz=>match a with
   |none=>none
   |some a=>
    if !(Nat.beq sz size) then none else
    if Nat.ble (a.off+(len+n)*size) a.ver then appendHere H size a len n cap new else appendEnd H e size a len n new
 |_=>none
def isIntT(t:TypeId):Bool:=match P.underlying t with
 |some (.int _)=>true
 |_=>false
def appendL(H:LHeap)(argTypes:List TypeId)(args:List LV):Option (LV×LHeap):=
 match argTypes,args with
 |st::xt,s::x::_=>match elemOfSlice P st with
  |none=>none
  |some e=>match sizeOfT P e,bytesOfT P e with
   |some (size+1),some bytes=>
    match xt with
    |xt::_=>
     if isIntT P xt then
      match x with
      | .int _ (.ofNat n)=>match zeroOf P e with
       |some z=>if Nat.ble n 1000000 then appendCells P H e (size+1) bytes s (repl n z.cells []) n else none
       |none=>none
      |_=>none
     else if (P.underlying xt).isNone then none else match lenL x with
      |some n=>match firstCellsL H (size+1) n x with
       |some new=>appendCells P H e (size+1) bytes s new n
       |none=>none
      |none=>none
    |[]=>none
   |_,_=>none
 |_,_=>none
def copyL(H:LHeap)(argTypes:List TypeId)(args:List LV):Option (LV×LHeap):=
 match argTypes,args with
 |dt::_,.slice a dl _::src::_=>match elemOfSlice P dt with
  |none=>none
  |some e=>match sizeOfT P e with
   |some (size+1)=>match lenL src with
    |some sl=>match firstCellsL H (size+1) (min sl dl) src with
     |some cs=>match a with
      |some a=>match storeN H a cs with
       |some H'=>some (.int .i64 (min sl dl:Nat),H')
       |none=>none
      |none=>some (.int .i64 (min sl dl:Nat),H)
     |none=>none
    |none=>none
   |_=>none
 |_,_=>none
def clearL(H:LHeap)(argTypes:List TypeId)(args:List LV):Option (LV×LHeap):=
 match argTypes,args with
 |t::_,x::_=>match P.underlying t with
  |some (.slice e)=>match x with
   | .slice none _ _=>some (.tuple [],H)
   | .slice (some a) n _=>match zeroOf P e with
    |some z=>match storeN H a (repl n z.cells []) with
     |some H'=>some (.tuple [],H')
     |none=>none
    |none=>none
   |_=>none
  |_=>none
 |_,_=>none
def LV.data:LV->Bool
 | .bool _ | .int _ _ | .str _=>true
 | .agg cs=>cells cs
 |_=>false
where
 cells:List LV->Bool
 |[]=>true
 | .bool _::l | .int _ _::l | .str _::l=>cells l
 |_::_=>false
def keyOk:Nat->TypeId->LV->Bool
 |0,_,_=>false
 |n+1,t,v=>match P.underlying t with
  |some d=>match d,v with
   | .struct fs,.agg cs=>fieldsOk (fun t x=>keyOk n t x) cs fs.toList
   | .bool,.bool _=>true
   | .int _,.int _ _=>true
   | .string,.str _=>true
   |_,_=>false
  |none=>false
where
 fieldsOk (f:TypeId->LV->Bool) (cs:List LV):List Field->Bool
 |[]=>true
 |fd::fs=> !(fd.name== "_")&&(match partT P fd.type cs fd.offset with
  |some x=>f fd.type x
  |none=>false)&&fieldsOk f cs fs
def findL(kt:TypeId)(k:LV):List LEntry->Nat->Option (Option (Nat×LEntry))
 |[],_=>some none
 |e::es,i=>match eqL P 50 kt k e.key with
  |some true=>some (some (i,e))
  |some false=>findL kt k es (i+1)
  |none=>none
def getMap(H:LHeap)(r:Nat):Option (List LEntry×Nat):=
 match H.get r with
 |some (.map es c)=>some (es,c)
 |_=>none
def entriesOf(H:LHeap)(x:LV):Option (List LEntry):=
 match x with
 | .map none=>some []
 | .map (some r)=>match getMap H r with
  |some (es,_)=>some es
  |none=>none
 |_=>none
def lookupL(H:LHeap)(t:TypeId)(x k:LV)(ok:Bool):Option LV:=
 match P.underlying t with
 |some (.map kt et)=>
  if !(keyOk P 20 kt k) then none else
  match entriesOf H x with
  |none=>none
  |some es=>match findL P kt k es 0 with
   |some (some (_,e))=>some (if ok then .tuple [e.val,.bool true] else e.val)
   |some none=>match zeroOf P et with
    |some z=>some (if ok then .tuple [z,.bool false] else z)
    |none=>none
   |none=>none
 |_=>none
def setNth{α:Type}:List α->Nat->α->List α
 |[],_,_=>[]
 |_::l,0,b=>b::l
 |a::l,n+1,b=>a::setNth l n b
def mapUpdateL(H:LHeap)(t:TypeId)(m k v:LV):Option LHeap:=
 match P.underlying t,m with
 |some (.map kt _),.map (some r)=>
  if !(keyOk P 20 kt k) then none else
  match getMap H r with
  |some (es,c)=>match findL P kt k es 0 with
   |some (some (i,e))=>if k.beq e.key&&k.data then some (H.put r (.map (setNth es i ⟨k,v,e.born⟩) c)) else none
   |some none=>some (H.put r (.map (es++[⟨k,v,c⟩]) (c+1)))
   |none=>none
  |none=>none
 |_,_=>none
def eraseNth{α:Type}:List α->Nat->List α
 |[],_=>[]
 |_::l,0=>l
 |a::l,n+1=>a::eraseNth l n
def deleteL(H:LHeap)(argTypes:List TypeId)(args:List LV):Option (LV×LHeap):=
 match argTypes,args with
 |t::_,m::k::_=>match P.underlying t with
  |some (.map kt _)=>
   if !(keyOk P 20 kt k) then none else
   match m with
   | .map none=>some (.tuple [],H)
   | .map (some r)=>match getMap H r with
    |some (es,c)=>match findL P kt k es 0 with
     |some (some (i,_))=>some (.tuple [],H.put r (.map (eraseNth es i) c))
     |some none=>some (.tuple [],H.put r (.map es c))
     |none=>none
    |none=>none
   |_=>none
  |_=>none
 |_,_=>none
def mapEntryL(H:LHeap)(t:TypeId)(m k:LV):Option (LV×LHeap):=
 match P.underlying t,m with
 |some (.map kt et),.map (some r)=>
  if !(keyOk P 20 kt k) then none else
  match getMap H r with
  |some (es,c)=>match findL P kt k es 0 with
   |some (some (i,e))=>if k.beq e.key&&k.data then some (.tuple [e.val,.int .i64 e.born],H.put r (.map (setNth es i ⟨k,e.val,e.born⟩) c)) else none
   |some none=>match zeroOf P et with
    |some z=>some (.tuple [z,.int .i64 c],H.put r (.map (es++[⟨k,z,c⟩]) (c+1)))
    |none=>none
   |none=>none
  |none=>none
 |_,_=>none
def bornAt(b:Nat):List LEntry->Nat->Option (Nat×LEntry)
 |[],_=>none
 |e::es,i=>if Nat.beq e.born b then some (i,e) else bornAt b es (i+1)
def entryStoreL(H:LHeap)(m st v:LV):Option LHeap:=
 match m,st with
 | .map (some r),.int _ (.ofNat b)=>match getMap H r with
  |some (es,c)=>match bornAt b es 0 with
   |some (i,e)=>some (H.put r (.map (setNth es i ⟨e.key,v,e.born⟩) c))
   |none=>none
  |none=>none
 |_,_=>none
def decodeL(l:List UInt8):Nat×Nat:=Utf8.decode ⟨l.toArray⟩ 0
def rangeL(H:LHeap)(t:TypeId)(x:LV):Option (LV×LHeap):=
 match P.underlying t with
 |none=>none
 |some d=>match d,x with
  | .string,.str s=>some (.ptr (some ⟨H.next,0,0⟩),H.push (.stringIter s 0))
  | .map _ _,.map none=>some (.ptr (some ⟨H.next,0,0⟩),H.push (.mapIter none 0 [] 0))
  | .map _ _,.map (some m)=>match getMap H m with
   |some (_,c)=>some (.ptr (some ⟨H.next,0,0⟩),H.push (.mapIter (some m) c [] c))
   |none=>none
  |_,_=>none
def memN(n:Nat):List Nat->Bool
 |[]=>false
 |m::l=>Nat.beq n m||memN n l
def nextL(H:LHeap)(it:LV)(isString:Bool):Option (List (LV×LHeap)):=
 match it with
 | .ptr (some ⟨r,0,0⟩)=>match H.get r,isString with
  |some (.stringIter s pos),true=>
   match dropN pos s with
   |[]=>some [(.tuple [.bool false],H)]
   |l@(_::_)=>match decodeL l with
    |(c,w)=>some [(.tuple [.bool true,.int .i64 pos,.int .i32 c],H.put r (.stringIter s (pos+w)))]
  |some (.mapIter none _ _ _),false=>some [(.tuple [.bool false],H)]
  |some (.mapIter (some m) since seen last),false=>match getMap H m with
   |some (es,clock)=>
    if !seen.isEmpty&& !es.isEmpty&&es.all (fun e=>Nat.ble last e.born) then none else
    let left:=es.filter fun e=> !(memN e.born seen)
    let old:=left.filter fun e=>Nat.ble (e.born+1) since
    let new:=left.filter fun e=>Nat.ble since e.born
    let go (e:LEntry):LV×LHeap:=(.tuple [.bool true,e.key,e.val],H.put r (.mapIter (some m) since (seen++[e.born]) clock))
    some ((match old with |[]=>[(.tuple [.bool false],H)] |_=>[])++(old++new).map go)
   |none=>none
  |_,_=>none
 |_=>none
def lastN:List Nat->Option Nat
 |[]=>none
 |[n]=>some n
 |_::l=>lastN l
def entryL(H:LHeap)(it:LV):Option LV:=
 match it with
 | .ptr (some ⟨r,0,0⟩)=>match H.get r with
  |some (.mapIter (some m) _ seen stepped)=>match lastN seen,getMap H m with
   |some stamp,some (es,clock)=>if Nat.beq clock stepped then match bornAt stamp es 0 with
     |some (_,e)=>some (.tuple [e.key,e.val])
     |none=>none
    else none
   |_,_=>none
  |_=>none
 |_=>none
def typeAssertL(x:LV)(asserted:TypeId)(ok:Bool):Option LV:=
 match P.underlying asserted with
 |none=>none
 |some d=>match d,x with
  | .interface want,.iface t _=>if want.isEmpty&&(P.info? t).isSome then some (if ok then .tuple [x,.bool true] else x) else none
  | .interface _,.nilIface=>if ok then match zeroOf P asserted with
    |some z=>some (.tuple [z,.bool false])
    |none=>none
   else none
  | .interface _,_=>none
  |_,.nilIface=>if ok then match zeroOf P asserted with
    |some z=>some (.tuple [z,.bool false])
    |none=>none
   else none
  |_,.iface t v=>if Nat.beq t asserted then some (if ok then .tuple [v,.bool true] else v)
   else if ok then match zeroOf P asserted with
    |some z=>some (.tuple [z,.bool false])
    |none=>none
   else none
  |_,_=>none
def bytesOfCells:List LV->Option (List UInt8)
 |[]=>some []
 | .int .u8 n::l=>(bytesOfCells l).map (UInt8.ofNat n.toNat::·)
 |_::_=>none
def convertL(H:LHeap)(src dst:TypeId)(x:LV):Option (LV×LHeap):=
 match P.underlying src,P.underlying dst with
 |some s,some d=>match s,d,x with
  |_,.int k,.int _ n=>some (.int k (lwrap k n),H)
  |_,.string,.int _ n=>some (.str (Utf8.encode n).data.toList,H)
  |_,.string,.str _=>some (x,H)
  |_,.slice e,.str s=>match P.underlying e with
   |some (.int .u8)=>if Nat.ble s.length 9223372036854775807 then
     some (.slice (some ⟨H.next,s.length,0⟩) s.length (.free 1),H.push (.cells (s.map fun b=>.int .u8 b.toNat) e s.length s.length .mark false false))
    else none
   |_=>none
  | .slice _,.slice e,.slice (some a) _ (.exact (_+1))=>match P.underlying e with
   |some (.int .u8)=>if Nat.beq src dst then match H.get a.id with
     |some (.cells cs el ver minv .none false true)=>if Nat.beq a.ver ver then some (x,H.put a.id (.cells cs el ver minv .mark false true)) else none
     |_=>none
    else none
   |_=>none
  | .slice e,.string,.slice a len _=>match P.underlying e with
   |some (.int .u8)=>match a with
    |none=>some (.str [],H)
    |some a=>match loadN H a len with
     |some cs=>match bytesOfCells cs with
      |some bs=>some (.str bs,H)
      |none=>none
     |none=>none
   |_=>none
  | .pointer _,.unsafePointer,.ptr none=>some (x,H)
  | .unsafePointer,.pointer _,.ptr none=>some (x,H)
  | .pointer t,.unsafePointer,.ptr (some a)=>match H.get a.id,sizeOfT P t with
   |some (.cells _ _ ver _ _ _ true),some (_+1)=>if Nat.beq a.ver ver&&Nat.ble (a.off+1) ver then some (x,H) else none
   |_,_=>none
  | .unsafePointer,.pointer u,.ptr (some a)=>match H.get a.id,sizeOfT P u with
   |some (.cells _ e ver _ _ _ true),some _=>if Nat.beq a.ver ver&&liesAt P P.depth e (ver / P.cellsOf e) a.off u 1 then some (x,H) else none
   |_,_=>none
  |_,_,_=>none
 |_,_=>none
def findByte(c:UInt8):List UInt8->Nat->Int
 |[],_=> -1
 |b::l,i=>if b==c then i else findByte c l (i+1)
def countByte(c:UInt8):List UInt8->Nat->Nat
 |[],n=>n
 |b::l,n=>countByte c l (if b==c then n+1 else n)
def cmpBytes:List UInt8->List UInt8->Int
 |[],[]=>0
 |[],_::_=> -1
 |_::_,[]=>1
 |a::x,b::y=>if a==b then cmpBytes x y else if a<b then -1 else 1
def bytesArg(H:LHeap)(x:LV):Option (List UInt8):=
 match x with
 | .str s=>some s
 | .slice none _ _=>some []
 | .slice (some a) len _=>match loadN H a len with
  |some cs=>bytesOfCells cs
  |none=>none
 |_=>none
def extL(H:LHeap)(e:Ext)(args:List LV):Option (LV×LHeap):=
 match e,args with
 | .noEscape,[x]=>some (x,H)
 | .indexByte,[x,.int .u8 c]=>match bytesArg H x with
  |some s=>some (.int .i64 (findByte (UInt8.ofNat c.toNat) s 0),H)
  |none=>none
 | .countByte,[x,.int .u8 c]=>match bytesArg H x with
  |some s=>some (.int .i64 (countByte (UInt8.ofNat c.toNat) s 0),H)
  |none=>none
 | .cmpStr,[x,y]=>match bytesArg H x,bytesArg H y with
  |some s,some t=>some (.int .i64 (cmpBytes s t),H)
  |_,_=>none
 | .overlaps t,[.slice a la _,.slice b lb _]=>
  match elemOfSlice P t with
  |none=>none
  |some e=>match sizeOfT P e with
   |none=>none
   |some size=>match a,b with
    |some a,some b=>
     if Nat.beq la 0||Nat.beq lb 0||Nat.beq size 0 then some (.bool false,H) else
     if Nat.beq a.id b.id then
      if Nat.beq a.ver b.ver then some (.bool (Nat.ble (a.off+1) (b.off+lb*size)&&Nat.ble (b.off+1) (a.off+la*size)),H) else none
     else match H.get a.id,H.get b.id with
      |some (.cells _ _ _ m .none false _),some (.cells _ _ _ k .none false _)=>if Nat.ble m a.ver&&Nat.ble k b.ver then some (.bool false,H) else none
      |_,_=>none
    |_,_=>some (.bool false,H)
 | .makeNoZero t,[.int .i64 (.ofNat n)]=>match elemOfSlice P t with
  |some e=>if Nat.ble n 1000000 then match newRow H e (repl n [.junk] []) false with
    |some (a,H')=>some (.slice (some a) n (.free 1),H')
    |none=>none
   else none
  |none=>none
 | .mapsClone,[.iface t (.map (some r))]=>match getMap H r with
  |some (es,c)=>some (.iface t (.map (some H.next)),H.push (.map es c))
  |none=>none
 | .add64,[.int .u64 x,.int .u64 y,.int .u64 c]=>
  if Nat.ble c.toNat 1 then some (.tuple [.int .u64 (((x.toNat+y.toNat+c.toNat)%2 ^ 64:Nat)),.int .u64 (((x.toNat+y.toNat+c.toNat) / 2 ^ 64:Nat))],H) else none
 |_,_=>none
end
def evalL(C:Cfg)(tmps:List LV):Operand->LV
 | .tmp t=>match nth tmps t with
  |some v=>v
  |none=>.undef
 | .const v=>match toLV 20 v with
  |some v=>v
  |none=>.lost
 | .global g=>C.glob g
 | .func f=>.func (.func f) [] []
def enterL(C:Cfg)(H:LHeap)(f:FuncId)(args:List LV):Option (LNext×LHeap):=
 match C.orc f with
 |some o=>match o args with
  |some v=>some (.value v,H)
  |none=>none
 |none=>match C.ext f with
  |some e=>match extL C.P H e args with
   |some (v,H')=>some (.value v,H')
   |none=>none
  |none=>some (.enter f args,H)
def yieldL(H:LHeap)(l:Nat)(args:List LV):Option (LNext×LHeap):=
 match H.get l with
 |some (.loop r)=>
  if Nat.beq args.length r.params.size then
   some (.round l r.fn ((r.params.toList.zip args).foldl (fun tmps (t,a)=>setNth tmps t a) r.tmps) r.assign r.body,H)
  else none
 |_=>none
def invokeL(C:Cfg)(H:LHeap)(t:LTarget)(args:List LV):Option (LNext×LHeap):=
 match t with
 | .fn (.func f) captured=>enterL C H f (args++captured)
 | .fn (.yield l) _=>yieldL H l args
 |_=>none
def freezeL(H:LHeap)(a:LAddr)(n:Nat):Option LHeap:=
 match H.get a.id with
 |some (.cells cs e ver minv fz ro wh)=>
  if Nat.beq a.ver ver&& !ro then
   match fz with
   | .none=>some (H.put a.id (.cells cs e ver minv (.range a.off (a.off+n)) ro wh))
   | .range lo hi=>some (H.put a.id (.cells cs e ver minv (.range (min lo a.off) (max hi (a.off+n))) ro wh))
   | .mark=>none
  else none
 |_=>none
def byteRow(P:Program)(e:TypeId):List TypeId->Bool
 |t::_=>match P.underlying t,sizeOfT P e with
  |some (.pointer e'),some 1=>Nat.beq e e'
  |_,_=>false
 |[]=>false
def builtinL(C:Cfg)(H:LHeap)(b:Builtin)(argTypes:List TypeId)(args:List LV):Option (LNext×LHeap):=
 let v (r:Option (LV×LHeap)):Option (LNext×LHeap):=match r with
  |some (x,H')=>some (.value x,H')
  |none=>none
 match b with
 | .append=>v (appendL C.P H argTypes args)
 | .copy=>v (copyL C.P H argTypes args)
 | .clear=>v (clearL C.P H argTypes args)
 | .delete=>v (deleteL C.P H argTypes args)
 | .len=>match argTypes,args with
  |t::_,x::_=>match C.P.underlying t with
   |none=>none
   |some d=>match d,x with
    | .string,.str s=>some (.value (.int .i64 s.length),H)
    | .array n _,_=>some (.value (.int .i64 n),H)
    | .slice _,.slice _ n _=>some (.value (.int .i64 n),H)
    | .map _ _,.map none=>some (.value (.int .i64 0),H)
    | .map _ _,.map (some r)=>match getMap H r with
     |some (es,_)=>some (.value (.int .i64 es.length),H)
     |none=>none
    | .pointer a,_=>match C.P.underlying a with
     |some (.array n _)=>some (.value (.int .i64 n),H)
     |_=>none
    |_,_=>none
  |_,_=>none
 | .cap=>match argTypes,args with
  |t::_,.slice _ _ (.exact c)::_=>match C.P.underlying t with
   |some (.slice _)=>some (.value (.int .i64 c),H)
   |_=>none
  |_,_=>none
 | .min=>match args with
  |[.int k x,.int j y]=>if k==j then some (.value (.int k (if y<x then y else x)),H) else none
  |_=>none
 | .max=>match args with
  |[.int k x,.int j y]=>if k==j then some (.value (.int k (if y>x then y else x)),H) else none
  |_=>none
 | .recover=>some (.recover,H)
 | .unsafeSliceData=>match args with
  |[.slice none _ _]=>some (.value (.ptr none),H)
  |[.slice (some a) (_+1) _]=>some (.value (.ptr (some a)),H)
  |_=>none
 | .unsafeString=>match args with
  |[.ptr _,.int _ (.ofNat 0)]=>match argTypes with
   |_::_=>some (.value (.str []),H)
   |[]=>none
  |[.ptr (some a),.int _ (.ofNat (n+1))]=>match H.get a.id with
   |some (.cells _ e _ _ _ _ _)=>match byteRow C.P e argTypes&&Nat.ble (n+1) 9223372036854775807 with
    |true=>match loadN H a (n+1) with
     |some cs=>match bytesOfCells cs with
      |some bs=>match freezeL H a (n+1) with
       |some H'=>some (.value (.str bs),H')
       |none=>none
      |none=>none
     |none=>none
    |false=>none
   |_=>none
  |_=>none
 |_=>none
def resolveL(ρ:Operand->LV)(c:Call):Option LDef:=
 match c.callee with
 | .value f=>match ρ f with
  | .func fn first captured=>some ⟨.fn fn captured,first++c.args.toList.map ρ⟩
  |_=>none
 |_=>none
def optL(ρ:Operand->LV):Option Operand->Option LV
 |some x=>some (ρ x)
 |none=>none
def opL(C:Cfg)(ρ:Operand->LV)(H:LHeap)(o:Oper):Option (List (LNext×LHeap)):=
 let v (r:Option LV):Option (List (LNext×LHeap)):=match r with
  |some x=>some [(.value x,H)]
  |none=>none
 let vh (r:Option (LV×LHeap)):Option (List (LNext×LHeap)):=match r with
  |some (x,H')=>some [(.value x,H')]
  |none=>none
 let u (r:Option LHeap):Option (List (LNext×LHeap)):=match r with
  |some H'=>some [(.value .undef,H')]
  |none=>none
 let one (r:Option (LNext×LHeap)):Option (List (LNext×LHeap)):=match r with
  |some x=>some [x]
  |none=>none
 match o.op with
 | .move x=>some [(.value (ρ x),H)]
 | .assign x=>some [(.value (ρ x),H)]
 | .pick c a b=>match ρ c with
  | .bool true=>some [(.value (ρ a),H)]
  | .bool false=>some [(.value (ρ b),H)]
  |_=>none
 | .alloc t=>match zeroOf C.P t with
  |some z=>match newRow H t z.cells true with
   |some (a,H')=>some [(.value (.ptr (some a)),H')]
   |none=>none
  |none=>none
 | .box t x=>match newRow H t (ρ x).cells true with
  |some (a,H')=>some [(.value (.ptr (some a)),H')]
  |none=>none
 | .build t parts=>v (buildL C.P t (parts.toList.map fun (i,x)=>(i,ρ x)))
 | .buildSlice t n parts=>vh (buildSliceL C.P H t n (parts.toList.map fun (i,x)=>(i,ρ x)))
 | .load t a=>match ρ a with
  | .ptr (some a)=>v (loadT C.P H t a)
  |_=>none
 | .store t a x=>match ρ a with
  | .ptr (some a)=>u (storeT C.P H t a (ρ x))
  |_=>none
 | .nilCheck x=>match ρ x with
  | .ptr (some a)=>some [(.value (.ptr (some a)),H)]
  | .func (.func f) a c=>some [(.value (.func (.func f) a c),H)]
  | .func (.yield f) a c=>some [(.value (.func (.yield f) a c),H)]
  | .iface t x=>some [(.value (.iface t x),H)]
  |_=>none
 | .binOp op t x y _=>v (binL C.P op t (ρ x) (ρ y) (isConstO x) (isConstO y))
 | .unOp op _ x=>v (unL op (ρ x))
 | .convert s d x=>vh (convertL C.P H s d (ρ x))
 | .makeInterface t x=>match C.P.underlying t with
  |some (.interface _)=>none
  |some _=>some [(.value (.iface t (ρ x)),H)]
  |none=>none
 | .makeFunc fn a c=>match fn with
  | .func f=>some [(.value (.func (.func f) (a.toList.map ρ) (c.toList.map ρ)),H)]
  |_=>none
 | .makeMap t r=>match r with
  |none=>some [(.value (.map (some H.next)),H.push (.map [] 0))]
  |some x=>match C.P.underlying t,ρ x with
   |some (.map _ _),.int _ _=>some [(.value (.map (some H.next)),H.push (.map [] 0))]
   |_,_=>none
 | .makeSlice t l c=>match elemOfSlice C.P t,ρ l,ρ c with
  |some e,.int _ (.ofNat l),.int _ (.ofNat c)=>match sizeOfT C.P e,bytesOfT C.P e,zeroOf C.P e with
   |some (n+1),some by_,some z=>if Nat.ble l c&&Nat.ble (c*(by_+1)) 140737488355328 then
     match newRow H e (repl c z.cells []) true with
     |some (a,H')=>if Nat.beq z.cells.length (n+1) then some [(.value (.slice (some a) l (.exact c)),H')] else none
     |none=>none
    else none
   |_,_,_=>none
  |_,_,_=>none
 | .slice t x lo hi mx=>v (sliceL C.P t (ρ x) (optL ρ lo) (optL ρ hi) (optL ρ mx))
 | .fieldAddr t x i=>v (fieldAddrL C.P t (ρ x) i)
 | .field t x i=>v (fieldL C.P t (ρ x) i)
 | .indexAddr t x i=>v (indexAddrL C.P t (ρ x) (ρ i))
 | .index t x i=>v (indexL C.P t (ρ x) (ρ i))
 | .lookup t x k ok=>v (lookupL C.P H t (ρ x) (ρ k) ok)
 | .mapUpdate t m k x=>u (mapUpdateL C.P H t (ρ m) (ρ k) (ρ x))
 | .insert t m k x=>u (mapUpdateL C.P H t (ρ m) (ρ k) (ρ x))
 | .mapEntry t m k=>vh (mapEntryL C.P H t (ρ m) (ρ k))
 | .entryStore _ m s x=>u (entryStoreL H (ρ m) (ρ s) (ρ x))
 | .range t x=>vh (rangeL C.P H t (ρ x))
 | .next it b=>match nextL H (ρ it) b with
  |some l=>some (l.map fun (x,H')=>(.value x,H'))
  |none=>none
 | .entry it=>v (entryL H (ρ it))
 | .typeAssert x _ a ok=>v (typeAssertL C.P (ρ x) a ok)
 | .extract x i=>match ρ x with
  | .tuple vs=>v (nth vs i)
  |_=>none
 | .call c=>match c.callee with
  | .builtin b=>one (builtinL C H b c.argTypes.toList (c.args.toList.map ρ))
  |_=>match resolveL ρ c with
   |some d=>one (invokeL C H d.target d.args)
   |none=>none
 | .defer c=>match resolveL ρ c with
  |some d=>some [(.defer d,H)]
  |none=>none
 | .panic x=>match ρ x with
  | .iface t y=>some [(.panic (.iface t y),H)]
  |_=>none
 |_=>none
structure LEntryP where
 v:LV
 recovered:Bool
 deriving Inhabited
inductive LMode where
 |run
 |returning
 |panicking (chain:List LEntryP)
 deriving Inhabited
inductive LItem where
 |code (c:Code)
 |inBlock (id:Nat)
 |inLoop (body:Code)
 |inScope (body:Code)
 |inRegion (ops:Array Oper) (rest:List Nat)
 |drawn (ops:Array Oper) (b:List (List Nat)) (tm0:List LV) (done pend:List Nat) (stale:Bool)
 |inRangeFunc (l:Nat)
 |endRangeFunc (l:Nat)
 |beginRound
structure LFrame where
 fn:FuncId
 tmps:List LV
 todo:List LItem
 defers:List LDef
 mode:LMode
 deferred:Bool
 roundOf:Option Nat
structure LState where
 fr:LFrame
 cs:List LFrame
 H:LHeap
def replU:Nat->List LV
 |0=>[]
 |n+1=>.undef::replU n
def enterF(C:Cfg)(f:FuncId)(args:List LV)(deferred:Bool):Option LFrame:=
 match C.P.funcs[f]? with
 |some fn=>match fn.body with
  |some c=>some { fn:=f,tmps:=args++replU (fn.ntmps-args.length),todo:=[.code c],defers:=[],mode:=.run,deferred,roundOf:=none }
  |none=>none
 |none=>none
def putT(ops:Array Oper)(i:Nat)(tmps:List LV)(v:LV):List LV:=
 match ops[i]? with
 |some o=>match o.dst with
  |some d=>setNth tmps d v
  |none=>tmps
 |none=>tmps
def finishL(fr:LFrame)(v:LV):Option LFrame:=
 match fr.mode with
 | .run=>match fr.todo with
  | .inRegion ops (i::rest)::k=>some { fr with tmps:=putT ops i fr.tmps v,todo:=.inRegion ops rest::k }
  | .drawn ops b tm0 done (i::rest) _::k=>some { fr with tmps:=putT ops i fr.tmps v,todo:=.drawn ops b tm0 (i::done) rest true::k }
  | .inRangeFunc l::k=>some { fr with todo:=.endRangeFunc l::k }
  | .beginRound::k=>some { fr with todo:=k }
  |_=>none
 |_=>none
def exitToL(id:Nat):List LItem->Option (List LItem)
 | .inBlock i::k=>if Nat.beq i id then some k else exitToL id k
 |_::k=>exitToL id k
 |[]=>none
def gotoInL(l:Nat):List LItem->Option (List LItem)
 | .inScope body::k=>match findLabel body l with
  |some rest=>some (.code rest:: .inScope body::k)
  |none=>gotoInL l k
 |_::k=>gotoInL l k
 |[]=>none
def yieldedL(ops:Array Oper)(tmps:List LV)(j:Nat):Option (Option Bool):=
 match ops[j]? with
 |some o=>match o.dst with
  |some d=>match nth tmps d with
   |some (.bool b)=>some (some b)
   |some (.tuple _)=>some none
   |some _=>none
   |none=>some none
  |none=>some none
 |none=>some none
def wantedL(ops:Array Oper)(tmps:List LV)(o:Oper):Option Bool:=
 match o.guard with
 |none=>some true
 |some (j,want)=>match yieldedL ops tmps j with
  |some (some b)=>some (b==want)
  |some none=>some false
  |none=>none
def loseT:List Oper->List LV->List LV
 |[],tmps=>tmps
 |o::l,tmps=>loseT l (match o.dst with
  |some d=>setNth tmps d .lost
  |none=>tmps)
def raiseL(fr:LFrame)(vs:List LEntryP):LFrame:=
 match fr.mode with
 | .panicking chain=>{ fr with mode:=.panicking (vs++chain) }
 | .returning=>{ fr with mode:=.panicking vs }
 | .run=>{ fr with mode:=.panicking vs,tmps:=match fr.todo with
  | .drawn ops _ _ _ _ _::_=>loseT ops.toList fr.tmps
  |_=>fr.tmps }
def tryRecoverL(fr:LFrame)(cs:List LFrame):Option (LV×List LFrame):=
 match fr.deferred,cs with
 |false,_=>some (.nilIface,cs)
 |true,[]=>none
 |true,c::rest=>match c.mode with
  | .panicking (⟨v,false⟩::older)=>some (v,{ c with mode:=.panicking (⟨v,true⟩::older) }::rest)
  |_=>some (.nilIface,cs)
def afterL(C:Cfg)(fr:LFrame)(cs:List LFrame):LNext×LHeap->Option LState
 |(.value v,H)=>(finishL fr v).map fun fr=>⟨fr,cs,H⟩
 |(.enter f args,H)=>(enterF C f args false).map fun g=>⟨g,fr::cs,H⟩
 |(.defer d,H)=>if fr.roundOf.isSome then none else (finishL { fr with defers:=d::fr.defers } .undef).map fun fr=>⟨fr,cs,H⟩
 |(.recover,H)=>
  if fr.roundOf.isSome then none else
  match tryRecoverL fr cs with
  |some (v,cs')=>(finishL fr v).map fun fr=>⟨fr,cs',H⟩
  |none=>none
 |(.panic v,H)=>some ⟨raiseL fr [⟨v,false⟩],cs,H⟩
 |(.round l f tmps a b,H)=>some ⟨{ fn:=f,tmps,todo:=[.code a,.beginRound,.code b],defers:=[],mode:=.run,deferred:=false,roundOf:=some l },fr::cs,H⟩
def loopOf(H:LHeap)(l:Nat):Option LLoop:=
 match H.get l with
 |some (.loop r)=>some r
 |_=>none
def leaveL(fr:LFrame)(cs:List LFrame)(H:LHeap)(jump:Option Code):Option LState:=
 match fr.roundOf with
 |none=>match jump with
  |none=>some ⟨{ fr with mode:=.returning },cs,H⟩
  |some .ret=>some ⟨{ fr with mode:=.returning },cs,H⟩
  |_=>none
 |some l=>if fr.deferred then none else match loopOf H l with
  |some r=>match cs with
   |c::rest=>(finishL c (.bool jump.isNone)).map fun c=>
    ⟨c,rest,H.put l (.loop { r with state:=if jump.isNone then .ready else .done,pending:=jump })⟩
   |[]=>none
  |none=>none
def rngF:Nat->List Nat->List Nat
 |0,acc=>acc
 |n+1,acc=>rngF n (n::acc)
def isE(P:Program):Op->Bool
 | .move _ | .assign _ | .pick .. | .build .. | .load .. | .nilCheck _ | .binOp .. | .unOp .. | .makeInterface .. | .makeFunc .. | .slice .. | .fieldAddr .. | .field ..
 | .indexAddr .. | .index .. | .lookup .. | .typeAssert .. | .extract .. | .alloc _ | .box .. | .buildSlice .. =>false
 | .convert _ d _=>match P.underlying d with
  |some (.slice _)=>true
  |some _=>false
  |none=>true
 | .call c=>match c.callee with
  | .builtin .len | .builtin .cap | .builtin .min | .builtin .max | .builtin .unsafeSliceData=>false
  |_=>true
 |_=>true
def isA:Op->Bool
 | .alloc _ | .box .. | .buildSlice .. =>true
 |_=>false
def binds(e:Edge):Bool:=match e.ground with
 | .textOnly _ | .gcOnly _=>false
 |_=>true
def depsIn(o:Oper)(done:List Nat):Bool:=o.after.toList.all fun e=> !(binds e)||memN e.on done
def befs:List Oper->List (List Nat)->List (List Nat)
 |[],acc=>acc
 |o::l,acc=>befs l (acc++[o.after.toList.foldl (fun s e=>if binds e then e.on::((nth acc e.on).getD []++s) else s) []])
def befOf(b:List (List Nat))(i:Nat):List Nat:=(nth b i).getD []
def looks(ops:Array Oper)(o:Oper):List Nat:=
 (o.op.operands.toList.filterMap fun | .tmp t=>some t |_=>none)++
 (match o.guard with
  |some (g,_)=>((ops[g]?).bind (·.dst)).toList
  |none=>[])
def writer:List Oper->Nat->Nat->Option Nat
 |[],_,_=>none
 |o::l,i,t=>match o.dst with
  |some d=>if Nat.beq d t then some i else writer l (i+1) t
  |none=>writer l (i+1) t
def opOk(P:Program)(ops:Array Oper)(b:List (List Nat))(i:Nat)(o:Oper):Bool:=
 (o.after.toList.all fun e=> !(binds e)||Nat.ble (e.on+1) i)&&
 (match o.dst with
  |some d=>writer ops.toList 0 d==some i
  |none=>true)&&
 ((looks ops o).all fun t=>match writer ops.toList 0 t with
   |some j=>memN j (befOf b i)||memN i (befOf b j)
   |none=>true)&&
 (match o.guard with
  |some (g,_)=>memN g (befOf b i)
  |none=>true)&&
 (!(isE P o.op)||(ops.toList.zipIdx.all fun (p,j)=> !(isE P p.op)||Nat.ble i j||memN j (befOf b i)))
def drawOk(P:Program)(ops:Array Oper):Bool:=
 let b:=befs ops.toList []
 ops.toList.zipIdx.all fun (o,i)=>opOk P ops b i o
def pickNext(P:Program)(ops:Array Oper)(done:List Nat):List Nat->Option Nat
 |[]=>none
 |i::rest=>match ops[i]? with
  |some o=>if !(isE P o.op)&&depsIn o done then some i else pickNext P ops done rest
  |none=>none
def dropI(i:Nat):List Nat->List Nat
 |[]=>[]
 |j::l=>if Nat.beq i j then l else j::dropI i l
def viewL(C:Cfg)(ops:Array Oper)(b:List (List Nat))(i:Nat)(tm0 tmps:List LV):Operand->LV
 | .tmp t=>match writer ops.toList 0 t with
  |none=>evalL C tmps (.tmp t)
  |some j=>if memN j (befOf b i) then evalL C tmps (.tmp t) else if memN i (befOf b j) then evalL C tm0 (.tmp t) else .lost
 |x=>evalL C tmps x
def readsH:Op->Bool
 | .load .. | .lookup .. | .convert .. | .call _=>true
 |_=>false
def againOk(C:Cfg)(H:LHeap)(ops:Array Oper)(b:List (List Nat))(tm0 tmps:List LV)(i:Nat):Bool:=
 match ops[i]? with
 |none=>true
 |some o=>
  if isE C.P o.op||isA o.op|| !(readsH o.op) then true else
  match wantedL ops tmps o with
  |some false=>true
  |none=>true
  |some true=>match opL C (viewL C ops b i tm0 tmps) H o,o.dst with
   |some [(.value _,_)],none=>true
   |some [(.value v,_)],some d=>match nth tmps d with
    |some w=>v.beq w
    |none=>true
   |_,_=>false
def lastE(P:Program)(ops:Array Oper):List Nat->Option Nat
 |[]=>none
 |i::l=>match ops[i]? with
  |some o=>if isE P o.op then some i else lastE P ops l
  |none=>lastE P ops l
def checkOk(C:Cfg)(H:LHeap)(ops:Array Oper)(b:List (List Nat))(tm0 tmps:List LV)(done:List Nat):Bool:=
 let skip:=match lastE C.P ops done with
  |some e=>befOf b e
  |none=>[]
 done.all fun i=>memN i skip||againOk C H ops b tm0 tmps i
def resL(C:Cfg)(H:LHeap)(tmps:List LV)(r:ResultVar):Option LV:=
 match r with
 | .tmp t=>some (evalL C tmps (.tmp t))
 | .cell a t=>match evalL C tmps (.tmp a) with
  | .ptr (some a)=>loadT C.P H t a
  |_=>none
def resV:List LV->LV
 |[v]=>v
 |vs=>.tuple vs
def settleL(c:LFrame):LFrame:=
 match c.mode with
 | .panicking (⟨_,true⟩::_)=>{ c with mode:=.returning }
 |_=>c
def stepRegion(C:Cfg)(s:LState)(ops:Array Oper)(ρ:Operand->LV)(i:Nat)(fr:LFrame):Option (List LState):=
 match ops[i]? with
 |none=>none
 |some o=>match wantedL ops fr.tmps o with
  |some true=>match opL C ρ s.H o with
   |some l=>mapO (afterL C fr s.cs) l
   |none=>none
  |some false=>match finishL fr .undef with
   |some fr=>some [⟨fr,s.cs,s.H⟩]
   |none=>none
  |none=>none
def unwindL(C:Cfg)(s:LState):Option (List LState):=
 let fr:=s.fr
 match fr.defers with
 |d::ds=>match d.target with
  | .collected r=>match s.H.get r with
   |some (.deferred (some calls))=>some [⟨{ fr with defers:=calls++ds },s.cs,s.H.put r (.deferred none)⟩]
   |_=>none
  | .fn fn captured=>match invokeL C s.H (.fn fn captured) d.args with
   |some (.enter f args,H)=>match enterF C f args true with
    |some g=>some [⟨g,{ fr with defers:=ds }::s.cs,H⟩]
    |none=>none
   |_=>none
 |[]=>match s.cs with
  |[]=>none
  |c::rest=>match fr.mode with
   | .panicking chain=>if fr.roundOf.isSome then none else some [⟨raiseL c chain,rest,s.H⟩]
   |_=>match C.P.funcs[fr.fn]? with
    |none=>none
    |some fn=>
     if fr.roundOf.isSome then none else
     match mapO (resL C s.H fr.tmps) fn.results.toList with
     |none=>none
     |some vs=>
      if fr.deferred then some [⟨settleL c,rest,s.H⟩]
      else match finishL c (resV vs) with
       |some c=>some [⟨c,rest,s.H⟩]
       |none=>none
def lstep(C:Cfg)(s:LState):Option (List LState):=
 let fr:=s.fr
 let go (todo:List LItem):Option (List LState):=some [⟨{ fr with todo },s.cs,s.H⟩]
 let one (r:Option LState):Option (List LState):=match r with
  |some x=>some [x]
  |none=>none
 match fr.mode with
 | .run=>match fr.todo with
  |[]=>one (leaveL fr s.cs s.H none)
  |it::k=>match it with
   | .code c=>match c with
    | .skip=>go k
    | .label _=>go k
    | .seq a b=>go (.code a:: .code b::k)
    | .cond c a b=>match evalL C fr.tmps c with
     | .bool true=>go (.code a::k)
     | .bool false=>go (.code b::k)
     |_=>none
    | .block id b=>go (.code b:: .inBlock id::k)
    | .loop b=>go (.code b:: .inLoop b::k)
    | .scope b=>go (.code b:: .inScope b::k)
    | .exit id=>match exitToL id k with
     |some k'=>go k'
     |none=>one (leaveL fr s.cs s.H (some (.exit id)))
    | .goto l=>match gotoInL l k with
     |some k'=>go k'
     |none=>one (leaveL fr s.cs s.H (some (.goto l)))
    | .ret=>one (leaveL fr s.cs s.H (some .ret))
    | .region _ ops draw=>if draw then (if drawOk C.P ops then go (.drawn ops (befs ops.toList []) fr.tmps [] (rngF ops.size []) true::k) else none) else go (.inRegion ops (rngF ops.size [])::k)
    | .rangeFunc f params assign body=>
     match fr.roundOf with
     |some _=>none
     |none=>
      let d:=s.H.next
      let H1:=s.H.push (.deferred (some []))
      let l:=H1.next
      let H2:=H1.push (.loop { state:=.ready,pending:=none,fn:=fr.fn,tmps:=fr.tmps,params,assign,body,defers:=d })
      let fr':={ fr with todo:=.inRangeFunc l::k,defers:=⟨.collected d,[]⟩::fr.defers }
      match evalL C fr.tmps f with
      | .func fn first captured=>match invokeL C H2 (.fn fn captured) (first++[.func (.yield l) [] []]) with
       |some x=>one (afterL C fr' s.cs x)
       |none=>none
      |_=>none
    | .refuse _=>none
   | .inBlock _=>go k
   | .inScope _=>go k
   | .inLoop b=>go (.code b:: .inLoop b::k)
   | .inRegion ops l=>match l with
    |[]=>go k
    |i::_=>stepRegion C s ops (evalL C fr.tmps) i fr
   | .drawn ops b tm0 done pend stale=>
    match pickNext C.P ops done pend with
    |some j=>stepRegion C s ops (viewL C ops b j tm0 fr.tmps) j { fr with todo:=.drawn ops b tm0 done (j::dropI j pend) true::k }
    |none=>
     if stale then
      if checkOk C s.H ops b tm0 fr.tmps done then go (.drawn ops b tm0 done pend false::k) else none
     else match pend with
     |[]=>go k
     |i::rest=>match ops[i]? with
      |some o=>if depsIn o done then stepRegion C s ops (viewL C ops b i tm0 fr.tmps) i { fr with todo:=.drawn ops b tm0 done (i::rest) true::k } else none
      |none=>none
   | .inRangeFunc _=>none
   | .beginRound=>match fr.roundOf with
    |some l=>match loopOf s.H l with
     |some r=>match r.state with
      | .ready=>some [⟨{ fr with todo:=k },s.cs,s.H.put l (.loop { r with state:=.busy })⟩]
      |_=>none
     |none=>none
    |none=>none
   | .endRangeFunc l=>match loopOf s.H l with
    |some r=>match r.state with
     | .busy=>none
     |_=>some [⟨{ fr with todo:=(match r.pending with |some c=>[.code c] |none=>[])++k },s.cs,s.H.put l (.loop { r with state:=.exhausted })⟩]
    |none=>none
 |_=>unwindL C s
def lrun(C:Cfg):Nat->LState->LState
 |0,s=>s
 |n+1,s=>match lstep C s with
  |some [s']=>lrun C n s'
  |_=>s
end Go.Lm

/- Plain lemmas on the lists and trees of the machine of its own. -/
namespace Go.Lm
theorem nth_eq{α:Type}:∀(l:List α) (n:Nat),nth l n=l[n]?
 |[],n=>by simp [nth]
 |a::l,0=>by simp [nth]
 |a::l,n+1=>by simp [nth,nth_eq l n]
theorem dropN_eq{α:Type}:∀(n:Nat) (l:List α),dropN n l=l.drop n
 |0,l=>by simp [dropN]
 |n+1,[]=>by simp [dropN]
 |n+1,a::l=>by simp [dropN,dropN_eq n l]
theorem takeN_some{α:Type}:∀(n:Nat) (l r:List α),takeN n l=some r->n<=l.length/\r=l.take n
 |0,l,r,h=>by simp [takeN] at h;simp [h]
 |n+1,[],r,h=>by simp [takeN] at h
 |n+1,a::l,r,h=>by
  simp only [takeN,Option.map_eq_some_iff] at h;obtain ⟨r',h',rfl⟩:=h;obtain ⟨h1,rfl⟩:=takeN_some n l r' h';simp;omega
theorem takeN_of{α:Type}:∀(n:Nat) (l:List α),n<=l.length->takeN n l=some (l.take n)
 |0,l,_=>by simp [takeN]
 |n+1,[],h=>by simp at h
 |n+1,a::l,h=>by simp [takeN,takeN_of n l (by simpa using h)]
theorem over_spec{α:Type}:∀(n:Nat) (l vs r:List α),over n l vs=some r->
  r.length=l.length/\n+vs.length<=l.length/\∀j,r[j]? =if n<=j/\j<n+vs.length then vs[j-n]? else l[j]?
 |0,l,[],r,h=>by
  simp [over] at h;subst h;refine ⟨rfl,by simp,fun j=> ?_⟩;rw [if_neg (by simp)]
 |0,[],v::vs,r,h=>by simp [over] at h
 |0,a::l,v::vs,r,h=>by
  simp only [over,Option.map_eq_some_iff] at h;obtain ⟨r',h',rfl⟩:=h;obtain ⟨h1,h2,h3⟩:=over_spec 0 l vs r' h';refine ⟨by simp [h1],by simp at h2 |-;omega,fun j=> ?_⟩;cases j with
  |zero=>simp
  |succ j=>
   have:=h3 j;simp at this |-;rw [this]
 |n+1,[],vs,r,h=>by simp [over] at h
 |n+1,a::l,vs,r,h=>by
  simp only [over,Option.map_eq_some_iff] at h;obtain ⟨r',h',rfl⟩:=h;obtain ⟨h1,h2,h3⟩:=over_spec n l vs r' h';refine ⟨by simp [h1],by simp;omega,fun j=> ?_⟩;cases j with
  |zero=>simp
  |succ j=>
   have:=h3 j;simp only [List.getElem?_cons_succ,this];by_cases hc:n<=j/\j<n+vs.length
   ·rw [if_pos hc,if_pos (by omega),show j+1-(n+1)=j-n by omega]
   ·rw [if_neg hc,if_neg (by omega)]
theorem setNth_eq{α:Type}:∀(l:List α) (n:Nat) (b:α),setNth l n b=l.set n b
 |[],n,b=>by simp [setNth]
 |a::l,0,b=>by simp [setNth]
 |a::l,n+1,b=>by simp [setNth,setNth_eq l n b]
theorem eraseNth_eq{α:Type}:∀(l:List α) (n:Nat),eraseNth l n=l.eraseIdx n
 |[],n=>by simp [eraseNth]
 |a::l,0=>by simp [eraseNth]
 |a::l,n+1=>by simp [eraseNth,eraseNth_eq l n]
theorem mapO_spec{α β:Type}(f:α->Option β):∀(l:List α) (r:List β),mapO f l=some r->
  r.length=l.length/\∀(i:Nat) (a:α),l[i]? =some a->∃b,f a=some b/\r[i]? =some b
 |[],r,h=>by simp [mapO] at h;subst h;simp
 |a::l,r,h=>by
  simp only [mapO] at h;cases hf:f a with
  |none=>simp [hf] at h
  |some b=>
   cases hm:mapO f l with
   |none=>simp [hf,hm] at h
   |some bs=>
    simp [hf,hm] at h;subst h;obtain ⟨h1,h2⟩:=mapO_spec f l bs hm;refine ⟨by simp [h1],fun i x hx=> ?_⟩;cases i with
    |zero=>simp at hx;subst hx;exact ⟨b,hf,by simp⟩
    |succ i=>simpa using h2 i x (by simpa using hx)
theorem mapO_mem{α β:Type}{f:α->Option β}{l:List α}{r:List β}(h:mapO f l=some r):(∀b∈r,∃a∈l,f a=some b)/\(∀a∈l,∃b∈r,f a=some b):=by
 obtain ⟨h1,h2⟩:=mapO_spec f l r h;constructor
 ·intro b hb;obtain ⟨i,hi,rfl⟩:=List.mem_iff_getElem.1 hb;obtain ⟨b',hb',hr⟩:=h2 i l[i] (List.getElem?_eq_getElem (by omega));refine ⟨l[i],List.getElem_mem _,?_⟩;rw [List.getElem?_eq_getElem hi] at hr;simp at hr;rw [hb',hr]
 ·intro a ha;obtain ⟨i,hi,rfl⟩:=List.mem_iff_getElem.1 ha;obtain ⟨b',hb',hr⟩:=h2 i l[i] (List.getElem?_eq_getElem hi);exact ⟨b',List.mem_of_getElem? hr,hb'⟩
theorem replU_eq:∀n,replU n=List.replicate n LV.undef
 |0=>rfl
 |n+1=>by simp [replU,replU_eq n,List.replicate_succ]
theorem repl_eq{α:Type}:∀(n:Nat) (z acc:List α),repl n z acc=(List.replicate n z).flatten++acc
 |0,z,acc=>by simp [repl]
 |n+1,z,acc=>by
  rw [repl,repl_eq n z];rw [show n+1=n+1 from rfl,List.replicate_succ',List.flatten_append];simp
theorem memN_iff(n:Nat):∀l:List Nat,memN n l=true↔n∈l
 |[]=>by simp [memN]
 |m::l=>by simp [memN,memN_iff n l]
theorem rngF_eq:∀(n:Nat) (acc:List Nat),rngF n acc=List.range n++acc
 |0,acc=>by simp [rngF]
 |n+1,acc=>by rw [rngF,rngF_eq n,List.range_succ];simp
theorem mem_dropI{i j:Nat}:∀{l:List Nat},j∈l->j=i\/j∈dropI i l
 |[],h=>by cases h
 |k::l,h=>by
  simp only [dropI];split
  ·rename_i hk;have:i=k:=by simpa using hk
   subst this;rcases List.mem_cons.1 h with h |h
   ·exact .inl h
   ·exact .inr h
  ·rcases List.mem_cons.1 h with h |h
   ·exact .inr (h▸List.mem_cons_self)
   ·rcases mem_dropI h with h |h
    ·exact .inl h
    ·exact .inr (List.mem_cons_of_mem _ h)
theorem dropI_sub{i j:Nat}:∀{l:List Nat},j∈dropI i l->j∈l
 |[],h=>by simp [dropI] at h
 |k::l,h=>by
  simp only [dropI] at h;split at h
  ·exact List.mem_cons_of_mem _ h
  ·rcases List.mem_cons.1 h with h |h
   ·exact h▸List.mem_cons_self
   ·exact List.mem_cons_of_mem _ (dropI_sub h)
theorem Tree.get_set{α:Type}:∀(f:Nat) (t:Tree α) (k:Nat) (a:α) (j:Nat),k<f->(Tree.set f t k a).get j=if j=k then some a else t.get j
 |0,_,k,_,_,h=>by omega
 |f+1,.leaf,0,a,j,_=>by
  cases j with
  |zero=>simp [Tree.set,Tree.get]
  |succ j=>simp [Tree.set,Tree.get];split<;>simp [Tree.get]
 |f+1,.leaf,k+1,a,j,h=>by
  simp only [Tree.set]
  have ih:=Tree.get_set f (.leaf:Tree α) (k / 2) a
  split
  ·rename_i hk
   cases j with
   |zero=>simp [Tree.get]
   |succ j=>
    simp only [Tree.get]
    split
    ·rename_i hj
     rw [ih _ (by omega)]
     simp only [Tree.get]
     by_cases e:j=k
     ·subst e;simp
     ·rw [if_neg (by omega),if_neg (by omega)]
    ·rename_i hj
     rw [if_neg (by intro e;have:j=k:=by omega
                    subst this;exact hj hk)]
  ·rename_i hk
   have hk1:k%2=1:=by
    have:=hk
    simp only [imp_false] at this
    omega
   cases j with
   |zero=>simp [Tree.get]
   |succ j=>
    simp only [Tree.get]
    split
    ·rename_i hj
     rw [if_neg (by omega)]
    ·rename_i hj
     have hj1:j%2=1:=by
      have:=hj
      simp only [imp_false] at this
      omega
     rw [ih _ (by omega)]
     simp only [Tree.get]
     by_cases e:j=k
     ·subst e;simp
     ·rw [if_neg (by omega),if_neg (by omega)]
 |f+1,.node l v r,0,a,j,_=>by
  cases j with
  |zero=>simp [Tree.set,Tree.get]
  |succ j=>simp [Tree.set,Tree.get]
 |f+1,.node l v r,k+1,a,j,h=>by
  simp only [Tree.set]
  split
  ·rename_i hk
   have ih:=Tree.get_set f l (k / 2) a
   cases j with
   |zero=>simp [Tree.get]
   |succ j=>
    simp only [Tree.get]
    split
    ·rename_i hj
     rw [ih _ (by omega)]
     by_cases e:j=k
     ·subst e;simp
     ·rw [if_neg (by omega),if_neg (by omega)]
    ·rename_i hj
     rw [if_neg (by intro e;have:j=k:=by omega
                    subst this;exact hj hk)]
  ·rename_i hk
   have ih:=Tree.get_set f r (k / 2) a
   have hk1:k%2=1:=by
    have:=hk
    simp only [imp_false] at this
    omega
   cases j with
   |zero=>simp [Tree.get]
   |succ j=>
    simp only [Tree.get]
    split
    ·rename_i hj
     rw [if_neg (by omega)]
    ·rename_i hj
     have hj1:j%2=1:=by
      have:=hj
      simp only [imp_false] at this
      omega
     rw [ih _ (by omega)]
     by_cases e:j=k
     ·subst e;simp
     ·rw [if_neg (by omega),if_neg (by omega)]
theorem LHeap.get_put(H:LHeap)(i:Nat)(o:LObj)(j:Nat):(H.put i o).get j=if j=i then some o else H.get j:=
 Tree.get_set _ _ _ _ _ (by omega)
theorem LHeap.get_push(H:LHeap)(o:LObj)(j:Nat):(H.push o).get j=if j=H.next then some o else H.get j:=
 Tree.get_set _ _ _ _ _ (by omega)
@[simp] theorem LHeap.next_put(H:LHeap)(i:Nat)(o:LObj):(H.put i o).next=H.next:=rfl
@[simp] theorem LHeap.next_push(H:LHeap)(o:LObj):(H.push o).next=H.next+1:=rfl
theorem allCells_iff:∀l:List LV,allCells l=true↔∀v∈l,v.isCell=true
 |[]=>by simp [allCells]
 |v::l=>by simp [allCells,allCells_iff l]
theorem sameFn_eq{f g:Fn}(h:sameFn f g=true):f=g:=by
 cases f<;>cases g<;>simp_all [sameFn]
mutual
theorem LV.beq_eq:∀(a b:LV),a.beq b=true->a=b
 |a,b,h=>by
  cases a<;>cases b<;>try (simp [LV.beq] at h;done)
  case bool.bool=>simpa [LV.beq] using h
  case int.int=>simpa [LV.beq] using h
  case str.str=>simpa [LV.beq] using h
  case ptr.ptr a b=>
   cases a<;>cases b<;>simp [LV.beq] at h |-;rename_i a b;cases a;cases b;simp_all
  case slice.slice a m c b n d=>
   cases a<;>cases b<;>cases c<;>cases d<;>simp [LV.beq] at h |-
   ·exact h
   ·exact h
   all_goals (rename_i a b _ _;cases a;cases b;simp_all)
  case map.map a b=>cases a<;>cases b<;>simp_all [LV.beq]
  case func.func f x y g u v=>
   simp [LV.beq] at h;rw [sameFn_eq h.1.1,beqs_eq _ _ h.1.2,beqs_eq _ _ h.2]
  case nilFunc.nilFunc=>rfl
  case iface.iface t v u w=>
   simp [LV.beq] at h;rw [h.1,LV.beq_eq _ _ h.2]
  case nilIface.nilIface=>rfl
  case agg.agg x y=>simp [LV.beq] at h;rw [beqs_eq _ _ h]
  case tuple.tuple x y=>simp [LV.beq] at h;rw [beqs_eq _ _ h]
theorem beqs_eq:∀(a b:List LV),beqs a b=true->a=b
 |[],[],_=>rfl
 |[],_::_,h=>by simp [beqs] at h
 |_::_,[],h=>by simp [beqs] at h
 |a::l,b::m,h=>by
  simp [beqs] at h;rw [LV.beq_eq _ _ h.1,beqs_eq _ _ h.2]
end
end Go.Lm

/- How the machine of its own stands to the model: values, objects, heaps. -/
namespace Go.Lm
open Go.RowKit (Below)
structure Loc where
 blk:Nat
 sh:Int
 tot:Nat
abbrev Gh:=Nat->Nat->Option Loc
def Gh.le(ι κ:Gh):Prop:=∀i u l,ι i u=some l->κ i u=some l
theorem Gh.le.refl(ι:Gh):ι.le ι:=fun _ _ _ h=>h
theorem Gh.le.trans{ι κ μ:Gh}(h:ι.le κ)(k:κ.le μ):ι.le μ:=fun _ _ _ e=>k _ _ _ (h _ _ _ e)
def PRel(ι:Gh)(a:LAddr)(b:Addr):Prop:=
 ∃l,ι a.id a.ver=some l/\0<=(a.off:Int)+l.sh/\b=⟨l.blk,((a.off:Int)+l.sh).toNat,none⟩
theorem PRel.mono{ι κ:Gh}(h:ι.le κ){a:LAddr}{b:Addr}:PRel ι a b->PRel κ a b:=
 fun ⟨l,h1,h2⟩=>⟨l,h _ _ _ h1,h2⟩
inductive FnRel (ι:Gh):Fn->Fn->Prop
 |func (f:FuncId):FnRel ι (.func f) (.func f)
 |yield {i:Nat} {l:Loc} (h:ι i 0=some l):FnRel ι (.yield i) (.yield l.blk)
theorem FnRel.mono{ι κ:Gh}(h:ι.le κ){f g:Fn}:FnRel ι f g->FnRel κ f g
 | .func f=>.func f
 | .yield e=>.yield (h _ _ _ e)
def FreeRel(ι:Gh)(a:LAddr)(len sz:Nat)(b:Addr)(c:Nat):Prop:=
 ∃l,ι a.id a.ver=some l/\1<=sz/\len<=c/\a.off+len*sz<=a.ver/\(a.ver:Int)+l.sh<=l.tot/\
  ((0<=(a.off:Int)+l.sh/\b=⟨l.blk,((a.off:Int)+l.sh).toNat,none⟩/\(a.off:Int)+l.sh+(c*sz:Nat)=l.tot)\/(len=0/\c=0/\(a.off:Int)+l.sh=l.tot))
mutual
inductive VRel (ι:Gh):LV->Value->Prop
 |junk {v:Value} (h:v.oneCell'=true):VRel ι .junk v
 |lost (v:Value):VRel ι .lost v
 |bool (b:Bool):VRel ι (.bool b) (.bool b)
 |int (k:IntKind) (n:Int):VRel ι (.int k n) (.int k n)
 |str {l:List UInt8} (s:ByteArray) (h:s.data.toList=l):VRel ι (.str l) (.string s)
 |nilptr:VRel ι (.ptr none) (.pointer none)
 |ptr {a:LAddr} {b:Addr} (h:PRel ι a b):VRel ι (.ptr (some a)) (.pointer (some b))
 |nilslice:VRel ι (.slice none 0 (.exact 0)) (.slice none 0 0)
 |slice {a:LAddr} {b:Addr} {n c:Nat} (h:0<c->PRel ι a b) (hd:∃l,ι a.id a.ver=some l) (hn:n<=c):VRel ι (.slice (some a) n (.exact c)) (.slice (some b) n c)
 |free {a:LAddr} {b:Addr} {n c sz:Nat} (h:FreeRel ι a n sz b c):VRel ι (.slice (some a) n (.free sz)) (.slice (some b) n c)
 |nilmap:VRel ι (.map none) (.map none)
 |map {i:Nat} {l:Loc} (h:ι i 0=some l):VRel ι (.map (some i)) (.map (some l.blk))
 |func {f g:Fn} {x c:List LV} {y d:Array Value} (h:FnRel ι f g) (hx:VRels ι x y.toList) (hc:VRels ι c d.toList):VRel ι (.func f x c) (.func g y d)
 |nilFunc:VRel ι .nilFunc .nilFunc
 |iface (t:TypeId) {x:LV} {v:Value} (h:VRel ι x v):VRel ι (.iface t x) (.iface t v)
 |nilIface:VRel ι .nilIface .nilIface
 |agg {x:List LV} {y:Array Value} (h:VRels ι x y.toList):VRel ι (.agg x) (.agg y)
 |tuple {x:List LV} {y:Array Value} (h:VRels ι x y.toList):VRel ι (.tuple x) (.tuple y)
inductive VRels (ι:Gh):List LV->List Value->Prop
 |nil:VRels ι [] []
 |cons {x:LV} {v:Value} {l:List LV} {m:List Value} (h:VRel ι x v) (t:VRels ι l m):VRels ι (x::l) (v::m)
end
mutual
theorem VRel.mono{ι κ:Gh}(h:ι.le κ):∀{x:LV} {v:Value},VRel ι x v->VRel κ x v
 |_,_,.junk e=>.junk e
 |_,_,.lost v=>.lost v
 |_,_,.bool b=>.bool b
 |_,_,.int k n=>.int k n
 |_,_,.str s e=>.str s e
 |_,_,.nilptr=>.nilptr
 |_,_,.ptr e=>.ptr (e.mono h)
 |_,_,.nilslice=>.nilslice
 |_,_,.slice e hd hn=>.slice (fun hc=>(e hc).mono h) (hd.imp fun _ x=>h _ _ _ x) hn
 |_,_,.free e=>.free (by obtain ⟨l,h1,h2⟩:=e;exact ⟨l,h _ _ _ h1,h2⟩)
 |_,_,.nilmap=>.nilmap
 |_,_,.map e=>.map (h _ _ _ e)
 |_,_,.func e hx hc=>.func (e.mono h) (VRels.mono h hx) (VRels.mono h hc)
 |_,_,.nilFunc=>.nilFunc
 |_,_,.iface t e=>.iface t (VRel.mono h e)
 |_,_,.nilIface=>.nilIface
 |_,_,.agg e=>.agg (VRels.mono h e)
 |_,_,.tuple e=>.tuple (VRels.mono h e)
theorem VRels.mono{ι κ:Gh}(h:ι.le κ):∀{x:List LV} {v:List Value},VRels ι x v->VRels κ x v
 |_,_,.nil=>.nil
 |_,_,.cons e t=>.cons (VRel.mono h e) (VRels.mono h t)
end
theorem VRels.iff{ι:Gh}:∀{l:List LV} {m:List Value},VRels ι l m↔l.length=m.length/\∀(i:Nat) (a:LV) (b:Value),l[i]? =some a->m[i]? =some b->VRel ι a b
 |[],[]=>by simp [VRels.nil]
 |[],_::_=>by simp;intro h;cases h
 |_::_,[]=>by simp;intro h;cases h
 |x::l,v::m=>by
  constructor
  ·intro h;cases h with
   |cons h t=>
    obtain ⟨h1,h2⟩:=VRels.iff.1 t;refine ⟨by simp [h1],fun i a b ha hb=> ?_⟩;cases i with
    |zero=>simp at ha hb;subst ha;subst hb;exact h
    |succ i=>exact h2 i a b (by simpa using ha) (by simpa using hb)
  ·rintro ⟨h1,h2⟩;exact .cons (h2 0 _ _ (by simp) (by simp)) (VRels.iff.2 ⟨by simpa using h1,fun i a b ha hb=>h2 (i+1) a b (by simpa using ha) (by simpa using hb)⟩)
theorem VRels.len{ι:Gh}{l:List LV}{m:List Value}(h:VRels ι l m):l.length=m.length:=(VRels.iff.1 h).1
theorem VRels.get{ι:Gh}{l:List LV}{m:List Value}(h:VRels ι l m){i:Nat}{a:LV}(ha:l[i]? =some a):∃b,m[i]? =some b/\VRel ι a b:=by
 obtain ⟨h1,h2⟩:=VRels.iff.1 h;have hi:i<m.length:=by
  have:=(List.getElem?_eq_some_iff.1 ha).1;omega
 exact ⟨m[i],List.getElem?_eq_getElem hi,h2 i _ _ ha (List.getElem?_eq_getElem hi)⟩
theorem VRels.get'{ι:Gh}{l:List LV}{m:List Value}(h:VRels ι l m){i:Nat}{b:Value}(hb:m[i]? =some b):∃a,l[i]? =some a/\VRel ι a b:=by
 obtain ⟨h1,h2⟩:=VRels.iff.1 h;have hi:i<l.length:=by
  have:=(List.getElem?_eq_some_iff.1 hb).1;omega
 exact ⟨l[i],List.getElem?_eq_getElem hi,h2 i _ _ (List.getElem?_eq_getElem hi) hb⟩
theorem VRels.append{ι:Gh}{l l':List LV}{m m':List Value}(h:VRels ι l m)(h':VRels ι l' m'):VRels ι (l++l') (m++m'):=
 match h with
 | .nil=>h'
 | .cons e t=>.cons e (VRels.append t h')
theorem VRels.take{ι:Gh}{l:List LV}{m:List Value}(h:VRels ι l m)(n:Nat):VRels ι (l.take n) (m.take n):=by
 obtain ⟨h1,h2⟩:=VRels.iff.1 h;refine VRels.iff.2 ⟨by simp [h1],fun i a b ha hb=> ?_⟩;rw [List.getElem?_take] at ha hb;split at ha
 ·rename_i hi;rw [if_pos hi] at hb;exact h2 i a b ha hb
 ·cases ha
theorem VRels.drop{ι:Gh}{l:List LV}{m:List Value}(h:VRels ι l m)(n:Nat):VRels ι (l.drop n) (m.drop n):=by
 obtain ⟨h1,h2⟩:=VRels.iff.1 h;refine VRels.iff.2 ⟨by simp [h1],fun i a b ha hb=> ?_⟩;rw [List.getElem?_drop] at ha hb;exact h2 _ a b ha hb
theorem VRels.set{ι:Gh}{l:List LV}{m:List Value}(h:VRels ι l m)(n:Nat){a:LV}{b:Value}(e:VRel ι a b):VRels ι (l.set n a) (m.set n b):=by
 obtain ⟨h1,h2⟩:=VRels.iff.1 h;refine VRels.iff.2 ⟨by simp [h1],fun i x y hx hy=> ?_⟩;rw [List.getElem?_set] at hx hy;split at hx
 ·rename_i hi;rw [if_pos hi] at hy;split at hx
  ·rename_i hl;rw [if_pos (by omega)] at hy;simp at hx hy;subst hx;subst hy;exact e
  ·cases hx
 ·rename_i hi;rw [if_neg hi] at hy;exact h2 i x y hx hy
theorem VRels.map{ι:Gh}{α:Type}{f:α->LV}{g:α->Value}:∀{l:List α},(∀a∈l,VRel ι (f a) (g a))->VRels ι (l.map f) (l.map g)
 |[],_=>.nil
 |a::l,h=>.cons (h a List.mem_cons_self) (VRels.map fun b hb=>h b (List.mem_cons_of_mem _ hb))
theorem VRels.replicate{ι:Gh}{a:LV}{b:Value}(e:VRel ι a b):∀n,VRels ι (List.replicate n a) (List.replicate n b)
 |0=>.nil
 |n+1=>.cons e (VRels.replicate e n)
theorem VRels.rep{ι:Gh}{z:List LV}{y:List Value}(h:VRels ι z y):∀n,VRels ι (List.replicate n z).flatten (List.replicate n y).flatten
 |0=>.nil
 |n+1=>by simp only [List.replicate_succ,List.flatten_cons];exact h.append (VRels.rep h n)
theorem VRel.cells{ι:Gh}{x:LV}{v:Value}(h:VRel ι x v)(hc:x≠.lost)(hj:x≠.junk):VRels ι x.cells v.cells.toList:=by
 cases h<;>simp_all [LV.cells,Value.cells]<;>exact .cons (by constructor<;>assumption) .nil
theorem oneCell_cells{v:Value}(h:v.oneCell'=true):v.cells=#[v]:=by cases v<;>simp_all [Value.oneCell',Value.cells]
theorem VRel.cells'{ι:Gh}{x:LV}{v:Value}(h:VRel ι x v)(hc:x≠.lost):VRels ι x.cells v.cells.toList:=by
 by_cases hj:x=.junk
 ·subst hj;cases h with
  |junk h=>rw [oneCell_cells h];exact .cons (.junk h) .nil
 ·exact h.cells hc hj
theorem VRel.oneCell{ι:Gh}{x:LV}{v:Value}(h:VRel ι x v)(hc:x.isCell=true):v.oneCell'=true:=by
 cases h<;>simp_all [LV.isCell,Value.oneCell']
theorem VRels.oneCell{ι:Gh}{x:List LV}{v:List Value}(h:VRels ι x v)(hc:allCells x=true):∀w∈v,w.oneCell'=true:=by
 intro w hw;obtain ⟨i,hi,rfl⟩:=List.mem_iff_getElem.1 hw;obtain ⟨a,ha,e⟩:=h.get' (List.getElem?_eq_getElem hi);exact e.oneCell ((allCells_iff x).1 hc a (List.mem_of_getElem? ha))
theorem toLV_rel(ι:Gh):∀(n:Nat) (v:Value) (x:LV),toLV n v=some x->VRel ι x v
 |0,_,_,h=>by simp [toLV] at h
 |n+1,v,x,h=>by
  have all:∀(cs:Array Value) (xs:List LV),mapO (toLV n) cs.toList=some xs->VRels ι xs cs.toList:=by
   intro cs xs hm;obtain ⟨h1,h2⟩:=mapO_spec _ _ _ hm;refine VRels.iff.2 ⟨h1,fun i a b ha hb=> ?_⟩;obtain ⟨c,hc,hr⟩:=h2 i b hb;rw [hr] at ha;simp at ha;subst ha;exact toLV_rel ι n b c hc
  cases v with
  |bool b=>simp [toLV] at h;subst h;exact .bool b
  |int k m=>simp [toLV] at h;subst h;exact .int k m
  |string s=>simp [toLV] at h;subst h;exact .str s (by simp)
  |pointer a=>cases a with
   |none=>simp [toLV] at h;subst h;exact .nilptr
   |some a=>simp [toLV] at h
  |slice a l c=>cases a with
   |none=>cases l<;>cases c<;>simp [toLV] at h;subst h;exact .nilslice
   |some a=>simp [toLV] at h
  |map r=>cases r with
   |none=>simp [toLV] at h;subst h;exact .nilmap
   |some a=>simp [toLV] at h
  |nilFunc=>simp [toLV] at h;subst h;exact .nilFunc
  |nilIface=>simp [toLV] at h;subst h;exact .nilIface
  |agg cs=>
   simp only [toLV,Option.map_eq_some_iff] at h;obtain ⟨xs,hm,rfl⟩:=h;exact .agg (all cs xs hm)
  |tuple cs=>
   simp only [toLV,Option.map_eq_some_iff] at h;obtain ⟨xs,hm,rfl⟩:=h;exact .tuple (all cs xs hm)
  |float=>simp [toLV] at h
  |complex=>simp [toLV] at h
  |chan=>simp [toLV] at h
  |func=>simp [toLV] at h
  |iface=>simp [toLV] at h
end Go.Lm

/- The heaps of both machines, and how they go on together. -/
namespace Go.Lm
open Go.RowKit (Below)
inductive Rels {α β:Type} (R:α->β->Prop):List α->List β->Prop
 |nil:Rels R [] []
 |cons {a:α} {b:β} {l:List α} {m:List β} (h:R a b) (t:Rels R l m):Rels R (a::l) (b::m)
theorem Rels.mono{α β:Type}{R S:α->β->Prop}(h:∀a b,R a b->S a b):∀{l:List α} {m:List β},Rels R l m->Rels S l m
 |_,_,.nil=>.nil
 |_,_,.cons e t=>.cons (h _ _ e) (t.mono h)
theorem Rels.len{α β:Type}{R:α->β->Prop}:∀{l:List α} {m:List β},Rels R l m->l.length=m.length
 |_,_,.nil=>rfl
 |_,_,.cons _ t=>by simp [t.len]
theorem Rels.append{α β:Type}{R:α->β->Prop}{l l':List α}{m m':List β}(h:Rels R l m)(h':Rels R l' m'):Rels R (l++l') (m++m'):=
 match h with
 | .nil=>h'
 | .cons e t=>.cons e (Rels.append t h')
theorem Rels.get{α β:Type}{R:α->β->Prop}:∀{l:List α} {m:List β},Rels R l m->∀{i:Nat} {a:α},l[i]? =some a->∃b,m[i]? =some b/\R a b
 |_,_,.nil,i,a,h=>by simp at h
 |_,_,.cons e t,i,a,h=>by
  cases i with
  |zero=>simp at h;subst h;exact ⟨_,by simp,e⟩
  |succ i=>simpa using t.get (by simpa using h)
theorem Rels.set{α β:Type}{R:α->β->Prop}:∀{l:List α} {m:List β},Rels R l m->∀(n:Nat) {a:α} {b:β},R a b->Rels R (l.set n a) (m.set n b)
 |_,_,.nil,n,_,_,_=>by simp;exact .nil
 |_,_,.cons _ t,0,_,_,e=>.cons e t
 |_,_,.cons h t,n+1,_,_,e=>.cons h (t.set n e)
theorem Rels.erase{α β:Type}{R:α->β->Prop}:∀{l:List α} {m:List β},Rels R l m->∀(n:Nat),Rels R (l.eraseIdx n) (m.eraseIdx n)
 |_,_,.nil,n=>by simp;exact .nil
 |_,_,.cons _ t,0=>t
 |_,_,.cons h t,n+1=>.cons h (t.erase n)
inductive TgtRel (ι:Gh):LTarget->Target->Prop
 |fn {f g:Fn} {c:List LV} {d:Array Value} (h:FnRel ι f g) (hc:VRels ι c d.toList):TgtRel ι (.fn f c) (.fn g d)
 |collected {i:Nat} {l:Loc} (h:ι i 0=some l):TgtRel ι (.collected i) (.collected l.blk)
structure DefRel (ι:Gh) (d:LDef) (e:Deferred):Prop where
 target:TgtRel ι d.target e.target
 args:VRels ι d.args e.args.toList
theorem DefRel.mono{ι κ:Gh}(h:ι.le κ){d:LDef}{e:Deferred}(r:DefRel ι d e):DefRel κ d e:=
 ⟨match d.target,e.target,r.target with
  |_,_,.fn a b=>.fn (a.mono h) (b.mono h)
  |_,_,.collected a=>.collected (h _ _ _ a),r.args.mono h⟩
structure LoopRel (ι:Gh) (a:LLoop) (b:Loop):Prop where
 state:b.state=a.state
 pending:b.pending=a.pending
 fn:b.fn=a.fn
 tmps:VRels ι a.tmps b.tmps.toList
 params:b.params=a.params
 assign:b.assign=a.assign
 body:b.body=a.body
 defers:∃l,ι a.defers 0=some l/\b.defers=l.blk
theorem LoopRel.mono{ι κ:Gh}(h:ι.le κ){a:LLoop}{b:Loop}(r:LoopRel ι a b):LoopRel κ a b:=
 ⟨r.state,r.pending,r.fn,r.tmps.mono h,r.params,r.assign,r.body,r.defers.imp fun _ x=>⟨h _ _ _ x.1,x.2⟩⟩
structure ERel (ι:Gh) (e:LEntry) (c:MapEntry):Prop where
 key:VRel ι e.key c.key
 val:VRel ι e.val c.val
 born:c.born=e.born
theorem ERel.mono{ι κ:Gh}(h:ι.le κ){a:LEntry}{b:MapEntry}(r:ERel ι a b):ERel κ a b:=⟨r.key.mono h,r.val.mono h,r.born⟩
def FzRel(fz:FZ)(l:Loc)(fr:Nat×Nat):Prop:=
 fr.1=fr.2\/match fz with
  | .none=>False
  | .range lo hi=>(lo:Int)+l.sh<=fr.1/\(fr.2:Int)<=hi+l.sh
  | .mark=>l.tot<=fr.1
structure CellsAt (ι:Gh) (W:World) (l:Loc) (e:TypeId) (cs:List LV) (u:Nat) (fz:FZ) (ro:Bool) (c:Array Value) (fr:Nat×Nat):Prop where
 here:W.heap[l.blk]? =some (.cells c e fr)
 tot:c.size=l.tot
 fits:(u:Int)+l.sh<=l.tot
 fz:ro=false->FzRel fz l fr
 one:ro=false->∀(j:Nat) (v:Value),c[j]? =some v->v.oneCell'=true
 cell:∀(j:Nat) (x:LV),cs[j]? =some x->j<u->0<=(j:Int)+l.sh->∃v,c[((j:Int)+l.sh).toNat]? =some v/\VRel ι x v
inductive PlainRel (ι:Gh):LObj->Obj->Prop
 |map {es:List LEntry} {ces:Array MapEntry} (c:Nat) (h:Rels (ERel ι) es ces.toList):PlainRel ι (.map es c) (.map ces c)
 |stringIter {l:List UInt8} (s:ByteArray) (p:Nat) (h:s.data.toList=l):PlainRel ι (.stringIter l p) (.stringIter s p)
 |mapIterNone (since:Nat) (seen:List Nat) (st:Nat):PlainRel ι (.mapIter none since seen st) (.mapIter none since seen.toArray st)
 |mapIter {i:Nat} {l:Loc} (h:ι i 0=some l) (since:Nat) (seen:List Nat) (st:Nat):PlainRel ι (.mapIter (some i) since seen st) (.mapIter (some l.blk) since seen.toArray st)
 |loop {a:LLoop} {b:Loop} (h:LoopRel ι a b):PlainRel ι (.loop a) (.loop b)
 |deferredNone:PlainRel ι (.deferred none) (.deferred none)
 |deferred {ds:List LDef} {es:List Deferred} (h:Rels (DefRel ι) ds es):PlainRel ι (.deferred (some ds)) (.deferred (some es))
theorem PlainRel.mono{ι κ:Gh}(h:ι.le κ){a:LObj}{b:Obj}(r:PlainRel ι a b):PlainRel κ a b:=
 match r with
 | .map c e=>.map c (e.mono fun _ _=>ERel.mono h)
 | .stringIter s p e=>.stringIter s p e
 | .mapIterNone a b c=>.mapIterNone a b c
 | .mapIter e a b c=>.mapIter (h _ _ _ e) a b c
 | .loop e=>.loop (e.mono h)
 | .deferredNone=>.deferredNone
 | .deferred e=>.deferred (e.mono fun _ _=>DefRel.mono h)
def LObj.isCells:LObj->Bool
 | .cells .. =>true
 |_=>false
def ORel(ι:Gh)(W:World)(i:Nat)(o:LObj):Prop:=
 match o with
 | .cells cs e ver minv fz ro wh=>
  cs.length=ver/\minv<=ver/\allCells cs=true/\(∃l,ι i ver=some l)/\(wh=true->minv=ver/\∀l,ι i ver=some l->l.sh=0/\l.tot=ver)/\
   (∀u l,ι i u=some l->u<=ver/\(minv<=u->∃c fr,CellsAt ι W l e cs u fz ro c fr))/\
   ∀u u' l l',ι i u=some l->ι i u'=some l'->l.blk=l'.blk->l=l'
 |o=>∃l b,ι i 0=some l/\l.sh=0/\(∀u,u≠0->ι i u=none)/\W.heap[l.blk]? =some b/\PlainRel ι o b
theorem ORel.plain{ι:Gh}{W:World}{i:Nat}{o:LObj}(h:ORel ι W i o)(hc:o.isCells=false):
  ∃l b,ι i 0=some l/\l.sh=0/\(∀u,u≠0->ι i u=none)/\W.heap[l.blk]? =some b/\PlainRel ι o b:=by
 cases o<;>first |exact h |simp [LObj.isCells] at hc
theorem ORel.of_plain{ι:Gh}{W:World}{i:Nat}{o:LObj}{b:Obj}(h:PlainRel ι o b){l:Loc}(hl:ι i 0=some l)(hs:l.sh=0)(ho:∀u,u≠0->ι i u=none)
  (hb:W.heap[l.blk]? =some b):ORel ι W i o:=by
 cases h<;>exact ⟨l,_,hl,hs,ho,hb,by constructor<;>assumption⟩
def isRo(H:LHeap)(i:Nat):Prop:=∃cs e v m fz wh,H.get i=some (.cells cs e v m fz true wh)
structure HRel (ι:Gh) (H:LHeap) (W:World) (n0:Nat):Prop where
 dom:∀i u l,ι i u=some l->i<H.next/\l.blk<W.heap.size/\∃o,H.get i=some o/\ORel ι W i o
 sep:∀i u l j v m,ι i u=some l->ι j v=some m->l.blk=m.blk->i≠j->isRo H i/\isRo H j
 base:∀i u l,ι i u=some l->isRo H i\/n0<=l.blk
 size:n0<=W.heap.size
structure On (ι:Gh) (H:LHeap) (W:World) (ι':Gh) (H':LHeap) (W':World) (n0:Nat):Prop where
 le:ι.le ι'
 next:H.next<=H'.next
 below:Below n0 W W'
 keep:∀j,(∀u,ι j u=none)->j<H.next->H'.get j=H.get j
 fresh:∀j u l,ι' j u=some l->(∃u' l',ι j u'=some l')\/H.next<=j
theorem On.refl(ι:Gh)(H:LHeap)(W:World)(n0:Nat):On ι H W ι H W n0:=
 ⟨.refl _,Nat.le_refl _,.refl _ _,fun _ _ _=>rfl,fun _ u l h=>.inl ⟨u,l,h⟩⟩
theorem On.trans{ι κ μ:Gh}{H I J:LHeap}{W X Y:World}{n0:Nat}(h:On ι H W κ I X n0)(k:On κ I X μ J Y n0):On ι H W μ J Y n0:=
 ⟨h.le.trans k.le,Nat.le_trans h.next k.next,h.below.trans k.below,fun j hj hn=>by
  rw [k.keep j (fun u=> ?_) (Nat.lt_of_lt_of_le hn h.next),h.keep j hj hn];cases e:κ j u with
  |none=>rfl
  |some l=>
   rcases h.fresh j u l e with ⟨u',l',e'⟩ |e'
   ·rw [hj u'] at e';cases e'
   ·omega,fun j u l e=>by
  rcases k.fresh j u l e with ⟨u',l',e'⟩ |e'
  ·exact h.fresh j u' l' e'
  ·exact .inr (Nat.le_trans h.next e')⟩
theorem On.drew{ι:Gh}{H:LHeap}{W W':World}{n0:Nat}(hh:W'.heap=W.heap)(ho:W'.os=W.os)(ht:W'.tape=W.tape)(hu:W'.output=W.output):On ι H W ι H W' n0:=
 ⟨.refl _,Nat.le_refl _,⟨ho,ht,hu,by rw [hh];exact Nat.le_refl _,fun k _=>by rw [hh]⟩,fun _ _ _=>rfl,fun _ u l h=>.inl ⟨u,l,h⟩⟩
theorem CellsAt.congr{ι:Gh}{W W':World}{l:Loc}{e:TypeId}{cs:List LV}{u:Nat}{fz:FZ}{ro:Bool}{c:Array Value}{fr:Nat×Nat}
  (h:W'.heap[l.blk]? =W.heap[l.blk]?) (r:CellsAt ι W l e cs u fz ro c fr):CellsAt ι W' l e cs u fz ro c fr:=
 ⟨h.trans r.here,r.tot,r.fits,r.fz,r.one,r.cell⟩
theorem ORel.congr{ι:Gh}{W W':World}{i:Nat}{o:LObj}(h:∀u l,ι i u=some l->W'.heap[l.blk]? =W.heap[l.blk]?)(r:ORel ι W i o):ORel ι W' i o:=by
 cases o with
 |cells cs e ver minv fz ro wh=>
  obtain ⟨h1,h2,h3,h4,h5,h6,h7⟩:=r;refine ⟨h1,h2,h3,h4,h5,fun u l hu=>⟨(h6 u l hu).1,fun hm=> ?_⟩,h7⟩;obtain ⟨c,fr,hc⟩:=(h6 u l hu).2 hm;exact ⟨c,fr,hc.congr (h u l hu)⟩
 |_=>
  obtain ⟨l,b,h1,h2,h3,h4,h5⟩:=r;exact ⟨l,b,h1,h2,h3,(h 0 l h1).trans h4,h5⟩
theorem ORel.mono{ι κ:Gh}(h:ι.le κ){W:World}{i:Nat}(he:∀u,κ i u=ι i u){o:LObj}(r:ORel ι W i o):ORel κ W i o:=by
 cases o with
 |cells cs e ver minv fz ro wh=>
  obtain ⟨h1,h2,h3,h4,h5,h6,h7⟩:=r;refine ⟨h1,h2,h3,h4.imp fun l x=>(he _).trans x,fun hw=>⟨(h5 hw).1,fun l hl=>(h5 hw).2 l ((he _).symm.trans hl)⟩,fun u l hu=> ?_,
   fun u u' l l' hu hu'=>h7 u u' l l' ((he u).symm.trans hu) ((he u').symm.trans hu')⟩
  have hu':ι i u=some l:=(he u).symm.trans hu;refine ⟨(h6 u l hu').1,fun hm=> ?_⟩;obtain ⟨c,fr,hc⟩:=(h6 u l hu').2 hm;exact ⟨c,fr,hc.here,hc.tot,hc.fits,hc.fz,hc.one,fun j x hx hj h0=>(hc.cell j x hx hj h0).imp fun v hv=>⟨hv.1,hv.2.mono h⟩⟩
 |_=>
  obtain ⟨l,b,h1,h2,h3,h4,h5⟩:=r;exact ⟨l,b,(he 0).trans h1,h2,fun u hu=>(he u).trans (h3 u hu),h4,h5.mono h⟩
theorem HRel.step{ι κ:Gh}{H K:LHeap}{W X:World}{n0:Nat}(h:HRel ι H W n0)(i:Nat)(o:LObj)
  (hle:ι.le κ) (hoth:∀j u,j≠i->κ j u=ι j u) (hX:Below n0 W X)
  (hW:∀b,b<W.heap.size->(∀u l,ι i u=some l->l.blk≠b)->X.heap[b]? =W.heap[b]?)
  (hK:∀j,j≠i->K.get j=H.get j) (hn:H.next<=K.next) (hi:i<K.next) (hg:K.get i=some o) (ho:ORel κ X i o)
  (hro:(∃u l,ι i u=some l)->¬isRo H i) (hro':¬isRo K i)
  (hloc:∀u l,κ i u=some l->l.blk<X.heap.size/\n0<=l.blk/\((∃u' l',ι i u'=some l'/\l'.blk=l.blk)\/W.heap.size<=l.blk)):HRel κ K X n0:=by
 have ro_iff:∀j,j≠i->(isRo K j↔isRo H j):=fun j hj=>by unfold isRo;rw [hK j hj]
 refine ⟨fun j u l hj=> ?_,fun j u l k v m hj hk hb hne=> ?_,fun j u l hj=> ?_,Nat.le_trans h.size hX.size⟩
 ·by_cases e:j=i
  ·subst e;exact ⟨hi,(hloc u l hj).1,o,hg,ho⟩
  ·have hj':=(hoth j u e)▸hj;obtain ⟨h1,h2,o',h3,h4⟩:=h.dom j u l hj';refine ⟨by omega,Nat.lt_of_lt_of_le h2 hX.size,o',(hK j e).trans h3,?_⟩;refine ORel.mono hle (fun u=>hoth j u e) (ORel.congr (fun u' l' hu'=> ?_) h4);refine hW _ (h.dom j u' l' hu').2.1 fun u'' l'' hu'' hb=> ?_;exact hro ⟨_,_,hu''⟩ (h.sep i u'' l'' j u' l' hu'' hu' hb (Ne.symm e)).1
 ·have key:∀(j k u v:Nat) (l m:Loc),κ j u=some l->κ k v=some m->l.blk=m.blk->j=i->k≠i->False:=by
   intro j k u v l m hj hk hb e e';subst e;have hk':=(hoth k v e')▸hk;rcases (hloc u l hj).2.2 with ⟨u',l',hu',hb'⟩ |hb'
   ·exact hro ⟨_,_,hu'⟩ (h.sep j u' l' k v m hu' hk' (hb'.trans hb) (Ne.symm e')).1
   ·have:=(h.dom k v m hk').2.1;omega
  by_cases e:j=i
  ·exact (key j k u v l m hj hk hb e (fun e'=>hne (e.trans e'.symm))).elim
  ·by_cases e':k=i
   ·exact (key k j v u m l hk hj hb.symm e' e).elim
   ·rw [ro_iff j e,ro_iff k e'];exact h.sep j u l k v m ((hoth j u e)▸hj) ((hoth k v e')▸hk) hb hne
 ·by_cases e:j=i
  ·subst e;exact .inr (hloc u l hj).2.1
  ·rw [ro_iff j e];exact h.base j u l ((hoth j u e)▸hj)
theorem HRel.drew{ι:Gh}{H:LHeap}{W W':World}{n0:Nat}(h:HRel ι H W n0)(hh:W'.heap=W.heap):HRel ι H W' n0:=
 ⟨fun i u l hi=>by
  obtain ⟨h1,h2,o,h3,h4⟩:=h.dom i u l hi;exact ⟨h1,by rw [hh];exact h2,o,h3,ORel.congr (fun _ _ _=>by rw [hh]) h4⟩,h.sep,h.base,by rw [hh];exact h.size⟩
theorem HRel.grow{ι:Gh}{H:LHeap}{W W':World}{n0:Nat}(h:HRel ι H W n0)(hb:Below W.heap.size W W'):HRel ι H W' n0:=
 ⟨fun i u l hi=>by
  obtain ⟨h1,h2,o,h3,h4⟩:=h.dom i u l hi;exact ⟨h1,Nat.lt_of_lt_of_le h2 hb.size,o,h3,ORel.congr (fun u l hu=>hb.block _ (h.dom i u l hu).2.1) h4⟩,h.sep,h.base,Nat.le_trans h.size hb.size⟩
theorem On.grow{ι:Gh}{H:LHeap}{W W':World}{n0:Nat}(hn:n0<=W.heap.size)(hb:Below W.heap.size W W'):On ι H W ι H W' n0:=
 ⟨.refl _,Nat.le_refl _,⟨hb.os,hb.tape,hb.output,hb.size,fun k hk=>hb.block k (Nat.lt_of_lt_of_le hk hn)⟩,fun _ _ _=>rfl,fun _ u l h=>.inl ⟨u,l,h⟩⟩
def Gh.add(ι:Gh)(i u:Nat)(l:Loc):Gh:=fun j v=>if j=i/\v=u then some l else ι j v
theorem Gh.add_self(ι:Gh)(i u:Nat)(l:Loc):ι.add i u l i u=some l:=by simp [Gh.add]
theorem Gh.add_other(ι:Gh){i u:Nat}(l:Loc){j v:Nat}(h:¬(j=i/\v=u)):ι.add i u l j v=ι j v:=by simp [Gh.add,h]
theorem Gh.add_le(ι:Gh){i u:Nat}(l:Loc)(h:ι i u=none\/ι i u=some l):ι.le (ι.add i u l):=fun j v m e=>by
 by_cases c:j=i/\v=u
 ·obtain ⟨rfl,rfl⟩:=c;rcases h with h |h
  ·rw [h] at e;cases e
  ·rw [h] at e;rw [Gh.add_self];exact e
 ·rw [Gh.add_other _ _ c];exact e
theorem HRel.fresh_none{ι:Gh}{H:LHeap}{W:World}{n0:Nat}(h:HRel ι H W n0)(u:Nat):ι H.next u=none:=by
 cases e:ι H.next u with
 |none=>rfl
 |some l=>have:=(h.dom _ _ _ e).1;omega
theorem Below.push{n0:Nat}{W:World}(o:Obj)(h:n0<=W.heap.size):Below n0 W { W with heap:=W.heap.push o }:=
 ⟨rfl,rfl,rfl,by simp,fun k hk=>by
  show (W.heap.push o)[k]? =_;rw [Array.getElem?_push,if_neg (by omega)]⟩
theorem HRel.push_cells{ι:Gh}{H:LHeap}{W:World}{n0:Nat}(h:HRel ι H W n0){cs:List LV}{c:Array Value}(e:TypeId)(wh:Bool)(fz:FZ)(fr:Nat×Nat)
  (hc:VRels ι cs (c.toList.take cs.length)) (hcs:cs.length<=c.size) (hwh:wh=true->c.size=cs.length) (ha:allCells cs=true) (hfz:FzRel fz ⟨W.heap.size,0,c.size⟩ fr) (hone:∀(j:Nat) (v:Value),c[j]? =some v->v.oneCell'=true):
  let κ:=ι.add H.next cs.length ⟨W.heap.size,0,c.size⟩
  let K:=H.push (.cells cs e cs.length cs.length fz false wh)
  let X:World:={ W with heap:=W.heap.push (.cells c e fr) }
  HRel κ K X n0/\On ι H W κ K X n0:=by
 intro κ K X;have hnone:=h.fresh_none;have hle:ι.le κ:=Gh.add_le _ _ (.inl (hnone _));have hX:Below n0 W X:=Below.push _ h.size;refine ⟨h.step H.next (.cells cs e cs.length cs.length fz false wh) hle (fun j u hj=>Gh.add_other _ _ (fun c=>hj c.1)) hX ?_ ?_ (by simp [K]) (by simp [K]) (by simp [K,LHeap.get_push]) ?_ ?_ ?_ ?_,?_⟩
 ·intro b hb _;show (W.heap.push _)[b]? =_;rw [Array.getElem?_push,if_neg (by omega)]
 ·intro j hj;simp [K,LHeap.get_push,hj]
 ·refine ⟨rfl,Nat.le_refl _,ha,⟨_,Gh.add_self _ _ _ _⟩,fun hw=>⟨rfl,fun l hl=> ?_⟩,fun u l hu=> ?_,?_⟩
  ·rw [show κ H.next cs.length=some ⟨W.heap.size,0,c.size⟩ from Gh.add_self _ _ _ _] at hl;cases hl;exact ⟨rfl,hwh hw⟩
  ·by_cases hq:u=cs.length
   ·subst hq;rw [show κ H.next cs.length=some ⟨W.heap.size,0,c.size⟩ from Gh.add_self _ _ _ _] at hu;cases hu;refine ⟨Nat.le_refl _,fun _=>⟨c,fr,?_,rfl,by simp;omega,fun _=>hfz,fun _=>hone,fun j x hx hj _=> ?_⟩⟩
    ·show (W.heap.push _)[W.heap.size]? =_;simp
    ·obtain ⟨v,hv,hr⟩:=hc.get hx;rw [List.getElem?_take,if_pos hj] at hv;refine ⟨v,?_,hr.mono hle⟩;simpa using hv
   ·rw [show κ H.next u=ι H.next u from Gh.add_other _ _ (fun c=>hq c.2),hnone] at hu;cases hu
  ·intro u u' l l' hu hu' _;by_cases hq:u=cs.length
   ·by_cases hq':u'=cs.length
    ·subst hq;subst hq';rw [hu] at hu';cases hu';rfl
    ·rw [show κ H.next u'=ι H.next u' from Gh.add_other _ _ (fun c=>hq' c.2),hnone] at hu';cases hu'
   ·rw [show κ H.next u=ι H.next u from Gh.add_other _ _ (fun c=>hq c.2),hnone] at hu;cases hu
 ·rintro ⟨u,l,hu⟩;rw [hnone] at hu;cases hu
 ·rintro ⟨cs',e',v,m,fz',wh',hro⟩;simp [K,LHeap.get_push] at hro
 ·intro u l hu;by_cases hq:u=cs.length
  ·subst hq;rw [show κ H.next cs.length=some ⟨W.heap.size,0,c.size⟩ from Gh.add_self _ _ _ _] at hu;cases hu;exact ⟨by simp [X],h.size,.inr (Nat.le_refl _)⟩
  ·rw [show κ H.next u=ι H.next u from Gh.add_other _ _ (fun c=>hq c.2),hnone] at hu;cases hu
 ·refine ⟨hle,by simp [K],hX,fun j _ hj=>by simp [K,LHeap.get_push,Nat.ne_of_lt hj],fun j u l hj=> ?_⟩;by_cases hq:j=H.next
  ·exact .inr (by omega)
  ·rw [show κ j u=ι j u from Gh.add_other _ _ (fun c=>hq c.1)] at hj;exact .inl ⟨u,l,hj⟩
theorem HRel.push_plain{ι:Gh}{H:LHeap}{W:World}{n0:Nat}(h:HRel ι H W n0){o:LObj}{b:Obj}(ho:o.isCells=false)(hr:PlainRel ι o b):
  let κ:=ι.add H.next 0 ⟨W.heap.size,0,0⟩
  let X:World:={ W with heap:=W.heap.push b }
  HRel κ (H.push o) X n0/\On ι H W κ (H.push o) X n0:=by
 intro κ X;have hnone:=h.fresh_none;have hle:ι.le κ:=Gh.add_le _ _ (.inl (hnone _));have hX:Below n0 W X:=Below.push _ h.size;have hself:κ H.next 0=some ⟨W.heap.size,0,0⟩:=Gh.add_self _ _ _ _;have hoth:∀u,u≠0->κ H.next u=none:=fun u hu=>by
  rw [show κ H.next u=ι H.next u from Gh.add_other _ _ (fun c=>hu c.2),hnone]
 refine ⟨h.step H.next o hle (fun j u hj=>Gh.add_other _ _ (fun c=>hj c.1)) hX ?_ ?_ (by simp) (by simp) (by simp [LHeap.get_push]) ?_ ?_ ?_ ?_,?_⟩
 ·intro b' hb _;show (W.heap.push _)[b']? =_;rw [Array.getElem?_push,if_neg (by omega)]
 ·intro j hj;simp [LHeap.get_push,hj]
 ·exact ORel.of_plain (hr.mono hle) hself rfl hoth (by show (W.heap.push _)[W.heap.size]? =_;simp)
 ·rintro ⟨u,l,hu⟩;rw [hnone] at hu;cases hu
 ·rintro ⟨cs',e',v,m,fz',wh',hro⟩;rw [LHeap.get_push,if_pos rfl] at hro;cases hro;simp [LObj.isCells] at ho
 ·intro u l hu;by_cases hq:u=0
  ·subst hq;rw [hself] at hu;cases hu;exact ⟨by simp [X],h.size,.inr (Nat.le_refl _)⟩
  ·rw [hoth u hq] at hu;cases hu
 ·refine ⟨hle,by simp,hX,fun j _ hj=>by simp [LHeap.get_push,Nat.ne_of_lt hj],fun j u l hj=> ?_⟩;by_cases hq:j=H.next
  ·exact .inr (by omega)
  ·rw [show κ j u=ι j u from Gh.add_other _ _ (fun c=>hq c.1)] at hj;exact .inl ⟨u,l,hj⟩
theorem HRel.put_plain{ι:Gh}{H:LHeap}{W:World}{n0:Nat}(h:HRel ι H W n0){i:Nat}{l:Loc}(hl:ι i 0=some l){o o':LObj}(hg:H.get i=some o)(hc:o.isCells=false)
  (hc':o'.isCells=false) {b:Obj} (hr:PlainRel ι o' b):
  let X:World:={ W with heap:=W.heap.setIfInBounds l.blk b }
  HRel ι (H.put i o') X n0/\On ι H W ι (H.put i o') X n0:=by
 intro X;obtain ⟨hi,hb,o1,hg1,hor⟩:=h.dom i 0 l hl;rw [hg] at hg1;cases hg1;obtain ⟨l',b',hl',hs,ho,hb',_⟩:=hor.plain hc;rw [hl] at hl';cases hl';have hnro:¬isRo H i:=by
  rintro ⟨cs',e',v,m,fz',wh',hro⟩;rw [hg] at hro;cases hro;simp [LObj.isCells] at hc
 have hn0:n0<=l.blk:=(h.base i 0 l hl).resolve_left hnro;have hX:Below n0 W X:=⟨rfl,rfl,rfl,by simp [X],fun k hk=>by
  show (W.heap.setIfInBounds l.blk b)[k]? =_;rw [Array.getElem?_setIfInBounds_ne (by omega)]⟩
 refine ⟨h.step i o' (.refl _) (fun _ _ _=>rfl) hX ?_ (fun j hj=>by simp [LHeap.get_put,hj]) (by simp) (by simpa using hi) (by simp [LHeap.get_put]) ?_ (fun _=>hnro) ?_ ?_,?_⟩
 ·intro b1 _ hne;show (W.heap.setIfInBounds l.blk b)[b1]? =_;rw [Array.getElem?_setIfInBounds_ne (hne 0 l hl)]
 ·refine ORel.of_plain hr hl hs ho ?_;show (W.heap.setIfInBounds l.blk b)[l.blk]? =_;rw [Array.getElem?_setIfInBounds_self_of_lt hb]
 ·rintro ⟨cs',e',v,m,fz',wh',hro⟩;rw [LHeap.get_put,if_pos rfl] at hro;cases hro;simp [LObj.isCells] at hc'
 ·intro u l1 hu;have:u=0:=by
   by_cases hq:u=0
   ·exact hq
   ·rw [ho u hq] at hu;cases hu
  subst this;rw [hl] at hu;cases hu;exact ⟨by simpa [X] using hb,hn0,.inl ⟨0,l,hl,rfl⟩⟩
 ·refine ⟨.refl _,by simp,hX,fun j hj _=> ?_,fun j u l hj=>.inl ⟨u,l,hj⟩⟩;rw [LHeap.get_put,if_neg];rintro rfl;rw [hj 0] at hl;cases hl
end Go.Lm

/- Loads, stores, appended cells, frozen cells: both machines go on together. -/
namespace Go.Lm
open Go.RowKit (Below)
variable {P:Program}
theorem addr_add(k o j:Nat):(⟨k,o,none⟩:Addr).add j=⟨k,o+j,none⟩:=by
 unfold Addr.add;split
 ·rename_i h;subst h;rfl
 ·rfl
theorem cell_of{W:World}{k:Nat}{c:Array Value}{e:TypeId}{fr:Nat×Nat}(h:W.heap[k]? =some (.cells c e fr))(o:Nat):W.cell? ⟨k,o,none⟩=c[o]? :=by
 unfold World.cell?;simp [h]
theorem frozen_of{W:World}{k:Nat}{c:Array Value}{e:TypeId}{fr:Nat×Nat}(h:W.heap[k]? =some (.cells c e fr))(o:Nat):
  W.frozen? ⟨k,o,none⟩=(decide (fr.1<=o)&&decide (o<fr.2)):=by
 unfold World.frozen?;simp [h]
theorem setCell_of{W:World}{k:Nat}{c:Array Value}{e:TypeId}{fr:Nat×Nat}(h:W.heap[k]? =some (.cells c e fr))(o:Nat)(v:Value):
  W.setCell ⟨k,o,none⟩ v={ W with heap:=W.heap.setIfInBounds k (.cells (c.setIfInBounds o v) e fr) }:=by
 unfold World.setCell;congr 1;have hk:k<W.heap.size:=(Array.getElem?_eq_some_iff.1 h).1;have hv:W.heap[k]=.cells c e fr:=(Array.getElem?_eq_some_iff.1 h).2;apply Array.ext
 ·simp
 ·intro j h1 h2;rw [Array.getElem_modify,Array.getElem_setIfInBounds];split
  ·rename_i hj;subst hj;simp [hv]
  ·rfl
theorem run_storeCells{k o:Nat}{e:TypeId}{fr:Nat×Nat}:∀(vs:List Value) (i:Nat) (W:World) (c:Array Value),W.heap[k]? =some (.cells c e fr)->
  (∀v∈vs,v.oneCell'=true)->o+i+vs.length<=c.size->(∀j,j<vs.length->¬(fr.1<=o+i+j/\o+i+j<fr.2))->vs≠[]->
  ∃c':Array Value,c'.size=c.size/\(∀j,c'[j]? =if o+i<=j/\j<o+i+vs.length then vs[j-(o+i)]? else c[j]?)/\
   (storeCells ⟨k,o,none⟩ vs i).run P W=.ok () { W with heap:=W.heap.setIfInBounds k (.cells c' e fr) }
 |[],_,_,_,_,_,_,_,h=>absurd rfl h
 |v::vs,i,W,c,hk,h1,hsz,hfz,_=>by
  have hlt:k<W.heap.size:=(Array.getElem?_eq_some_iff.1 hk).1;have hv:=h1 v List.mem_cons_self;have hsz':o+i+vs.length+1<=c.size:=by simpa [Nat.add_assoc] using hsz
  have hrun:(store ((⟨k,o,none⟩:Addr).add i) v).run P W=.ok () { W with heap:=W.heap.setIfInBounds k (.cells (c.setIfInBounds (o+i) v) e fr) }:=by
   rw [addr_add,run_store P W _ v _ hv,cell_of hk,Array.getElem?_eq_getElem (by omega)];have hf:W.frozen? ⟨k,o+i,none⟩=false:=by
    rw [frozen_of hk];have:=hfz 0 (by simp);simp only [Nat.add_zero] at this;simp only [Bool.and_eq_false_iff,decide_eq_false_iff_not];omega
   simp only [hf,Bool.false_eq_true,if_false];rw [setCell_of hk]
  have hk1:({ W with heap:=W.heap.setIfInBounds k (.cells (c.setIfInBounds (o+i) v) e fr) }:World).heap[k]? =some (.cells (c.setIfInBounds (o+i) v) e fr):=by
   show (W.heap.setIfInBounds k _)[k]? =_;rw [Array.getElem?_setIfInBounds_self_of_lt hlt]
  by_cases hvs:vs=[]
  ·subst hvs;refine ⟨c.setIfInBounds (o+i) v,by simp,fun j=> ?_,?_⟩
   ·rw [Array.getElem?_setIfInBounds];by_cases hj:o+i=j
    ·subst hj;simp;omega
    ·rw [if_neg hj,if_neg (by simp;omega)]
   ·simp only [storeCells,Sem.run_bind,hrun,Result.andThen_ok,Sem.run_pure]
  ·obtain ⟨c',hs,hc',hr⟩:=run_storeCells (o:=o) vs (i+1) _ _ hk1 (fun w hw=>h1 w (List.mem_cons_of_mem _ hw)) (by simp;omega)
    (fun j hj=>by have:=hfz (j+1) (by simp;omega);rw [show o+(i+1)+j=o+i+(j+1) by omega];exact this) hvs
   refine ⟨c',by simpa using hs,fun j=> ?_,?_⟩
   ·rw [hc' j,Array.getElem?_setIfInBounds];by_cases hj:o+i=j
    ·subst hj;rw [if_neg (by omega),if_pos rfl,if_pos (by omega),if_pos (by simp)];simp
    ·rw [if_neg hj];by_cases hc:o+(i+1)<=j/\j<o+(i+1)+vs.length
     ·rw [if_pos hc,if_pos (by simp;omega),show j-(o+i)=(j-(o+(i+1)))+1 by omega];simp
     ·rw [if_neg hc,if_neg (by simp;omega)]
   ·simp only [storeCells,Sem.run_bind,hrun,Result.andThen_ok];rw [hr];congr 2;exact Array.setIfInBounds_setIfInBounds ..
theorem cells_of_get{ι:Gh}{H:LHeap}{W:World}{n0:Nat}(h:HRel ι H W n0){i u:Nat}{l:Loc}(hl:ι i u=some l){cs:List LV}{e:TypeId}{ver minv:Nat}{fz:FZ}{ro wh:Bool}
  (hg:H.get i=some (.cells cs e ver minv fz ro wh)):ORel ι W i (.cells cs e ver minv fz ro wh):=by
 obtain ⟨_,_,o,ho,hr⟩:=h.dom i u l hl;rw [hg] at ho;cases ho;exact hr
theorem load_rel{ι:Gh}{H:LHeap}{W:World}{n0:Nat}(h:HRel ι H W n0){a:LAddr}{b:Addr}(hp:PRel ι a b){n:Nat}{cs:List LV}(hl:loadN H a n=some cs):
  ∃vs:List Value,VRels ι cs vs/\vs.length=n/\allCells cs=true/\∀(j:Nat) (v:Value),vs[j]? =some v->W.cell? (b.add j)=some v:=by
 obtain ⟨l,hlo,h0,rfl⟩:=hp;simp only [loadN] at hl;split at hl
 ·rename_i os e ver minv fz ro wh hg;split at hl
  ·rename_i hc;simp only [Bool.and_eq_true,Nat.ble_eq] at hc;obtain ⟨hlen,hm,hall,_,_,hu,_⟩:=cells_of_get h hlo hg;obtain ⟨c,fr,hC⟩:=(hu _ _ hlo).2 hc.1;obtain ⟨ht,rfl⟩:=takeN_some _ _ _ hl;rw [dropN_eq] at ht |-;simp only [List.length_drop] at ht;have hle:=(hu _ _ hlo).1;have hcell:∀j,j<n->∃v,c[((a.off:Int)+l.sh).toNat+j]? =some v/\∃x,os[a.off+j]? =some x/\VRel ι x v:=by
    intro j hj;have hj':a.off+j<os.length:=by omega
    obtain ⟨v,hv,hr⟩:=hC.cell (a.off+j) _ (List.getElem?_eq_getElem hj') (by omega) (by omega);refine ⟨v,?_,_,List.getElem?_eq_getElem hj',hr⟩;rw [<-hv];congr 1;omega
   refine ⟨(c.toList.drop ((a.off:Int)+l.sh).toNat).take n,VRels.iff.2 ⟨?_,?_⟩,?_,?_,?_⟩
   ·have:((a.off:Int)+l.sh).toNat+n<=c.size:=by
     have:=hC.tot;have:=hC.fits;omega
    simp;omega
   ·intro i x v hx hv;rw [List.getElem?_take] at hx hv;split at hx
    ·rename_i hi;rw [if_pos hi] at hv;rw [List.getElem?_drop] at hx hv;obtain ⟨w,hw,y,hy,hr⟩:=hcell i hi;rw [hx] at hy;cases hy;rw [<-Array.getElem?_toList,hv] at hw;cases hw;exact hr
    ·cases hx
   ·have:((a.off:Int)+l.sh).toNat+n<=c.size:=by
     have:=hC.tot;have:=hC.fits;omega
    simp;omega
   ·rw [allCells_iff] at hall |-;exact fun v hv=>hall v (List.mem_of_mem_drop (List.mem_of_mem_take hv))
   ·intro j v hv;rw [List.getElem?_take] at hv;split at hv
    ·rw [List.getElem?_drop] at hv;rw [addr_add,cell_of hC.here,<-hv];simp
    ·cases hv
  ·cases hl
 ·cases hl
theorem load1_rel{ι:Gh}{H:LHeap}{W:World}{n0:Nat}(h:HRel ι H W n0){a:LAddr}{b:Addr}(hp:PRel ι a b){x:LV}(hl:load1 H a=some x):
  ∃v,VRel ι x v/\x.isCell=true/\W.cell? b=some v:=by
 have hN:loadN H a 1=some [x]:=by
  simp only [load1] at hl;simp only [loadN];split at hl
  ·split at hl
   ·rename_i hc;rw [if_pos hc];rw [nth_eq] at hl;rw [dropN_eq];obtain ⟨h1,h2⟩:=List.getElem?_eq_some_iff.1 hl;rw [takeN_of _ _ (by simp;omega)];congr 1;rw [List.drop_eq_getElem_cons h1];simp [h2]
   ·cases hl
  ·cases hl
 obtain ⟨vs,h1,h2,h3,h4⟩:=load_rel h hp hN
 match vs,h2 with
 |[v],_=>
  cases h1 with
  |cons e t=>
   refine ⟨v,e,by simpa [allCells] using h3,?_⟩;have:=h4 0 v (by simp);obtain ⟨l,_,_,rfl⟩:=hp
   rwa [addr_add,Nat.add_zero] at this
theorem HRel.put_cells{ι:Gh}{H:LHeap}{W:World}{n0:Nat}(h:HRel ι H W n0){i:Nat}{l:Loc}{cs cs':List LV}{e:TypeId}{ver minv minv':Nat}{fz fz':FZ}{wh:Bool}
  (hl:ι i ver=some l) (hg:H.get i=some (.cells cs e ver minv fz false wh)) (hlen:cs'.length=ver) (hm:minv'<=ver) (hwm:minv=ver->minv'=ver) (hall:allCells cs'=true)
  {c':Array Value} {fr':Nat×Nat} (hc:c'.size=l.tot) (hfz:FzRel fz' l fr') (hone:∀(j:Nat) (v:Value),c'[j]? =some v->v.oneCell'=true)
  (hcell:∀(j:Nat) (x:LV),cs'[j]? =some x->0<=(j:Int)+l.sh->∃v,c'[((j:Int)+l.sh).toNat]? =some v/\VRel ι x v)
  (hold:∀u m,ι i u=some m->u≠ver->minv'<=u->∃c fr,CellsAt ι { W with heap:=W.heap.setIfInBounds l.blk (.cells c' e fr') } m e cs' u fz' false c fr):
  let X:World:={ W with heap:=W.heap.setIfInBounds l.blk (.cells c' e fr') }
  HRel ι (H.put i (.cells cs' e ver minv' fz' false wh)) X n0/\On ι H W ι (H.put i (.cells cs' e ver minv' fz' false wh)) X n0:=by
 intro X;obtain ⟨hi,hb,_,_⟩:=h.dom i ver l hl;obtain ⟨_,h2,_,_,h5,h6,h7⟩:=cells_of_get h hl hg;have hnro:¬isRo H i:=by
  rintro ⟨cs',e',v,m,fz',wh',hro⟩;rw [hg] at hro;cases hro
 have hn0:n0<=l.blk:=(h.base i ver l hl).resolve_left hnro;have hX:Below n0 W X:=⟨rfl,rfl,rfl,by simp [X],fun k hk=>by
  show (W.heap.setIfInBounds l.blk _)[k]? =_;rw [Array.getElem?_setIfInBounds_ne (by omega)]⟩
 have hhere:X.heap[l.blk]? =some (.cells c' e fr'):=by
  show (W.heap.setIfInBounds l.blk _)[l.blk]? =_;rw [Array.getElem?_setIfInBounds_self_of_lt hb]
 refine ⟨h.step i (.cells cs' e ver minv' fz' false wh) (.refl _) (fun _ _ _=>rfl) hX ?_ (fun j hj=>by simp [LHeap.get_put,hj]) (by simp) (by simpa using hi) (by simp [LHeap.get_put]) ?_ (fun _=>hnro) ?_ ?_,?_⟩
 ·intro b1 _ hne;show (W.heap.setIfInBounds l.blk _)[b1]? =_;rw [Array.getElem?_setIfInBounds_ne (hne ver l hl)]
 ·refine ⟨hlen,hm,hall,⟨l,hl⟩,fun hw=>⟨hwm (h5 hw).1,(h5 hw).2⟩,fun u m hu=>⟨(h6 u m hu).1,fun hmu=> ?_⟩,h7⟩;by_cases hq:u=ver
  ·subst hq;rw [hl] at hu;cases hu;have hfits:(u:Int)+l.sh<=l.tot:=by
    obtain ⟨_,_,hC⟩:=(h6 u l hl).2 h2;exact hC.fits
   exact ⟨c',fr',hhere,hc,hfits,fun _=>hfz,fun _=>hone,fun j x hx _ h0=>hcell j x hx h0⟩
  ·exact hold u m hu hq hmu
 ·rintro ⟨cs',e',v,m,fz',wh',hro⟩;rw [LHeap.get_put,if_pos rfl] at hro;cases hro
 ·intro u m hu;refine ⟨?_,(h.base i u m hu).resolve_left hnro,.inl ⟨u,m,hu,rfl⟩⟩;simpa [X] using (h.dom i u m hu).2.1
 ·refine ⟨.refl _,by simp,hX,fun j hj _=> ?_,fun j u m hj=>.inl ⟨u,m,hj⟩⟩;rw [LHeap.get_put,if_neg];rintro rfl;rw [hj ver] at hl;cases hl
theorem apart_spec{fz:FZ}{l:Loc}{fr:Nat×Nat}{o n:Nat}(h:FzRel fz l fr)(ha:fz.apart o n=true)(j:Nat)(hj:j<n)(hn:0<=(o:Int)+l.sh)(ht:(o:Int)+n+l.sh<=l.tot):
  ¬(fr.1<=((o:Int)+l.sh).toNat+j/\((o:Int)+l.sh).toNat+j<fr.2):=by
 rcases h with h |h
 ·omega
 ·cases fz with
  |none=>exact h.elim
  |range lo hi=>
   simp only [FZ.apart,Bool.or_eq_true,Nat.ble_eq] at ha;obtain ⟨h1,h2⟩:=h;omega
  |mark=>
   simp only at h;omega
theorem store_rel{ι:Gh}{H H':LHeap}{W:World}{n0:Nat}(h:HRel ι H W n0){a:LAddr}{b:Addr}(hp:PRel ι a b){xs:List LV}{vs:List Value}(hx:VRels ι xs vs)
  (hs:storeN H a xs=some H'):∃X:World,(storeCells b vs 0).run P W=.ok () X/\HRel ι H' X n0/\On ι H W ι H' X n0:=by
 cases xs with
 |nil=>
  cases hx;simp [storeN] at hs;subst hs;exact ⟨W,by simp [storeCells],h,.refl _ _ _ _⟩
 |cons x xs=>
  obtain ⟨l,hlo,h0,rfl⟩:=hp;simp only [storeN] at hs;split at hs
  ·rename_i cs e ver minv fz ro wh hg;split at hs
   ·rename_i hc;simp only [Bool.and_eq_true,Bool.not_eq_true'] at hc;obtain ⟨⟨⟨hver,hro⟩,hap⟩,hall⟩:=hc
    replace hver:=Nat.eq_of_beq_eq_true hver
    subst hro;split at hs
    ·rename_i cs' hov;cases hs;obtain ⟨hl1,hl2,hl3⟩:=over_spec _ _ _ _ hov;obtain ⟨hlen,hm,hallc,_,_,hu,_⟩:=cells_of_get h hlo hg;rw [hver] at hlo;obtain ⟨c,fr,hC⟩:=(hu _ _ hlo).2 (by omega);have hvl:=hx.len;have hfit:=hC.fits;have htot:=hC.tot;obtain ⟨c',hs',hc',hr⟩:=run_storeCells (P:=P) (o:=((a.off:Int)+l.sh).toNat) vs 0 W c hC.here (hx.oneCell hall) (by omega)
      (fun j hj=>by
        have:=apart_spec (hC.fz rfl) hap j (by omega) h0 (by omega);simpa using this) (by intro hv;subst hv;simp at hvl)
     refine ⟨_,hr,h.put_cells hlo hg (by omega) (Nat.le_refl _) (fun _=>rfl) ?_ (by omega) (hC.fz rfl) (fun j v hv=>by
      rw [hc'] at hv;split at hv
      ·exact hx.oneCell hall v (List.mem_of_getElem? hv)
      ·exact hC.one rfl j v hv) ?_ ?_⟩
     ·rw [allCells_iff] at hall hallc |-;intro v hv;obtain ⟨j,hj,rfl⟩:=List.mem_iff_getElem.1 hv;have:=hl3 j;rw [List.getElem?_eq_getElem hj] at this;split at this
      ·exact hall _ (List.mem_of_getElem? this.symm)
      ·exact hallc _ (List.mem_of_getElem? this.symm)
     ·intro j y hy hj0;rw [hl3 j] at hy;rw [hc'];split at hy
      ·rename_i hin;rw [if_pos (by omega)];obtain ⟨v,hv,hr⟩:=hx.get hy;refine ⟨v,?_,hr⟩;rw [<-hv];congr 1;omega
      ·rename_i hout;rw [if_neg (by omega)];have hjl:j<ver:=by
        have:=(List.getElem?_eq_some_iff.1 hy).1;omega
       exact hC.cell j y hy hjl hj0
     ·intro u m hum hne hge;have:=(hu u m hum).1;omega
    ·cases hs
   ·cases hs
  ·cases hs
theorem HRel.extend{ι:Gh}{H:LHeap}{W:World}{n0:Nat}(h:HRel ι H W n0){i:Nat}{l:Loc}{cs new:List LV}{e:TypeId}{ver minv:Nat}{fz:FZ}{lo:Int}
  (hl:ι i ver=some l) (hg:H.get i=some (.cells cs e ver minv fz false false)) (hnew:new≠[]) (halln:allCells new=true)
  (hlo:0<=lo+l.sh) (hlo':lo<=ver) {c':Array Value} {fr:Nat×Nat} (hfr:W.heap[l.blk]? =some (.cells c' e fr)->True)
  {c:Array Value} (hhere:W.heap[l.blk]? =some (.cells c e fr)) (hsz:c'.size=c.size) (hfit:(ver:Int)+new.length+l.sh<=l.tot) {vs:List Value} (hvs:VRels ι new vs)
  (hc':∀j,c'[j]? =if ((ver:Int)+l.sh).toNat<=j/\j<((ver:Int)+l.sh).toNat+vs.length then vs[j-((ver:Int)+l.sh).toNat]? else c[j]?):
  let κ:=ι.add i (ver+new.length) l
  let X:World:={ W with heap:=W.heap.setIfInBounds l.blk (.cells c' e fr) }
  let K:=H.put i (.cells (cs++new) e (ver+new.length) minv fz false false)
  HRel κ K X n0/\On ι H W κ K X n0:=by
 intro κ X K;have hnl:0<new.length:=by cases new with
  |nil=>exact absurd rfl hnew
  |cons a l=>simp
 obtain ⟨hi,hb,_,_⟩:=h.dom i ver l hl;obtain ⟨hlen,h2,hall,_,_,h6,h7⟩:=cells_of_get h hl hg;obtain ⟨c1,fr1,hC⟩:=(h6 ver l hl).2 h2;have e1:=hC.here;rw [hhere] at e1;cases e1;have hnone:ι i (ver+new.length)=none:=by
  cases e:ι i (ver+new.length) with
  |none=>rfl
  |some m=>have:=(h6 _ _ e).1;omega
 have hle:ι.le κ:=Gh.add_le _ _ (.inl hnone);have hnro:¬isRo H i:=by
  rintro ⟨cs',e',v,m,fz',wh',hro⟩;rw [hg] at hro;cases hro
 have hn0:n0<=l.blk:=(h.base i ver l hl).resolve_left hnro;have hX:Below n0 W X:=⟨rfl,rfl,rfl,by simp [X],fun k hk=>by
  show (W.heap.setIfInBounds l.blk _)[k]? =_;rw [Array.getElem?_setIfInBounds_ne (by omega)]⟩
 have hhere':X.heap[l.blk]? =some (.cells c' e fr):=by
  show (W.heap.setIfInBounds l.blk _)[l.blk]? =_;rw [Array.getElem?_setIfInBounds_self_of_lt hb]
 have hself:κ i (ver+new.length)=some l:=Gh.add_self _ _ _ _;have hoth:∀u,u≠ver+new.length->κ i u=ι i u:=fun u hu=>Gh.add_other _ _ (fun c=>hu c.2);have htot:=hC.tot;have hvl:=hvs.len;have h0:0<=(ver:Int)+l.sh:=by omega
 have hone:∀(j:Nat) (v:Value),c'[j]? =some v->v.oneCell'=true:=fun j v hv=>by
  rw [hc'] at hv;split at hv
  ·exact hvs.oneCell halln v (List.mem_of_getElem? hv)
  ·exact hC.one rfl j v hv
 refine ⟨h.step i (.cells (cs++new) e (ver+new.length) minv fz false false) hle (fun j u hj=>Gh.add_other _ _ (fun c=>hj c.1)) hX ?_ (fun j hj=>by simp [K,LHeap.get_put,hj]) (by simp [K]) (by simpa [K] using hi)
  (by simp [K,LHeap.get_put]) ?_ (fun _=>hnro) ?_ ?_,?_⟩
 ·intro b1 _ hne;show (W.heap.setIfInBounds l.blk _)[b1]? =_;rw [Array.getElem?_setIfInBounds_ne (hne ver l hl)]
 ·refine ⟨by simp [hlen],by omega,?_,⟨l,hself⟩,(fun hw=>by cases hw),fun u m hu=> ?_,?_⟩
  ·rw [allCells_iff] at hall halln |-;intro v hv;rcases List.mem_append.1 hv with hv |hv
   ·exact hall v hv
   ·exact halln v hv
  ·by_cases hq:u=ver+new.length
   ·subst hq;rw [hself] at hu;cases hu;refine ⟨Nat.le_refl _,fun _=>⟨c',fr,hhere',by omega,by push_cast;omega,hC.fz,fun _=>hone,fun j x hx hj hj0=> ?_⟩⟩;rw [hc'];rw [List.getElem?_append] at hx;split at hx
    ·rename_i hjl;rw [if_neg (by omega)];obtain ⟨v,hv,hr⟩:=hC.cell j x hx (by omega) hj0;exact ⟨v,hv,hr.mono hle⟩
    ·rename_i hjl;obtain ⟨v,hv,hr⟩:=hvs.get hx;rw [if_pos (by omega)];refine ⟨v,?_,hr.mono hle⟩;rw [<-hv];congr 1;omega
   ·rw [hoth u hq] at hu;refine ⟨by have:=(h6 u m hu).1;omega,fun hm=> ?_⟩;have huv:=(h6 u m hu).1;obtain ⟨c2,fr2,hC2⟩:=(h6 u m hu).2 hm;by_cases hblk:m.blk=l.blk
    ·have:=h7 u ver m l hu hl hblk;subst this;have e2:=hC2.here;rw [hhere] at e2;cases e2;refine ⟨c',fr,hhere',by omega,hC2.fits,hC2.fz,fun _=>hone,fun j x hx hj hj0=> ?_⟩;rw [hc',if_neg (by omega)];rw [List.getElem?_append_left (by omega)] at hx;obtain ⟨v,hv,hr⟩:=hC2.cell j x hx hj hj0;exact ⟨v,hv,hr.mono hle⟩
    ·refine ⟨c2,fr2,?_,hC2.tot,hC2.fits,hC2.fz,hC2.one,fun j x hx hj hj0=> ?_⟩
     ·show (W.heap.setIfInBounds l.blk _)[m.blk]? =_;rw [Array.getElem?_setIfInBounds_ne (by omega)];exact hC2.here
     ·rw [List.getElem?_append_left (by omega)] at hx;obtain ⟨v,hv,hr⟩:=hC2.cell j x hx hj hj0;exact ⟨v,hv,hr.mono hle⟩
  ·intro u u' m m' hu hu' hb';by_cases hq:u=ver+new.length
   ·subst hq;rw [hself] at hu;cases hu;by_cases hq':u'=ver+new.length
    ·subst hq';rw [hself] at hu';cases hu';rfl
    ·rw [hoth u' hq'] at hu';exact h7 ver u' _ _ hl hu' hb'
   ·rw [hoth u hq] at hu;by_cases hq':u'=ver+new.length
    ·subst hq';rw [hself] at hu';cases hu';exact h7 u ver _ _ hu hl hb'
    ·rw [hoth u' hq'] at hu';exact h7 u u' _ _ hu hu' hb'
 ·rintro ⟨cs',e',v,m,fz',wh',hro⟩;simp [K,LHeap.get_put] at hro
 ·intro u m hu;by_cases hq:u=ver+new.length
  ·subst hq;rw [hself] at hu;cases hu;exact ⟨by simpa [X] using hb,hn0,.inl ⟨ver,l,hl,rfl⟩⟩
  ·rw [hoth u hq] at hu;exact ⟨by simpa [X] using (h.dom i u m hu).2.1,(h.base i u m hu).resolve_left hnro,.inl ⟨u,m,hu,rfl⟩⟩
 ·refine ⟨hle,by simp [K],hX,fun j hj _=> ?_,fun j u m hj=> ?_⟩
  ·show (H.put i _).get j=_;rw [LHeap.get_put,if_neg];rintro rfl;rw [hj ver] at hl;cases hl
  ·by_cases hq:j=i
   ·subst hq;exact .inl ⟨ver,l,hl⟩
   ·rw [show κ j u=ι j u from Gh.add_other _ _ (fun c=>hq c.1)] at hj;exact .inl ⟨u,m,hj⟩
theorem HRel.regrow{ι:Gh}{H:LHeap}{W:World}{n0:Nat}(h:HRel ι H W n0){i:Nat}{l:Loc}{cs new:List LV}{e:TypeId}{ver minv:Nat}{fz:FZ}{off:Nat}
  (hl:ι i ver=some l) (hg:H.get i=some (.cells cs e ver minv fz false false)) (hnew:new≠[]) (halln:allCells new=true) (hoff:off<=ver)
  {old vs rest:List Value} (hold:VRels ι (cs.drop off) old) (hvs:VRels ι new vs) (hrest:∀v∈rest,v.oneCell'=true):
  let κ:=ι.add i (ver+new.length) ⟨W.heap.size,-(off:Int),(old++vs++rest).length⟩
  let X:World:={ W with heap:=W.heap.push (.cells (old++vs++rest).toArray e (0,0)) }
  let K:=H.put i (.cells (cs++new) e (ver+new.length) minv fz false false)
  HRel κ K X n0/\On ι H W κ K X n0:=by
 intro κ X K;have hnl:0<new.length:=by cases new with
  |nil=>exact absurd rfl hnew
  |cons a l=>simp
 obtain ⟨hi,hb,_,_⟩:=h.dom i ver l hl;obtain ⟨hlen,h2,hall,_,_,h6,h7⟩:=cells_of_get h hl hg;have hnone:ι i (ver+new.length)=none:=by
  cases e:ι i (ver+new.length) with
  |none=>rfl
  |some m=>have:=(h6 _ _ e).1;omega
 have hle:ι.le κ:=Gh.add_le _ _ (.inl hnone);have hnro:¬isRo H i:=by
  rintro ⟨cs',e',v,m,fz',wh',hro⟩;rw [hg] at hro;cases hro
 have hX:Below n0 W X:=Below.push _ h.size;have hpush:∀b,b<W.heap.size->X.heap[b]? =W.heap[b]? :=fun b hb=>by
  show (W.heap.push _)[b]? =_;rw [Array.getElem?_push,if_neg (by omega)]
 have hhere':X.heap[W.heap.size]? =some (.cells (old++vs++rest).toArray e (0,0)):=by
  show (W.heap.push _)[W.heap.size]? =_;simp
 have hself:κ i (ver+new.length)=some ⟨W.heap.size,-(off:Int),(old++vs++rest).length⟩:=Gh.add_self _ _ _ _;have hoth:∀u,u≠ver+new.length->κ i u=ι i u:=fun u hu=>Gh.add_other _ _ (fun c=>hu c.2);have hvl:=hvs.len;have hol:=hold.len;simp only [List.length_drop] at hol;refine ⟨h.step i (.cells (cs++new) e (ver+new.length) minv fz false false) hle (fun j u hj=>Gh.add_other _ _ (fun c=>hj c.1)) hX (fun b hb _=>hpush b hb) (fun j hj=>by simp [K,LHeap.get_put,hj]) (by simp [K])
  (by simpa [K] using hi) (by simp [K,LHeap.get_put]) ?_ (fun _=>hnro) ?_ ?_,?_⟩
 ·refine ⟨by simp [hlen],by omega,?_,⟨_,hself⟩,(fun hw=>by cases hw),fun u m hu=> ?_,?_⟩
  ·rw [allCells_iff] at hall halln |-;intro v hv;rcases List.mem_append.1 hv with hv |hv
   ·exact hall v hv
   ·exact halln v hv
  ·by_cases hq:u=ver+new.length
   ·subst hq;rw [hself] at hu;cases hu;refine ⟨Nat.le_refl _,fun _=>⟨_,(0,0),hhere',by simp,by simp;omega,fun _=>.inl rfl,fun _ j v hv=> ?_,fun j x hx hj hj0=> ?_⟩⟩
    ·
     rw [List.getElem?_toArray] at hv;rcases List.mem_append.1 (List.mem_of_getElem? hv) with hm |hm
     ·rcases List.mem_append.1 hm with hm |hm
      ·refine hold.oneCell ?_ v hm;rw [allCells_iff] at hall |-;exact fun w hw=>hall w (List.mem_of_mem_drop hw)
      ·exact hvs.oneCell halln v hm
     ·exact hrest v hm
    have hj1:off<=j:=by simp at hj0;omega
    have hidx:((j:Int)+ -(off:Int)).toNat=j-off:=by omega
    show ∃v,((old++vs++rest).toArray)[((j:Int)+ -(off:Int)).toNat]? =some v/\_;rw [hidx,List.getElem?_toArray];rw [List.getElem?_append] at hx;split at hx
    ·rename_i hjl;have hx':(cs.drop off)[j-off]? =some x:=by
      rw [List.getElem?_drop,show off+(j-off)=j by omega];exact hx
     obtain ⟨v,hv,hr⟩:=hold.get hx';refine ⟨v,?_,hr.mono hle⟩;rw [List.append_assoc,List.getElem?_append_left (by omega)];exact hv
    ·rename_i hjl;obtain ⟨v,hv,hr⟩:=hvs.get hx;refine ⟨v,?_,hr.mono hle⟩;have hlt:=(List.getElem?_eq_some_iff.1 hv).1;rw [List.getElem?_append_left (by simp;omega),List.getElem?_append_right (by omega),<-hv];congr 1;omega
   ·rw [hoth u hq] at hu;refine ⟨by have:=(h6 u m hu).1;omega,fun hm=> ?_⟩;have huv:=(h6 u m hu).1;obtain ⟨c2,fr2,hC2⟩:=(h6 u m hu).2 hm;refine ⟨c2,fr2,?_,hC2.tot,hC2.fits,hC2.fz,hC2.one,fun j x hx hj hj0=> ?_⟩
    ·rw [hpush _ (h.dom i u m hu).2.1];exact hC2.here
    ·rw [List.getElem?_append_left (by omega)] at hx;obtain ⟨v,hv,hr⟩:=hC2.cell j x hx hj hj0;exact ⟨v,hv,hr.mono hle⟩
  ·intro u u' m m' hu hu' hb';by_cases hq:u=ver+new.length
   ·subst hq;rw [hself] at hu;cases hu;by_cases hq':u'=ver+new.length
    ·subst hq';rw [hself] at hu';cases hu';rfl
    ·rw [hoth u' hq'] at hu';have:=(h.dom i u' m' hu').2.1;simp at hb';omega
   ·rw [hoth u hq] at hu;by_cases hq':u'=ver+new.length
    ·subst hq';rw [hself] at hu';cases hu';have:=(h.dom i u m hu).2.1;simp at hb';omega
    ·rw [hoth u' hq'] at hu';exact h7 u u' _ _ hu hu' hb'
 ·rintro ⟨cs',e',v,m,fz',wh',hro⟩;simp [K,LHeap.get_put] at hro
 ·intro u m hu;by_cases hq:u=ver+new.length
  ·subst hq;rw [hself] at hu;cases hu;exact ⟨by simp [X],h.size,.inr (Nat.le_refl _)⟩
  ·rw [hoth u hq] at hu;exact ⟨by have:=(h.dom i u m hu).2.1;simp [X];omega,(h.base i u m hu).resolve_left hnro,.inl ⟨u,m,hu,rfl⟩⟩
 ·refine ⟨hle,by simp [K],hX,fun j hj _=> ?_,fun j u m hj=> ?_⟩
  ·show (H.put i _).get j=_;rw [LHeap.get_put,if_neg];rintro rfl;rw [hj ver] at hl;cases hl
  ·by_cases hq:j=i
   ·subst hq;exact .inl ⟨ver,l,hl⟩
   ·rw [show κ j u=ι j u from Gh.add_other _ _ (fun c=>hq c.1)] at hj;exact .inl ⟨u,m,hj⟩
end Go.Lm
