/-
  The abstract machine: data rows, objects, operations, code, and its evaluator (in continuation-passing form).
-/
import GoSem.Step
import Derived.Orders
set_option linter.all false
namespace Go.Ev
inductive K where
 |int (k:IntKind)|bool |str |sl (e:TypeId)|fn (t:TypeId)|ref (t:TypeId)|ifc
 deriving DecidableEq,Inhabited
inductive C where
 |undef |int (n:Int)|bool (b:Bool)|str (s:List UInt8)|nils |sl (rows:List (List C))|nilfn
 |fn (f:Nat) (caps:List C)|dp (row:List C)|nilp |nilI |anyI
 deriving Inhabited
abbrev Row:=List C
def C.toI:C→Int | .int n=>n |_=>0
def C.toB:C→Bool | .bool b=>b |_=>false
def C.toS:C→List UInt8 | .str s=>s |_=>[]
def C.rows:C→List Row | .sl r=>r |_=>[]
def C.dpRow:C→Row | .dp r=>r |_=>[]
def C.isNil:C→Bool | .nils=>true |_=>false
def C.isNilF:C→Bool | .nilfn=>true |_=>false
def C.isDp:C→Bool | .dp _=>true |_=>false
def C.isNilP:C→Bool | .nilp=>true |_=>false
def C.isNilI:C→Bool | .nilI=>true |_=>false
def at_ (r:Row) (i:Nat):C:=r.getD i .undef
def sub (r:Row) (off:Nat):Nat→Row
 |0=>[]
 |n+1=>at_ r off::sub r (off+1) n
def put (r:Row) (off m:Nat) (s:Row) (i:Nat):Nat→Row
 |0=>[]
 |n+1=>(match Nat.ble off i&&Nat.blt i (off+m)with |true=>at_ s (i - off)|false=>at_ r i)::put r off m s (i+1) n
inductive L where |one (k:K)|agg (ks:List K)
 deriving DecidableEq,Inhabited
def L.ks:L→List K | .one k=>[k]| .agg ks=>ks
def L.n (l:L):Nat:=l.ks.length
def IntKind.tag:IntKind→Nat | .i8=>0 | .i16=>1 | .i32=>2 | .i64=>3 | .u8=>4 | .u16=>5 | .u32=>6 | .u64=>7
def K.beq:K→K→Bool
 | .int a, .int b=>Nat.beq (IntKind.tag a) (IntKind.tag b)
 | .bool, .bool=>true
 | .str, .str=>true
 | .sl a, .sl b=>Nat.beq a b
 | .fn a, .fn b=>Nat.beq a b
 | .ref a, .ref b=>Nat.beq a b
 | .ifc, .ifc=>true
 |_,_=>false
def ksBeq:List K→List K→Bool
 |[],[]=>true
 |a::x,b::y=>K.beq a b&&ksBeq x y
 |_,_=>false
def L.beq:L→L→Bool
 | .one a, .one b=>K.beq a b
 | .agg a, .agg b=>ksBeq a b
 |_,_=>false
inductive AV where
 |undef
 |und
 |d (l:L) (row:Row)
 |ptr (id off:Nat)
 |aptr (id ver idx off:Nat)
 |whole (id ver:Nat)
 |own (id ver off len:Nat)
 |fn (f:Nat) (caps:List AV)
 |tup (vs:List AV)
 |map (id:Nat)
 |sw (id ver:Nat)
 |agg (vs:List AV)
 |hol (id:Nat)
 |hptr (id idx:Nat)
 deriving Inhabited
def AV.single:AV→Bool
 | .d (.one _) _=>true
 | .ptr .. =>true
 | .aptr .. =>true
 | .whole .. =>true
 | .own .. =>true
 | .fn .. =>true
 | .map .. =>true
 | .sw .. =>true
 | .hol .. =>true
 | .hptr .. =>true
 |_=>false
inductive Obj where
 |fresh
 |dead
 |var (l:L) (row:Row)
 |cells (const:Bool) (vs:List AV)
 |arr (ver:Nat) (l:L) (c:C)
 |map (kl vl:L) (es:List (Row×Row))
 |sarr (ver:Nat) (e:TypeId) (l:L) (c:C)
 |hol (l:L) (c:C) (i:Nat) (av:AV)
 deriving Inhabited
def Obj.cst:Obj→Bool | .cells true _=>true |_=>false
abbrev St:=List Obj
def cstAt (S:St) (i:Nat):Bool:=match S[i]? with |some o=>o.cst |none=>false
abbrev Fr:=List (Nat×AV)
def Fr.get:Fr→Nat→AV
 |[],_=> .undef
 |(n,v)::r,t=>match Nat.beq n t with |true=>v |false=>Fr.get r t
inductive Opd where
 |t (n:Nat)
 |c (l:L) (row:Row)
def Opd.ev (F:Fr):Opd→AV
 | .t n=>F.get n
 | .c l r=> .d l r
mutual
def AV.dat (S:St):AV→AV
 | .sw id ver=>match S[id]? with
   |some (.sarr v e _ c)=>(match Nat.beq ver v with |true=> .d (.one (.sl e)) [c]|false=> .sw id ver)
   |_=> .sw id ver
 | .agg vs=>match AV.gather S vs with
   |some (ks,row)=> .d (.agg ks) row
   |none=> .agg vs
 |v=>v
def AV.gather (S:St):List AV→Option (List K×Row)
 |[]=>some ([],[])
 |v::vs=>match AV.dat S v,AV.gather S vs with
  | .d (.one k) r,some (ks,row)=>some (k::ks,at_ r 0::row)
  |_,_=>none
end
mutual
def AV.cids:AV→List Nat
 | .sw id _=>[id]
 | .agg vs=>AV.cidsL vs
 | .fn _ vs=>AV.cidsL vs
 |_=>[]
def AV.cidsL:List AV→List Nat
 |[]=>[]
 |v::vs=>AV.cids v++AV.cidsL vs
end
def Opd.evD (F:Fr) (S:St) (x:Opd):AV:=(x.ev F).dat S
inductive Sh where
 |d (l:L)
 |ptr (id off:Nat)
 |whole (id:Nat)
 |fn (f:Nat) (caps:List Sh)
 |map (id:Nat)
 |sw (id:Nat)
 |agg (cs:List Sh)
 |ptrv (id:Nat)
 |aptr (id:Nat)
 |hol (id:Nat)
 deriving Inhabited
inductive OSh where
 |var (l:L)|cells (const:Bool) (vs:List Sh)|arr (l:L)|map (kl vl:L)|sarr (e:TypeId) (l:L)|hol (l:L) (s:Sh)
 deriving Inhabited
structure Shape where
 slots:List (Nat×Sh)
 objs:List OSh
 m:Nat:=0
 deriving Inhabited
inductive AOp where
 |mov (x:Opd)
 |nchk (x:Opd)
 |cvS (x:Opd)
 |nilO (id:Nat) (l:L)
 |nilS (id:Nat) (e:TypeId) (l:L)
 |pick (c a b:Opd)
 |ibin (op:BinOp) (x y:Opd)
 |idiv (op:BinOp) (x y:Opd)
 |shf (op:BinOp) (x y:Opd)
 |icmp (op:BinOp) (x y:Opd)
 |scat (x y:Opd)
 |scmp (op:BinOp) (x y:Opd)
 |bcmp (neg:Bool) (x y:Opd)
 |aeq (neg:Bool) (l:L) (x y:Opd)
 |nileq (neg:Bool) (x:Opd)
 |not (x:Opd)
 |ineg (x:Opd)
 |icpl (x:Opd)
 |i2i (k:IntKind) (x:Opd)
 |s2b (e:TypeId) (x:Opd)
 |b2s (e:TypeId) (x:Opd)
 |boxP (l:L) (t:TypeId) (x:Opd)
 |boxO (id:Nat) (l:L) (x:Opd)
 |boxC (id:Nat) (x:Opd)
 |allocO (id:Nat) (l:L) (z:Row)
 |allocC (id:Nat)
 |ld (l:L) (t:TypeId) (x:Opd)
 |ldC (x:Opd)
 |st (l:L) (x v:Opd)
 |stC (x v:Opd)
 |fad (off:Nat) (n:Nat) (t u:TypeId) (x:Opd)
 |fld (off:Nat) (l:L) (x:Opd)
 |bld (l:L) (z:Row) (parts:List (Nat×Nat×Opd))
 |bsl (e:TypeId) (l:L) (n:Nat) (z:Row) (parts:List (Nat×Opd))
 |bslO (id:Nat) (e:TypeId) (l:L) (n:Nat) (z:Row) (parts:List (Nat×Opd))
 |bslS (id:Nat) (e:TypeId) (l:L) (n:Nat) (z:Row) (parts:List (Nat×Opd))
 |iad (e:TypeId) (l:L) (x i:Opd)
 |iadA (m:Nat) (t e:TypeId) (l:L) (x i:Opd)
 |idxS (x i:Opd)
 |idxA (m:Nat) (l:L) (x i:Opd)
 |lenS (x:Opd)
 |lenL (x:Opd)
 |imin (mx:Bool) (xs:List Opd)
 |app (id:Nat) (e:TypeId) (l:L) (bytes:Nat) (x y:Opd)
 |appW (id:Nat) (e:TypeId) (l:L) (bytes:Nat) (x y:Opd)
 |appS (id:Nat) (e:TypeId) (x y:Opd)
 |mk (id:Nat) (e:TypeId) (l:L) (z:Row) (bytes:Nat) (n c:Opd)
 |mkS (id:Nat) (e:TypeId) (l:L) (z:Row) (bytes:Nat) (n c:Opd)
 |slc (e:TypeId) (l:L) (x:Opd) (lo hi:Option Opd)
 |slcS (x:Opd) (lo hi:Option Opd)
 |call (f:Nat) (ps rs:List L) (args:List Opd)
 |callv (t:TypeId) (ps rs:List L) (x:Opd) (args:List Opd)
 |ixbS (f:Nat) (x y:Opd)
 |cmpS (f:Nat) (x y:Opd)
 |bad
 |icall (i f:Nat) (en ex:Shape) (ids:List Nat) (new:Nat) (x:Option Opd) (args:List Opd)
 |mkf (f:Nat) (t:TypeId) (ks:List K) (caps:List Opd)
 |mkfO (f:Nat) (caps:List Opd)
 |ext (i:Nat) (x:Opd)
 |mkm (id:Nat) (kl vl:L)
 |lk (kl vl:L) (z:Row) (x key:Opd) (ok:Bool)
 |mup (kl:L) (x key v:Opd)
 |ent (kl vl:L) (z:Row) (x key:Opd)
 |est (x s v:Opd)
 |slc3 (e:TypeId) (l:L) (x lo hi mx:Opd)
 |appM (e:TypeId) (l:L) (x y:Opd)
 |clr (e:TypeId) (l:L) (z:Row) (x:Opd)
 |movT (x:Opd)
 |ldH (h:Bool) (l:L) (x:Opd)
 |stH (x v:Opd)
 |stF (l:L) (x v:Opd)
 |lenM (x:Opd)
 |boxA (id:Nat) (x:Opd)
 |allocA (id:Nat) (zs:List (Option (K×C)))
 |ldA (n:Nat) (x:Opd)
 |stA (n:Nat) (x v:Opd)
 |fldA (off n:Nat) (x:Opd)
 |bldA (zs:List (Option (K×C))) (parts:List (Nat×Nat×Opd))
 |iadV (m n:Nat) (x i:Opd)
 |ptrnil (neg:Bool) (x:Opd)
 |ifnil (neg:Bool) (x:Opd)
 |nilM
mutual
def Sh.beq:Sh→Sh→Bool
 | .d a, .d b=>L.beq a b
 | .ptr i o, .ptr i' o'=>Nat.beq i i'&&Nat.beq o o'
 | .whole i, .whole j=>Nat.beq i j
 | .fn f cs, .fn f' cs'=>Nat.beq f f'&&Sh.beqs cs cs'
 | .map i, .map j=>Nat.beq i j
 | .sw i, .sw j=>Nat.beq i j
 | .agg cs, .agg cs'=>Sh.beqs cs cs'
 | .ptrv i, .ptrv j=>Nat.beq i j
 | .aptr i, .aptr j=>Nat.beq i j
 | .hol i, .hol j=>Nat.beq i j
 |_,_=>false
def Sh.beqs:List Sh→List Sh→Bool
 |[],[]=>true
 |a::r,b::r'=>Sh.beq a b&&Sh.beqs r r'
 |_,_=>false
end
def OSh.beq:OSh→OSh→Bool
 | .var a, .var b=>L.beq a b
 | .cells c vs, .cells c' vs'=>(match c with |true=>c' |false=> !c')&&Sh.beqs vs vs'
 | .arr a, .arr b=>L.beq a b
 | .map a b, .map a' b'=>L.beq a a'&&L.beq b b'
 | .sarr e l, .sarr e' l'=>Nat.beq e e'&&L.beq l l'
 | .hol l s, .hol l' s'=>L.beq l l'&&Sh.beq s s'
 |_,_=>false
def OSh.beqs:List OSh→List OSh→Bool
 |[],[]=>true
 |a::r,b::r'=>OSh.beq a b&&OSh.beqs r r'
 |_,_=>false
def slotsBeq:List (Nat×Sh)→List (Nat×Sh)→Bool
 |[],[]=>true
 |(n,a)::r,(m,b)::r'=>Nat.beq n m&&Sh.beq a b&&slotsBeq r r'
 |_,_=>false
def Shape.beq (a b:Shape):Bool:=slotsBeq a.slots b.slots&&OSh.beqs a.objs b.objs&&Nat.beq a.m b.m
structure AOper where
 dst:Option Nat
 op:AOp
 guard:Option (Nat×Bool)
 bef:List Nat:=[]
inductive Exit' where |normal |exit (id:Nat)|ret
 deriving DecidableEq,Inhabited
inductive Ghost where
 |lft (n:Nat) (off:Option Nat) (e:TypeId) (l:L)
 |frz (n off:Nat) (e:TypeId) (l:L)
 |lftO (n off:Nat) (e:TypeId) (l:L)
 |frzS (n:Nat) (e:TypeId) (l:L)
 |opnH (n:Nat) (l:L)
 |clsH (n:Nat) (e:TypeId) (l:L)
 |clsF (n:Nat)
 deriving Inhabited
inductive ACode where
 |skip
 |ghost (g:Ghost) (c:ACode)
 |post (g:Ghost) (c:ACode)
 |region (fz:List (Nat×TypeId×Option L)) (ops:List AOper) (draw:Bool) (nobj:Nat)
 |seq (a b:ACode)
 |cond (c:Opd) (a b:ACode)
 |block (id:Nat) (c:ACode)
 |loop (sh:Shape) (outs:List (Exit'×Shape)) (c:ACode)
 |join (outs:List (Exit'×Shape)) (c:ACode)
 |exit (id:Nat)
 |ret
 |bad
 deriving Inhabited
def nrm:L→Row→Row
 | .one (.int _),r=>[.int (at_ r 0).toI]
 | .one .bool,r=>[.bool (at_ r 0).toB]
 | .one .str,r=>[.str (at_ r 0).toS]
 | .one _,r=>[at_ r 0]
 | .agg _,r=>r
inductive PV where
 |r (row:Row)
 |m (es:List (Row×Row))
 deriving Inhabited
def PV.row:PV→Row | .r row=>row |_=>[]
def PV.es:PV→List (Row×Row)| .m es=>es |_=>[]
structure Env where
 pc:Nat→List Row→Option (List Row)
 ic:Nat→List PV→Option (List PV)
 fix:((List PV→Option (Nat×List PV))→List PV→Option (Nat×List PV))→List PV→Option (Nat×List PV)
section
variable {A:Type}
def asI (v:AV) (k:IntKind→Int→Option A):Option A:=
 match v with | .d (.one (.int kd)) r=>k kd (at_ r 0).toI |_=>none
def asB (v:AV) (k:Bool→Option A):Option A:=
 match v with | .d (.one .bool) r=>k (at_ r 0).toB |_=>none
def asS (v:AV) (k:List UInt8→Option A):Option A:=
 match v with | .d (.one .str) r=>k (at_ r 0).toS |_=>none
def asSl (v:AV) (k:TypeId→C→Option A):Option A:=
 match v with | .d (.one (.sl e)) r=>k e (at_ r 0)|_=>none
def asD (v:AV) (k:L→Row→Option A):Option A:=
 match v with | .d l r=>k l r |_=>none
def check (b:Bool) (k:Option A):Option A:=match b with |true=>k |false=>none
def getO (S:St) (id:Nat) (k:Obj→Option A):Option A:=match S[id]? with |some o=>k o |none=>none
end
abbrev vI (k:IntKind) (n:Int):AV:= .d (.one (.int k)) [.int n]
abbrev vB (b:Bool):AV:= .d (.one .bool) [.bool b]
abbrev vS (s:List UInt8):AV:= .d (.one .str) [.str s]
def ceq:List K→Row→Row→Bool
 |[],_,_=>true
 | .int _::ks,x,y=>((at_ x 0).toI==(at_ y 0).toI)&&ceq ks (x.drop 1) (y.drop 1)
 | .bool::ks,x,y=>((at_ x 0).toB==(at_ y 0).toB)&&ceq ks (x.drop 1) (y.drop 1)
 | .str::ks,x,y=>((at_ x 0).toS==(at_ y 0).toS)&&ceq ks (x.drop 1) (y.drop 1)
 |_::_,_,_=>false
def bitsOf (op:BinOp) (k:IntKind) (x y:Int):Int:=
 let a:=BitVec.ofInt k.bits x
 let b:=BitVec.ofInt k.bits y
 k.wrap ((match op with | .and=>a&&&b | .or=>a |||b | .xor=>a^^^b |_=>a&&&~~~b).toNat)
def findE (kl:L) (key:Row):List (Row×Row)→Option Row
 |[]=>none
 |(k,v)::r=>if ceq kl.ks key k then some v else findE kl key r
def setE (kl:L) (key v:Row):List (Row×Row)→List (Row×Row)
 |[]=>[(key,v)]
 |(k,u)::r=>if ceq kl.ks key k then (k,v)::r else (k,u)::setE kl key v r
def idxE (kl:L) (key:Row):List (Row×Row)→Nat
 |[]=>0
 |(k,_)::r=>if ceq kl.ks key k then 0 else idxE kl key r+1
def byteRow (b:UInt8):Row:=[.int b.toNat]
def bytesOf (rows:List Row):List UInt8:=rows.map fun r=>UInt8.ofNat ((at_ r 0).toI.toNat)
def appC (c:C) (new:List Row):C:=match c,new with | .nils,[]=> .nils |_,_=> .sl (c.rows++new)
def slcC (c:C) (a b:Int):C:=match c with | .nils=> .nils |c=> .sl ((c.rows.take b.toNat).drop a.toNat)
def callC (E:Env) (c:C) (rows:List Row):Option (List Row):=match c with
 | .fn f cs=>E.pc f (rows++cs.map fun c=>[c])
 |_=>none
def rowsAt (rows:List Row) (i:Nat):Row:=rows.getD i []
section
variable {A:Type} (E:Env) (F:Fr) (S:St)
def rowsOf:List L→List Opd→(List Row→Option A)→Option A
 |[],[],k=>k []
 |l::ls,x::xs,k=>asD (x.evD F S) fun l' r=>check (L.beq l l') (rowsOf ls xs fun rs=>k (r::rs))
 |_,_,_=>none
def zipD:List L→List Row→Nat→List AV
 |[],_,_=>[]
 |l::ls,rs,i=> .d l (nrm l (rowsAt rs i))::zipD ls rs (i+1)
def resV (rs:List L) (rows:List Row):AV:=match rs with
 |[l]=> .d l (nrm l (rowsAt rows 0))
 |_=> .tup (zipD rs rows 0)
def minAll (mx:Bool) (k:IntKind):List Opd→Int→(Int→Option A)→Option A
 |[],m,c=>c m
 |x::xs,m,c=>asI (x.evD F S) fun k' n=>check (Nat.beq (IntKind.tag k) (IntKind.tag k')) (minAll mx k xs (match mx with |true=>(if n>m then n else m)|false=>(if n<m then n else m)) c)
def fillParts (ks:List K):List (Nat×Nat×Opd)→Row→(Row→Option A)→Option A
 |[],z,k=>k z
 |(off,m,x)::r,z,k=>asD (x.evD F S) fun l row=>check (Nat.beq l.n m&&Nat.blt 0 m&&ksBeq l.ks ((ks.drop off).take m)) (fillParts ks r (put z off m row 0 ks.length) k)
def fillRows (l:L):List (Nat×Opd)→List Row→(List Row→Option A)→Option A
 |[],z,k=>k z
 |(i,x)::r,z,k=>asD (x.evD F S) fun l' row=>check (L.beq l l') (fillRows l r (z.set i row) k)
def bnd (x:Option Opd) (dflt:Int) (k:Int→Option A):Option A:=
 match x with |none=>k dflt |some x=>asI (x.evD F S) fun _ n=>k n
def capRows:List K→List Opd→(Row→Option A)→Option A
 |[],[],k=>k []
 |kd::ks,x::xs,k=>asD (x.evD F S) fun l r=>check (L.beq (.one kd) l) (capRows ks xs fun row=>k (at_ r 0::row))
 |_,_,_=>none
def tgtV:AV→Option Nat
 | .ptr id _=>some id
 | .aptr id _ _ _=>some id
 | .whole id _=>some id
 | .own id _ _ _=>some id
 | .map id=>some id
 | .sw id _=>some id
 | .hol id=>some id
 | .hptr id _=>some id
 |_=>none
def tgt (op:AOp) (base:Nat):Option Nat:=
 match op with
 | .nilO id _=>some (base+id)
 | .nilS id _ _=>some (base+id)
 | .bslS id _ _ _ _ _=>some (base+id)
 | .bslO id _ _ _ _ _=>some (base+id)
 | .mkS id _ _ _ _ _ _=>some (base+id)
 | .boxA id _=>some (base+id)
 | .allocA id _=>some (base+id)
 | .ldA _ x=>tgtV (x.ev F)
 | .stA _ x _=>tgtV (x.ev F)
 | .iadV _ _ x _=>tgtV (x.ev F)
 | .appW id _ _ _ x _=>(match tgtV (x.ev F)with |some i=>some i |none=>some (base+id))
 | .boxO id _ _=>some (base+id)
 | .boxC id _=>some (base+id)
 | .allocO id _ _=>some (base+id)
 | .allocC id=>some (base+id)
 | .mk id _ _ _ _ _ _=>some (base+id)
 | .mkm id _ _=>some (base+id)
 | .nileq _ x=>tgtV (x.ev F)
 | .nchk x=>tgtV (x.ev F)
 | .ptrnil _ x=>tgtV (x.ev F)
 | .b2s _ x=>tgtV (x.ev F)
 | .ld _ _ x=>tgtV (x.ev F)
 | .ldC x=>tgtV (x.ev F)
 | .st _ x _=>tgtV (x.ev F)
 | .stC x _=>tgtV (x.ev F)
 | .iad _ _ x _=>tgtV (x.ev F)
 | .fad _ _ _ _ x=>tgtV (x.ev F)
 | .iadA _ _ _ _ x _=>tgtV (x.ev F)
 | .lenL x=>tgtV (x.ev F)
 | .slc _ _ x _ _=>tgtV (x.ev F)
 | .app id _ _ _ x _=>(match tgtV (x.ev F)with |some i=>some i |none=>some (base+id))
 | .appS id _ x _=>(match tgtV (x.ev F)with |some i=>some i |none=>some (base+id))
 | .lk _ _ _ x _ _=>tgtV (x.ev F)
 | .mup _ x _ _=>tgtV (x.ev F)
 | .ent _ _ _ x _=>tgtV (x.ev F)
 | .est x _ _=>tgtV (x.ev F)
 | .slc3 _ _ x _ _ _=>tgtV (x.ev F)
 | .appM _ _ x _=>tgtV (x.ev F)
 | .clr _ _ _ x=>tgtV (x.ev F)
 | .movT x=>tgtV (x.ev F)
 | .ldH _ _ x=>tgtV (x.ev F)
 | .stH x _=>tgtV (x.ev F)
 | .stF _ x _=>tgtV (x.ev F)
 | .lenM x=>tgtV (x.ev F)
 |_=>none
def cellsOf:List K→Row→Nat→List AV
 |[],_,_=>[]
 |k::ks,r,i=> .d (.one k) (nrm (.one k) [at_ r i])::cellsOf ks r (i+1)
def cellsV:AV→Option (List AV)
 | .agg vs=>some vs
 | .d l r=>some (cellsOf l.ks r 0)
 |v=>match AV.single v with |true=>some [v]|false=>none
def zsV:List (Option (K×C))→List AV
 |[]=>[]
 |some (k,c)::r=> .d (.one k) [c]::zsV r
 |none::r=> .undef::zsV r
def putV (off:Nat) (vs cs:List AV):List AV:=cs.take off++vs++cs.drop (off+vs.length)
def fillA:List (Nat×Nat×Opd)→List AV→(List AV→Option A)→Option A
 |[],z,k=>k z
 |(off,m,x)::r,z,k=>match cellsV (x.ev F)with
  |some vs=>check (Nat.beq vs.length m&&Nat.ble (off+m) z.length) (fillA r (putV off vs z) k)
  |none=>none
def splitI (n:Int):Nat→Nat→(Nat→Option A)→Option A
 |_,0,_=>none
 |i,m+1,k=>if n=(i:Int)then k i else splitI n (i+1) m k
def asArr (o:Obj) (v:Nat) (k:L→C→Option A):Option A:=
 match o with | .arr v' l c=>check (Nat.beq v v') (k l c)|_=>none
def asVar (o:Obj) (k:Option A):Option A:=match o with | .var .. =>k |_=>none
def asHas (o:Obj) (k:Option A):Option A:=match o with | .var .. =>k | .cells .. =>k |_=>none
def asFresh (o:Obj) (k:Option A):Option A:=match o with | .fresh=>k |_=>none
def asRows (c:C) (k:List Row→Option A):Option A:=match c with | .sl rows=>k rows |_=>none
def asSarr (o:Obj) (v:Nat) (k:TypeId→L→C→Option A):Option A:=
 match o with | .sarr v' e l c=>check (Nat.beq v v') (k e l c)|_=>none
def asHol (o:Obj) (k:L→C→Nat→AV→Option A):Option A:=match o with | .hol l c i av=>k l c i av |_=>none
def asMap (o:Obj) (k:L→L→List (Row×Row)→Option A):Option A:=match o with | .map a b es=>k a b es |_=>none
def part (l l':L) (off:Nat) (r:Row) (k:Row→Option A):Option A:=
 match Nat.beq off 0&&L.beq l l' with
 |true=>k (nrm l r)
 |false=>check (ksBeq l.ks ((l'.ks.drop off).take l.n)) (k (nrm l (sub r off l.n)))
def turn (l l':L) (off:Nat) (r row:Row) (k:Row→Option A):Option A:=
 match Nat.beq off 0&&L.beq l l' with
 |true=>k row
 |false=>check (ksBeq l.ks ((l'.ks.drop off).take l.n)) (k (put r off l.n row 0 l'.n))
def arith (op:BinOp) (kd:IntKind) (a b:Int) (k:Int→Option A):Option A:=
 match op with
 | .add=>k (kd.wrap (a+b))
 | .sub=>k (kd.wrap (a - b))
 | .mul=>k (kd.wrap (a*b))
 | .and=>k (bitsOf .and kd a b)
 | .or=>k (bitsOf .or kd a b)
 | .xor=>k (bitsOf .xor kd a b)
 | .andNot=>k (bitsOf .andNot kd a b)
 |_=>none
def icmpK (op:BinOp) (a b:Int) (k:Bool→Option A):Option A:=
 match op with
 | .eql=>k (a==b)
 | .neq=>k (a !=b)
 | .lss=>k (decide (a<b))
 | .leq=>k (decide (a≤b))
 | .gtr=>k (decide (a>b))
 | .geq=>k (decide (a≥b))
 |_=>none
def scmpK (op:BinOp) (a b:List UInt8) (k:Bool→Option A):Option A:=
 match op with
 | .eql=>k (a==b)
 | .neq=>k (!(a==b))
 | .lss=>k (Op.bytesLess a b)
 | .leq=>k (Op.bytesLess a b ||a==b)
 | .gtr=>k (!(Op.bytesLess a b ||a==b))
 | .geq=>k (!Op.bytesLess a b)
 |_=>none
def xorB:Bool→Bool→Bool |true,b=> !b |false,b=>b
def idxBy:List UInt8→UInt8→Int
 |[],_=> -1
 |b::l,c=>if b==c then 0 else if idxBy l c== -1 then -1 else idxBy l c+1
def cmpBytes:List UInt8→List UInt8→Int
 |[],[]=>0
 |[],_::_=> -1
 |_::_,[]=>1
 |a::x,b::y=>if a<b then -1 else if b<a then 1 else cmpBytes x y
def opO (o:Obj) (op:AOp) (base:Nat) (k:AV→Option Obj→Option A):Option A:=
 match op with
 | .mov x=>k (x.ev F) none
 | .nchk x=>match x.ev F with
   | .d (.one (.fn t)) r=>if (at_ r 0).isNilF=false then k (.d (.one (.fn t)) r) none else none
   | .d (.one (.ref t)) r=>if (at_ r 0).isDp=true then k (.d (.one (.ref t)) r) none else none
   | .fn f caps=>k (.fn f caps) none
   | .ptr id off=>asHas o (k (.ptr id off) none)
   | .aptr id v i off=>asArr o v fun _ _=>k (.aptr id v i off) none
   |_=>none
 | .cvS x=>asS (x.evD F S) fun s=>k (vS s) none
 | .nilO id l=>asFresh o (k (.whole (base+id) 0) (some (.arr 0 l .nils)))
 | .nilS id e l=>asFresh o (k (.sw (base+id) 0) (some (.sarr 0 e l .nils)))
 | .pick c a b=>asB (c.evD F S) fun t=>if t=true then k (a.ev F) none else k (b.ev F) none
 | .ibin op x y=>asI (x.evD F S) fun kd a=>asI (y.evD F S) fun kd' b=>check (Nat.beq (IntKind.tag kd) (IntKind.tag kd')) (arith op kd a b fun n=>k (vI kd n) none)
 | .idiv op x y=>asI (x.evD F S) fun kd a=>asI (y.evD F S) fun kd' b=>check (Nat.beq (IntKind.tag kd) (IntKind.tag kd')) (if b=0 then none else match op with
   | .quo=>k (vI kd (kd.wrap (a.tdiv b))) none
   | .rem=>k (vI kd (a.tmod b)) none
   |_=>none)
 | .shf op x y=>asI (x.evD F S) fun kd a=>asI (y.evD F S) fun _ b=>if b<0 then none else match op with
   | .shl=>k (vI kd (kd.wrap (a*2^(min b.toNat kd.bits)))) none
   | .shr=>k (vI kd (a.fdiv (2^(min b.toNat kd.bits)))) none
   |_=>none
 | .icmp op x y=>asI (x.evD F S) fun kd a=>asI (y.evD F S) fun kd' b=>check (Nat.beq (IntKind.tag kd) (IntKind.tag kd')) (icmpK op a b fun t=>k (vB t) none)
 | .scat x y=>asS (x.evD F S) fun a=>asS (y.evD F S) fun b=>if a.length+b.length≤1099511627776 then k (vS (a++b)) none else none
 | .scmp op x y=>asS (x.evD F S) fun a=>asS (y.evD F S) fun b=>scmpK op a b fun t=>k (vB t) none
 | .bad=>none
 | .ixbS _ x y=>asS (x.evD F S) fun a=>asI (y.evD F S) fun kd n=>check (Nat.beq (IntKind.tag kd) 4) (k (vI .i64 (idxBy a n.toNat.toUInt8)) none)
 | .cmpS _ x y=>asS (x.evD F S) fun a=>asS (y.evD F S) fun b=>k (vI .i64 (cmpBytes a b)) none
 | .bcmp neg x y=>asB (x.evD F S) fun a=>asB (y.evD F S) fun b=>k (vB (xorB neg (a==b))) none
 | .aeq neg l x y=>asD (x.evD F S) fun l1 a=>asD (y.evD F S) fun l2 b=>check (L.beq l l1&&L.beq l l2) (k (vB (xorB neg (ceq l.ks a b))) none)
 | .nileq neg x=>match x.evD F S with
   | .d (.one (.sl _)) r=>k (vB (xorB neg (at_ r 0).isNil)) none
   | .whole _ v=>asArr o v fun _ c=>k (vB (xorB neg c.isNil)) none
   |_=>none
 | .not x=>asB (x.evD F S) fun a=>k (vB (!a)) none
 | .ineg x=>asI (x.evD F S) fun kd a=>k (vI kd (kd.wrap (0 - a))) none
 | .icpl x=>asI (x.evD F S) fun kd a=>k (vI kd (bitsOf .xor kd (if kd.signed then -1 else kd.max) a)) none
 | .i2i kd x=>asI (x.evD F S) fun _ a=>k (vI kd (kd.wrap a)) none
 | .s2b e x=>asS (x.evD F S) fun s=>k (.d (.one (.sl e)) [.sl (s.map byteRow)]) none
 | .b2s e x=>match x.evD F S with
   | .d (.one (.sl e')) r=>check (Nat.beq e e') (k (vS (bytesOf (at_ r 0).rows)) none)
   | .whole _ v=>asArr o v fun l' c=>check (L.beq (.one (.int .u8)) l') (k (vS (bytesOf c.rows)) none)
   |_=>none
 | .boxP l t x=>asD (x.evD F S) fun l' r=>check (L.beq l l') (k (.d (.one (.ref t)) [.dp r]) none)
 | .boxO id l x=>asFresh o (asD (x.evD F S) fun l' r=>check (L.beq l l') (k (.ptr (base+id) 0) (some (.var l r))))
 | .boxC id x=>asFresh o (check (AV.single (x.ev F)) (k (.ptr (base+id) 0) (some (.cells false [x.ev F]))))
 | .allocO id l z=>asFresh o (k (.ptr (base+id) 0) (some (.var l z)))
 | .allocC id=>asFresh o (k (.ptr (base+id) 0) (some (.cells false [.undef])))
 | .ld l t x=>match x.ev F with
   | .d (.one (.ref t')) r=>check (Nat.beq t t') (if (at_ r 0).isDp=true then k (.d l (nrm l (at_ r 0).dpRow)) none else none)
   | .ptr _ off=>(match o with
     | .var l' r=>part l l' off r fun row=>k (.d l row) none
     |_=>none)
   | .aptr _ ver idx off=>asArr o ver fun l' c=>if idx<c.rows.length then part l l' off (rowsAt c.rows idx) fun row=>k (.d l row) none else none
   |_=>none
 | .st l x v=>match x.ev F with
   | .ptr _ off=>(match o with
     | .var l' r=>asD (v.evD F S) fun lv row=>check (L.beq l lv) (turn l l' off r row fun r'=>k .und (some (.var l' r')))
     |_=>none)
   | .aptr _ ver idx off=>asArr o ver fun l' c=>asD (v.evD F S) fun lv row=>check (L.beq l lv) (if idx<c.rows.length then turn l l' off (rowsAt c.rows idx) row fun r'=>k .und (some (.arr ver l' (.sl (c.rows.set idx r'))))else none)
   |_=>none
 | .ldC x=>match x.ev F with
   | .ptr _ off=>(match o with
     | .cells _ vs=>(match vs[off]? with |some v=>k v none |none=>none)
     |_=>none)
   |_=>none
 | .stC x v=>match x.ev F with
   | .ptr _ off=>(match o with
     | .cells false vs=>check (Nat.blt off vs.length&&AV.single (v.ev F)) (k .und (some (.cells false (vs.set off (v.ev F)))))
     |_=>none)
   |_=>none
 | .fad off n t u x=>match x.ev F with
   | .d (.one (.ref t')) r=>check (Nat.beq t t') (if (at_ r 0).isDp=true then k (.d (.one (.ref u)) [.dp (sub (at_ r 0).dpRow off n)]) none else none)
   | .ptr id p=>asHas o (k (.ptr id (p+off)) none)
   | .aptr id v i p=>asArr o v fun _ _=>k (.aptr id v i (p+off)) none
   |_=>none
 | .fld off l x=>(match x.evD F S with
   | .d (.agg ks') r=>check (ksBeq l.ks ((ks'.drop off).take l.n)) (k (.d l (nrm l (sub r off l.n))) none)
   |_=>none)
 | .bld l z parts=>fillParts F S l.ks parts z fun row=>k (.d l row) none
 | .bsl e l n z parts=>fillRows F S l parts (List.replicate n z) fun rows=>k (.d (.one (.sl e)) [.sl rows]) none
 | .bslO id e l n z parts=>asFresh o (fillRows F S l parts (List.replicate n z) fun rows=>k (.whole (base+id) 0) (some (.arr 0 l (.sl rows))))
 | .bslS id e l n z parts=>asFresh o (fillRows F S l parts (List.replicate n z) fun rows=>k (.sw (base+id) 0) (some (.sarr 0 e l (.sl rows))))
 | .iad e l x i=>asI (i.evD F S) fun _ n=>match x.evD F S with
   | .d (.one (.sl e')) r=>check (Nat.beq e e') (if 0≤n∧n<((at_ r 0).rows.length:Int)then k (.d (.one (.ref e)) [.dp (rowsAt (at_ r 0).rows n.toNat)]) none else none)
   | .whole id v=>asArr o v fun l' c=>check (L.beq l l') (if 0≤n∧n<(c.rows.length:Int)then k (.aptr id v n.toNat 0) none else none)
   | .own id v off len=>asArr o v fun l' _=>check (L.beq l l') (if 0≤n∧n<(len:Int)then k (.aptr id v (off+n.toNat) 0) none else none)
   | .hol id=>asHol o fun l' c _ _=>check (L.beq l l') (if 0≤n∧n<(c.rows.length:Int)then k (.hptr id n.toNat) none else none)
   |_=>none
 | .iadA m t e l x i=>asI (i.evD F S) fun _ n=>match x.ev F with
   | .d (.one (.ref t')) r=>check (Nat.beq t t') (if 0≤n∧n<(m:Int)∧(at_ r 0).isDp=true then k (.d (.one (.ref e)) [.dp (sub (at_ r 0).dpRow (n.toNat*l.n) l.n)]) none else none)
   | .ptr id p=>asHas o (if 0≤n∧n<(m:Int)then k (.ptr id (p+n.toNat*l.n)) none else none)
   | .aptr id v j p=>asArr o v fun _ _=>if 0≤n∧n<(m:Int)then k (.aptr id v j (p+n.toNat*l.n)) none else none
   |_=>none
 | .idxS x i=>asI (i.evD F S) fun _ n=>asS (x.evD F S) fun s=>if 0≤n∧n<(s.length:Int)then k (vI .u8 (s.getD n.toNat 0).toNat) none else none
 | .idxA m l x i=>asI (i.evD F S) fun _ n=>(match x.evD F S with
   | .d (.agg ks') r=>check (ksBeq ks' (List.replicate m l.ks).flatten) (if 0≤n∧n<(m:Int)then k (.d l (nrm l (sub r (n.toNat*l.n) l.n))) none else none)
   |_=>none)
 | .lenS x=>asS (x.evD F S) fun s=>k (vI .i64 s.length) none
 | .lenL x=>match x.evD F S with
   | .d (.one (.sl _)) r=>k (vI .i64 (at_ r 0).rows.length) none
   | .whole _ v=>asArr o v fun _ c=>k (vI .i64 c.rows.length) none
   | .own _ v _ len=>asArr o v fun _ _=>k (vI .i64 len) none
   | .hol _=>asHol o fun _ c _ _=>k (vI .i64 c.rows.length) none
   |_=>none
 | .imin mx xs=>match xs with
   |x::r=>asI (x.evD F S) fun kd n=>minAll F S mx kd r n fun m=>k (vI kd m) none
   |[]=>none
 | .app id e l bytes x y=>asSl (y.evD F S) fun e' c'=>check (Nat.beq e e') (match x.ev F with
   | .d (.one (.sl e2)) r=>check (Nat.beq e e2) (match at_ r 0 with
     | .nils=>asFresh o (if c'.rows.length*bytes≤140737488355328 then k (.whole (base+id) 0) (some (.arr 0 l (appC .nils c'.rows)))else none)
     |_=>none)
   | .whole i v=>asArr o v fun l' c=>check (L.beq l l') (if (c.rows.length+c'.rows.length)*bytes≤140737488355328 then k (.whole i (v+1)) (some (.arr (v+1) l (appC c c'.rows)))else none)
   |_=>none)
 | .appW id e l bytes x y=>asSl (y.evD F S) fun e' c'=>check (Nat.beq e e') (match x.ev F with
   | .d (.one (.sl e2)) r=>check (Nat.beq e e2) (match at_ r 0 with
     | .nils=>asFresh o (if c'.rows.length*bytes≤140737488355328 then k (.sw (base+id) 0) (some (.sarr 0 e l (appC .nils c'.rows)))else none)
     |_=>none)
   | .sw i v=>asSarr o v fun e2 l' c=>check (Nat.beq e e2&&L.beq l l') (if (c.rows.length+c'.rows.length)*bytes≤140737488355328 then k (.sw i (v+1)) (some (.sarr (v+1) e l (appC c c'.rows)))else none)
   |_=>none)
 | .appS id e x y=>asS (y.evD F S) fun s=>match x.ev F with
   | .d (.one (.sl e2)) r=>check (Nat.beq e e2) (match at_ r 0 with
     | .nils=>asFresh o (if s.length≤1099511627776 then k (.sw (base+id) 0) (some (.sarr 0 e (.one (.int .u8)) (appC .nils (s.map byteRow))))else none)
     |_=>none)
   | .sw i v=>asSarr o v fun e2 l' c=>check (Nat.beq e e2&&L.beq (.one (.int .u8)) l') (if c.rows.length+s.length≤1099511627776 then k (.sw i (v+1)) (some (.sarr (v+1) e (.one (.int .u8)) (appC c (s.map byteRow))))else none)
   |_=>none
 | .mk id _ l z bytes n c=>asFresh o (asI (n.evD F S) fun _ a=>asI (c.evD F S) fun _ b=>if 0≤a∧a≤b∧b*bytes≤140737488355328∧b≤1099511627776 then k (.whole (base+id) 0) (some (.arr 0 l (.sl (List.replicate a.toNat z))))else none)
 | .mkS id e l z bytes n c=>asFresh o (asI (n.evD F S) fun _ a=>asI (c.evD F S) fun _ b=>if 0≤a∧a≤b∧b*bytes≤140737488355328∧b≤1099511627776 then k (.sw (base+id) 0) (some (.sarr 0 e l (.sl (List.replicate a.toNat z))))else none)
 | .slc e l x lo hi=>match x.evD F S with
   | .d (.one (.sl e')) r=>check (Nat.beq e e') (bnd F S lo 0 fun a=>bnd F S hi (at_ r 0).rows.length fun b=>
       if 0≤a∧a≤b∧b≤((at_ r 0).rows.length:Int)then k (.d (.one (.sl e)) [slcC (at_ r 0) a b]) none else none)
   | .whole id v=>asArr o v fun l' c=>check (L.beq l l') (match c with
     | .sl rows=>(bnd F S lo 0 fun a=>bnd F S hi rows.length fun b=>if 0≤a∧a≤b∧b≤(rows.length:Int)then k (.own id v a.toNat (b.toNat - a.toNat)) none else none)
     |_=>none)
   | .own id v off len=>asArr o v fun l' c=>check (L.beq l l') (asRows c fun rows=>bnd F S lo 0 fun a=>bnd F S hi len fun b=>
       if 0≤a∧a≤b∧(b≤(len:Int)∨off=0∧b≤(rows.length:Int))then k (.own id v (off+a.toNat) (b.toNat - a.toNat)) none else none)
   |_=>none
 | .slcS x lo hi=>asS (x.evD F S) fun s=>bnd F S lo 0 fun a=>bnd F S hi s.length fun b=>if 0≤a∧a≤b∧b≤(s.length:Int)then k (vS ((s.take b.toNat).drop a.toNat)) none else none
 | .call f ps rs args=>rowsOf F S ps args fun rows=>(E.pc f rows).bind fun out=>k (resV rs out) none
 | .callv t ps rs x args=>match x.ev F with
   | .d (.one (.fn t')) r=>check (Nat.beq t t') (rowsOf F S ps args fun rows=>(callC E (at_ r 0) rows).bind fun out=>k (resV rs out) none)
   |_=>none
 | .mkf f t ks caps=>capRows F S ks caps fun row=>k (.d (.one (.fn t)) [.fn f row]) none
 | .mkfO f caps=>k (.fn f (caps.map (·.ev F))) none
 | .ext i x=>match x.ev F with
   | .tup vs=>(match vs[i]? with |some v=>k v none |none=>none)
   |_=>none
 | .mkm id kl vl=>asFresh o (k (.map (base+id)) (some (.map kl vl [])))
 | .lk kl vl z x key ok=>asD (key.evD F S) fun l kr=>check (L.beq kl l) (match x.ev F with
   | .map _=>asMap o fun kl' vl' es=>check (L.beq kl kl'&&L.beq vl vl') (match ok with
       |true=>k (.tup [.d vl (nrm vl ((findE kl kr es).getD z)),vB (findE kl kr es).isSome]) none
       |false=>k (.d vl (nrm vl ((findE kl kr es).getD z))) none)
   |_=>none)
 | .mup kl x key v=>asD (key.evD F S) fun l kr=>asD (v.evD F S) fun lv vr=>match x.ev F with
   | .map _=>asMap o fun kl' vl es=>check (L.beq kl kl'&&L.beq kl' l&&L.beq vl lv) (k .und (some (.map kl' vl (setE kl' kr vr es))))
   |_=>none
 | .ent kl vl z x key=>asD (key.evD F S) fun l kr=>match x.ev F with
   | .map _=>asMap o fun kl' vl' es=>check (L.beq kl kl'&&L.beq kl' l&&L.beq vl vl') (k (.tup [.d vl' (nrm vl' ((findE kl' kr es).getD z)),vI .i64 (idxE kl' kr es)]) (some (.map kl' vl' (setE kl' kr ((findE kl' kr es).getD z) es))))
   |_=>none
 | .est x s v=>asI (s.evD F S) fun _ n=>asD (v.evD F S) fun lv vr=>match x.ev F with
   | .map _=>asMap o fun kl vl es=>check (L.beq vl lv) (if 0≤n∧n<(es.length:Int)then k .und (some (.map kl vl (es.modify n.toNat fun e=>(e.1,vr))))else none)
   |_=>none
 | .slc3 e l x lo hi mx=>match x.ev F with
   | .whole _ v=>asArr o v fun l' c=>check (L.beq l l') (asRows c fun rows=>asI (lo.evD F S) fun _ a=>asI (hi.evD F S) fun _ b=>asI (mx.evD F S) fun _ m=>if 0≤a∧a≤b∧b≤m∧m≤(rows.length:Int)then k .undef none else none)
   |_=>none
 | .appM e l x y=>match x.ev F,y.ev F with
   | .own id v off len, .own id2 v2 off2 len2=>asArr o v fun l' c=>check (Nat.beq id id2&&Nat.beq v v2&&L.beq l l') (asRows c fun rows=>if off=0∧len≤off2 then k (.own id v 0 (len+len2)) (some (.arr v l (.sl (rows.take len++(rows.drop off2).take len2++rows.drop (len+len2)))))else none)
   |_,_=>none
 | .clr e l z x=>match x.ev F with
   | .own _ v off len=>asArr o v fun l' c=>check (L.beq l l') (asRows c fun rows=>k .undef (some (.arr v l (.sl (rows.take off++List.replicate len z++rows.drop (off+len))))))
   |_=>none
 | .movT x=>match x.ev F with
   | .own id v off len=>asArr o v fun l' c=>asRows c fun rows=>if off=0 then k (.whole id (v+1)) (some (.arr (v+1) l' (.sl (rows.take len))))else none
   |_=>none
 | .ldH h l x=>match x.ev F with
   | .hptr _ idx=>asHol o fun l' c i av=>check (L.beq l l') (match h with
     |true=>if idx<c.rows.length∧idx=i then k av none else none
     |false=>if idx<c.rows.length∧idx≠i then k (.d l (nrm l (rowsAt c.rows idx))) none else none)
   |_=>none
 | .stH x v=>match x.ev F with
   | .hptr _ idx=>asHol o fun l' c i _=>check (AV.single (v.ev F)&&Nat.beq l'.n 1) (if c.rows.length≤i∧idx<c.rows.length then k .und (some (.hol l' c idx (v.ev F)))else none)
   |_=>none
 | .stF l x v=>match x.ev F with
   | .hptr _ idx=>asHol o fun l' c i av=>asD (v.evD F S) fun lv row=>check (L.beq l lv&&L.beq l l') (if c.rows.length≤i∧idx<c.rows.length then k .und (some (.hol l' (.sl (c.rows.set idx row)) i av))else none)
   |_=>none
 | .lenM x=>match x.ev F with
   | .map _=>asMap o fun _ _ es=>k (vI .i64 es.length) none
   |_=>none
 | .icall .. =>none
 | .boxA id x=>asFresh o (match cellsV (x.ev F)with |some vs=>k (.ptr (base+id) 0) (some (.cells false vs))|none=>none)
 | .allocA id zs=>asFresh o (k (.ptr (base+id) 0) (some (.cells false (zsV zs))))
 | .ldA n x=>match x.ev F with
   | .ptr _ off=>(match o with
     | .cells _ vs=>check (Nat.ble (off+n) vs.length) (k (.agg ((vs.drop off).take n)) none)
     |_=>none)
   |_=>none
 | .stA n x v=>match x.ev F with
   | .ptr _ off=>(match o with
     | .cells false vs=>(match cellsV (v.ev F)with
       |some us=>check (Nat.beq us.length n&&Nat.ble (off+us.length) vs.length) (k .und (some (.cells false (putV off us vs))))
       |none=>none)
     |_=>none)
   |_=>none
 | .fldA off n x=>match x.ev F with
   | .agg vs=>check (Nat.ble (off+n) vs.length) (match n with
     |1=>(match vs[off]? with |some v=>check (AV.single v) (k v none)|none=>none)
     |n=>k (.agg ((vs.drop off).take n)) none)
   |_=>none
 | .bldA zs parts=>fillA F parts (zsV zs) fun vs=>k (.agg vs) none
 | .iadV m n x i=>asI (i.evD F S) fun _ j=>match x.ev F with
   | .ptr id p=>asHas o (splitI j 0 m fun i=>k (.ptr id (p+i*n)) none)
   |_=>none
 | .ptrnil neg x=>match x.ev F with
   | .d (.one (.ref _)) r=>k (vB (xorB neg (at_ r 0).isNilP)) none
   | .ptr _ _=>asHas o (k (vB (xorB neg false)) none)
   |_=>none
 | .ifnil neg x=>match x.ev F with
   | .d (.one .ifc) r=>k (vB (xorB neg (at_ r 0).isNilI)) none
   |_=>none
 | .nilM=>k .undef none
end
mutual
def packV (S:St) (m:Nat) (co:Bool):Sh→AV→Option (List PV)
 | .d l, .d l' row=>match L.beq l l' with |true=>some [.r (nrm l row)]|false=>none
 | .ptr i o, .ptr i' o'=>match Nat.beq i i'&&Nat.beq o o'&&Nat.blt i m with |true=>some []|false=>none
 | .whole i, .whole i' v=>match S[i']? with
   |some (.arr v' _ _)=>(match Nat.beq i i'&&Nat.beq v v'&&Nat.blt i m with |true=>some []|false=>none)
   |_=>none
 | .fn f cs, .fn f' vs=>match Nat.beq f f' with |true=>packVs S m co cs vs |false=>none
 | .map i, .map i'=>match Nat.beq i i'&&Nat.blt i m with |true=>some []|false=>none
 | .sw i, .sw i' v=>match S[i']? with
   |some (.sarr v' _ _ _)=>(match Nat.beq i i'&&Nat.beq v v'&&Nat.blt i m with |true=>some []|false=>none)
   |_=>none
 | .d l, .sw i' v=>match co,AV.dat S (.sw i' v)with
   |true, .d l' row=>(match L.beq l l' with |true=>some [.r (nrm l row)]|false=>none)
   |_,_=>none
 | .agg ss, .agg vs=>packVs S m co ss vs
 | .d l, .agg vs=>match co,AV.dat S (.agg vs)with
   |true, .d l' row=>(match L.beq l l' with |true=>some [.r (nrm l row)]|false=>none)
   |_,_=>none
 | .agg ss, .d l row=>match packVs S m co ss (cellsOf l.ks row 0),l with
   |some ps, .agg _=>some ps
   |_,_=>none
 | .ptrv i, .ptr i' o=>match Nat.beq i i'&&Nat.blt i m with |true=>some [.r [.int (o:Int)]]|false=>none
 | .aptr i, .aptr i' v idx o=>match S[i']? with
   |some (.arr v' _ _)=>(match Nat.beq i i'&&Nat.beq v v'&&Nat.blt i m with |true=>some [.r [.int (idx:Int), .int (o:Int)]]|false=>none)
   |_=>none
 | .hol i, .hol i'=>match Nat.beq i i'&&Nat.blt i m with |true=>some []|false=>none
 |_,_=>none
def packVs (S:St) (m:Nat) (co:Bool):List Sh→List AV→Option (List PV)
 |[],[]=>some []
 |s::ss,v::vs=>match packV S m co s v,packVs S m co ss vs with
  |some a,some b=>some (a++b)
  |_,_=>none
 |_,_=>none
end
def packO (S:St) (m:Nat):OSh→Obj→Option (List PV)
 | .var l, .var l' row=>match L.beq l l' with |true=>some [.r (nrm l row)]|false=>none
 | .cells c vs, .cells c' avs=>match c==c' with |true=>packVs S m false vs avs |false=>none
 | .arr l, .arr _ l' c=>match L.beq l l' with |true=>some [.r [c]]|false=>none
 | .map kl vl, .map kl' vl' es=>match L.beq kl kl'&&L.beq vl vl' with |true=>some [.m es]|false=>none
 | .sarr e l, .sarr _ e' l' c=>match Nat.beq e e'&&L.beq l l' with |true=>some [.r [c]]|false=>none
 | .hol l s, .hol l' c i av=>match L.beq l l' with
   |true=>(match packV S m false s av with |some ps=>some (.r [c, .int (i:Int)]::ps)|none=>none)
   |false=>none
 | .cells _ [],_=>some []
 |_,_=>none
def packOs (S:St) (m:Nat):List OSh→St→Option (List PV)
 |[],_=>some []
 |s::ss,o::os=>match packO S m s o,packOs S m ss os with
  |some a,some b=>some (a++b)
  |_,_=>none
 |_::_,[]=>none
def hd (ps:List PV):Row:=(ps.headD (.r [])).row
mutual
def unV:Sh→List PV→AV×List PV
 | .d l,ps=>(.d l (nrm l (hd ps)),ps.tail)
 | .ptr i o,ps=>(.ptr i o,ps)
 | .whole i,ps=>(.whole i 0,ps)
 | .fn f cs,ps=>match unVs cs ps with |(vs,r)=>(.fn f vs,r)
 | .map i,ps=>(.map i,ps)
 | .sw i,ps=>(.sw i 0,ps)
 | .agg cs,ps=>match unVs cs ps with |(vs,r)=>(.agg vs,r)
 | .ptrv i,ps=>(.ptr i (at_ (hd ps) 0).toI.toNat,ps.tail)
 | .aptr i,ps=>(.aptr i 0 (at_ (hd ps) 0).toI.toNat (at_ (hd ps) 1).toI.toNat,ps.tail)
 | .hol i,ps=>(.hol i,ps)
def unVs:List Sh→List PV→List AV×List PV
 |[],ps=>([],ps)
 |s::ss,ps=>match unV s ps with
  |(v,r)=>match unVs ss r with
   |(vs,r')=>(v::vs,r')
end
def unO:OSh→List PV→Obj×List PV
 | .var l,ps=>(.var l (nrm l (hd ps)),ps.tail)
 | .cells _ [],ps=>(.dead,ps)
 | .cells c vs,ps=>match unVs vs ps with |(avs,r)=>(.cells c avs,r)
 | .arr l,ps=>(.arr 0 l (at_ (hd ps) 0),ps.tail)
 | .map kl vl,ps=>(.map kl vl (ps.headD (.m [])).es,ps.tail)
 | .sarr e l,ps=>(.sarr 0 e l (at_ (hd ps) 0),ps.tail)
 | .hol l s,ps=>match unV s ps.tail with |(av,r)=>(.hol l (at_ (hd ps) 0) (at_ (hd ps) 1).toI.toNat av,r)
def unOs:List OSh→List PV→St
 |[],_=>[]
 |s::ss,ps=>match unO s ps with |(o,r)=>o::unOs ss r
def unSlots:List (Nat×Sh)→List PV→Fr×List PV
 |[],ps=>([],ps)
 |(n,s)::r,ps=>match unV s ps with
  |(v,ps')=>match unSlots r ps' with
   |(F,ps'')=>((n,v)::F,ps'')
section
variable {A:Type} (E:Env) (F:Fr) (S:St)
mutual
def Sh.ren (ids:List Nat):Sh→Sh
 | .d l=> .d l
 | .ptr i o=> .ptr (ids.getD i 0) o
 | .whole i=> .whole (ids.getD i 0)
 | .fn f cs=> .fn f (Sh.rens ids cs)
 | .map i=> .map (ids.getD i 0)
 | .sw i=> .sw (ids.getD i 0)
 | .agg cs=> .agg (Sh.rens ids cs)
 | .ptrv i=> .ptrv (ids.getD i 0)
 | .aptr i=> .aptr (ids.getD i 0)
 | .hol i=> .hol (ids.getD i 0)
def Sh.rens (ids:List Nat):List Sh→List Sh
 |[]=>[]
 |s::r=>Sh.ren ids s::Sh.rens ids r
end
mutual
def Sh.under (n:Nat):Sh→Bool
 | .d _=>true
 | .ptr i _=>Nat.blt i n
 | .whole i=>Nat.blt i n
 | .fn _ cs=>Sh.unders n cs
 | .map i=>Nat.blt i n
 | .sw i=>Nat.blt i n
 | .agg cs=>Sh.unders n cs
 | .ptrv i=>Nat.blt i n
 | .aptr i=>Nat.blt i n
 | .hol i=>Nat.blt i n
def Sh.unders (n:Nat):List Sh→Bool
 |[]=>true
 |s::r=>Sh.under n s&&Sh.unders n r
end
def OSh.ren (ids:List Nat):OSh→OSh
 | .cells c vs=> .cells c (Sh.rens ids vs)
 | .hol l s=> .hol l (Sh.ren ids s)
 |o=>o
def OSh.under (n:Nat):OSh→Bool
 | .cells _ vs=>Sh.unders n vs
 | .hol _ s=>Sh.under n s
 |_=>true
def Shape.under (n:Nat) (sh:Shape):Bool:=sh.slots.all (fun p=>Sh.under n p.2)&&sh.objs.all (OSh.under n)
mutual
def AV.ren (ids vers:List Nat):AV→AV
 | .d l r=> .d l r
 | .ptr i o=> .ptr (ids.getD i 0) o
 | .whole i 0=> .whole (ids.getD i 0) (vers.getD i 0)
 | .fn f cs=> .fn f (AV.rens ids vers cs)
 | .map i=> .map (ids.getD i 0)
 | .sw i 0=> .sw (ids.getD i 0) (vers.getD i 0)
 | .agg vs=> .agg (AV.rens ids vers vs)
 | .aptr i 0 idx off=> .aptr (ids.getD i 0) (vers.getD i 0) idx off
 | .hol i=> .hol (ids.getD i 0)
 | .hptr i idx=> .hptr (ids.getD i 0) idx
 |_=> .undef
def AV.rens (ids vers:List Nat):List AV→List AV
 |[]=>[]
 |v::r=>AV.ren ids vers v::AV.rens ids vers r
end
def Obj.ren (ids vers:List Nat) (ver:Nat):Obj→Obj
 | .arr 0 l c=> .arr ver l c
 | .arr _ _ _=> .dead
 | .sarr 0 e l c=> .sarr ver e l c
 | .sarr _ _ _ _=> .dead
 | .cells c vs=> .cells c (AV.rens ids vers vs)
 | .fresh=> .dead
 | .hol l c i av=> .hol l c i (AV.ren ids vers av)
 |o=>o
def packAt (S:St) (all:List Nat):List Nat→List OSh→Option (List PV)
 |[],[]=>some []
 |id::is,s::ss=>match S[id]? with
  |some o=>(match packO S S.length (s.ren all) o,packAt S all is ss with
   |some a,some b=>some (a++b)
   |_,_=>none)
  |none=>none
 |_,_=>none
def packI (S:St) (ids:List Nat) (en:Shape) (args:List AV):Option (List PV):=
 match packVs S S.length true (Sh.rens ids (en.slots.map (·.2))) args,packAt S ids ids en.objs with
 |some a,some b=>some (a++b)
 |_,_=>none
def verOf (S:St) (id:Nat):Nat:=match S[id]? with |some (.arr v _ _)=>v+1 |some (.sarr v _ _ _)=>v+1 |_=>0
def renObjs (ids vers:List Nat):List Nat→List Nat→List Obj→List (Nat×Obj)
 |i::is,v::vs,o::os=>(i,Obj.ren ids vers v o)::renObjs ids vers is vs os
 |_,_,_=>[]
def keepC (S:St):List (Nat×Obj)→List (Nat×Obj)
 |[]=>[]
 |p::r=>match cstAt S p.1&&p.2.cst with |true=>keepC S r |false=>p::keepC S r
def freshAt (S:St):List Nat→Bool
 |[]=>true
 |i::r=>(match S[i]? with |some .fresh=>true |_=>false)&&freshAt S r
def nodupB:List Nat→Bool
 |[]=>true
 |a::r=> !r.any (Nat.beq a)&&nodupB r
def numsFrom (i:Nat):Nat→List Nat
 |0=>[]
 |n+1=>i::numsFrom (i+1) n
def calleeOf (F:Fr) (f:Nat) (x:Option Opd) (args:List Opd) (k:List AV→Option A):Option A:=
 match x with
 |none=>k (args.map (·.ev F))
 |some y=>match y.ev F with
  | .fn f' caps=>check (Nat.beq f f') (k (args.map (·.ev F)++caps))
  |_=>none
def tupV (vs:List AV):AV:=match vs with |[v]=>v |_=> .tup vs
def OSh.cst:OSh→Bool | .cells true (_::_)=>true |_=>false
def kindB:List OSh→List OSh→Bool
 |[],r=>r.all fun s=> !s.cst
 |_::_,[]=>false
 |a::r,b::r'=>(match a,b with
  |_, .cells _ []=>true
  | .var _, .var _=>true
  | .cells c (_::_), .cells c' _=> !c' ||c
  | .arr l, .arr l'=>L.beq l l'
  | .map _ _, .map _ _=>true
  | .sarr e l, .sarr e' l'=>Nat.beq e e'&&L.beq l l'
  | .hol l _, .hol l' _=>L.beq l l'
  |_,_=>false)&&kindB r r'
def optO:Option Opd→List Opd |none=>[]|some x=>[x]
def opds:AOp→List Opd
 | .mov x=>[x]| .nchk x=>[x]| .cvS x=>[x]| .nilO _ _=>[]| .nilS _ _ _=>[]
 | .pick c a b=>[c,a,b]
 | .ibin _ x y=>[x,y]| .idiv _ x y=>[x,y]| .shf _ x y=>[x,y]| .icmp _ x y=>[x,y]| .scat x y=>[x,y]| .scmp _ x y=>[x,y]| .bcmp _ x y=>[x,y]
 | .aeq _ _ x y=>[x,y]| .nileq _ x=>[x]| .not x=>[x]| .ineg x=>[x]| .icpl x=>[x]| .i2i _ x=>[x]| .s2b _ x=>[x]| .b2s _ x=>[x]
 | .boxP _ _ x=>[x]| .boxO _ _ x=>[x]| .boxC _ x=>[x]| .allocO _ _ _=>[]| .allocC _=>[]
 | .ld _ _ x=>[x]| .ldC x=>[x]| .st _ x v=>[x,v]| .stC x v=>[x,v]| .fad _ _ _ _ x=>[x]| .fld _ _ x=>[x]
 | .bld _ _ ps=>ps.map fun p=>p.2.2
 | .bsl _ _ _ _ ps=>ps.map fun p=>p.2
 | .bslS _ _ _ _ _ ps=>ps.map fun p=>p.2
 | .bslO _ _ _ _ _ ps=>ps.map fun p=>p.2
 | .iad _ _ x i=>[x,i]| .iadA _ _ _ _ x i=>[x,i]| .idxS x i=>[x,i]| .idxA _ _ x i=>[x,i]| .lenS x=>[x]| .lenL x=>[x]
 | .imin _ xs=>xs
 | .app _ _ _ _ x y=>[x,y]| .appW _ _ _ _ x y=>[x,y]| .appS _ _ x y=>[x,y]| .mk _ _ _ _ _ n c=>[n,c]| .mkS _ _ _ _ _ n c=>[n,c]
 | .slc _ _ x lo hi=>x::optO lo++optO hi
 | .slcS x lo hi=>x::optO lo++optO hi
 | .call _ _ _ xs=>xs
 | .callv _ _ _ x xs=>x::xs
 | .cmpS _ x y=>[x,y]
 | .ixbS _ x y=>[x,y]
 | .bad=>[]
 | .icall _ _ _ _ _ _ x xs=>optO x++xs
 | .mkf _ _ _ cs=>cs | .mkfO _ cs=>cs
 | .ext _ x=>[x]
 | .mkm _ _ _=>[]
 | .lk _ _ _ x key _=>[x,key]
 | .mup _ x key v=>[x,key,v]
 | .ent _ _ _ x key=>[x,key]| .est x s v=>[x,s,v]
 | .slc3 _ _ x lo hi mx=>[x,lo,hi,mx]| .appM _ _ x y=>[x,y]| .clr _ _ _ x=>[x]| .movT x=>[x]
 | .ldH _ _ x=>[x]| .stH x v=>[x,v]| .stF _ x v=>[x,v]
 | .lenM x=>[x]
 | .boxA _ x=>[x]| .allocA _ _=>[]| .ldA _ x=>[x]| .stA _ x v=>[x,v]| .fldA _ _ x=>[x]
 | .bldA _ ps=>ps.map fun p=>p.2.2
 | .iadV _ _ x i=>[x,i]| .ptrnil _ x=>[x]| .ifnil _ x=>[x]| .nilM=>[]
def cidsO (F:Fr) (op:AOp):List Nat:=(opds op).flatMap fun x=>(x.ev F).cids
def opK (op:AOp) (base:Nat) (k:AV→List (Nat×Obj)→List Nat→Option A):Option A:=
 match op with
 | .icall i f en ex ids new x args=>calleeOf F f x args fun vs=>
   let all:=ids++numsFrom (base+new) (ex.objs.length - ids.length)
   let vers:=all.map (verOf S)
   check (Shape.under ids.length en&&Shape.under all.length ex&&freshAt S (numsFrom (base+new) (ex.objs.length - ids.length))&&nodupB all&&Nat.ble ids.length ex.objs.length&&kindB en.objs ex.objs)
    ((packI S ids en vs).bind fun ps=>(E.ic i ps).bind fun ps'=>match unVs (ex.slots.map (·.2)) ps' with
      |(vs',r)=>k (tupV (AV.rens all vers vs')) (keepC S (renObjs all vers all vers (unOs ex.objs r))) (all++cidsO F op))
 |op=>match tgt F op base with
  |none=>opO E F S .dead op base fun v _=>k v [] (cidsO F op)
  |some id=>getO S id fun o=>opO E F S o op base fun v no=>k v (match no with |some o'=>[(id,o')]|none=>[]) (id::cidsO F op)
end
def updAll:List (Nat×Obj)→St→St
 |[],S=>S
 |(i,o)::r,S=>updAll r (S.set i o)
def Fr.put (F:Fr):Option Nat→AV→Fr
 |some t,v=>(t,v)::F
 |none,_=>F
abbrev Foot:=List Nat×List Nat
def meets:List Nat→List Nat→Bool
 |[],_=>false
 |a::r,l=>l.any (Nat.beq a)||meets r l
def conflict (a b:Foot):Bool:=meets a.1 b.1 ||meets a.1 b.2 ||meets a.2 b.1
def orderOk (f:Foot) (bef:List Nat):List Foot→Nat→Bool
 |[],_=>true
 |g::r,i=>(!conflict f g ||bef.any (Nat.beq i))&&orderOk f bef r (i+1)
section
variable {A:Type} (E:Env)
def opsK (draw:Bool) (base:Nat):List AOper→List Foot→Fr→St→(Fr→St→Option A)→Option A
 |[],_,F,S,k=>k F S
 |o::rest,seen,F,S,k=>
  let run (F:Fr):Option A:=opK E F S o.op base fun v us rd=>
   check (!draw ||orderOk (us.map (·.1),rd) o.bef seen 0) (opsK draw base rest (match draw with |true=>seen++[(us.map (·.1),rd)]|false=>[]) (F.put o.dst v) (updAll us S) k)
  let skip (F:Fr):Option A:=opsK draw base rest (match draw with |true=>seen++[([],[])]|false=>[]) (F.put o.dst .und) S k
  match o.guard with
  |none=>run F
  |some (t,w)=>match F.get t with
   | .d (.one .bool) [.bool e]=>(match w with
     |true=>if e=true then run ((t,vB true)::F)else skip ((t,vB false)::F)
     |false=>if e=true then skip ((t,vB true)::F)else run ((t,vB false)::F))
   | .und=>skip F
   |_=>none
def freeze1 (n:Nat) (t:TypeId) (ol:Option L) (F:Fr) (S:St) (k:Fr→St→Option A):Option A:=
 match ol with
 |some l=>(match F.get n with
  | .whole id v=>getO S id fun o=>asArr o v fun l' c=>check (L.beq l l') (k ((n, .d (.one (.sl t)) [c])::F) (S.set id .dead))
  | .ptr id 0=>getO S id fun o=>(match o with
    | .var l' r=>check (L.beq l l') (k ((n, .d (.one (.ref t)) [.dp r])::F) (S.set id .dead))
    |_=>none)
  |_=>none)
 |none=>(match F.get n with
  | .ptr id 0=>getO S id fun o=>(match o with
    | .cells _ vs=>k F (S.set id (.cells true vs))
    |_=>none)
  |_=>none)
def freezeAll:List (Nat×TypeId×Option L)→Fr→St→(Fr→St→Option A)→Option A
 |[],F,S,k=>k F S
 |(n,t,ol)::r,F,S,k=>freeze1 n t ol F S fun F S=>freezeAll r F S k
end
def addId (i:Nat) (ids:List Nat):List Nat:=match ids.any (Nat.beq i)with |true=>ids |false=>ids++[i]
def addAll:List Nat→List Nat→List Nat
 |[],ids=>ids
 |i::r,ids=>addAll r (addId i ids)
mutual
def shIds:Sh→AV→List Nat
 | .ptr _ _, .ptr i _=>[i]
 | .whole _, .whole i _=>[i]
 | .sw _, .sw i _=>[i]
 | .map _, .map i=>[i]
 | .fn _ cs, .fn _ vs=>shIdsL cs vs
 | .agg cs, .agg vs=>shIdsL cs vs
 | .ptrv _, .ptr i _=>[i]
 | .aptr _, .aptr i _ _ _=>[i]
 | .hol _, .hol i=>[i]
 |_,_=>[]
def shIdsL:List Sh→List AV→List Nat
 |s::ss,v::vs=>shIds s v++shIdsL ss vs
 |_,_=>[]
end
def collect (S:St) (objs:List OSh):Nat→Nat→List Nat→List Nat
 |0,_,ids=>ids
 |n+1,k,ids=>match objs[k]?,ids[k]? with
  |some (.cells _ ss),some i=>(match S[i]? with
   |some (.cells _ vs)=>collect S objs n (k+1) (addAll (shIdsL ss vs) ids)
   |_=>collect S objs n (k+1) ids)
  |some (.hol _ s),some i=>(match S[i]? with
   |some (.hol _ _ _ av)=>collect S objs n (k+1) (addAll (shIds s av) ids)
   |_=>collect S objs n (k+1) ids)
  |_,_=>collect S objs n (k+1) ids
def idsFor (sh:Shape) (vs:List AV) (S:St):List Nat:=collect S sh.objs sh.objs.length 0 (addAll (shIdsL (sh.slots.map (·.2)) vs) (numsFrom 0 sh.m))
def packX (sh:Shape) (vs:List AV) (S:St):Option (List PV):=
 let ids:=idsFor sh vs S
 match nodupB ids&&Shape.under ids.length sh&&prefB sh.m ids 0 with
 |true=>packI S ids sh vs
 |false=>none
 where prefB:Nat→List Nat→Nat→Bool
 |0,_,_=>true
 |n+1,a::r,i=>Nat.beq a i&&prefB n r (i+1)
 |_+1,[],_=>false
def pack (sh:Shape) (F:Fr) (S:St):Option (List PV):=packX sh (sh.slots.map fun p=>F.get p.1) S
def unpack {A:Type} (sh:Shape) (ps:List PV) (k:Fr→St→Option A):Option A:=
 match unSlots sh.slots ps with
 |(F,r)=>k F (unOs sh.objs r)
def Exit'.beq:Exit'→Exit'→Bool
 | .normal, .normal=>true
 | .ret, .ret=>true
 | .exit a, .exit b=>Nat.beq a b
 |_,_=>false
def packOut (e:Exit') (F:Fr) (S:St):List (Exit'×Shape)→Nat→Option (Nat×List PV)
 |[],_=>none
 |(e',sh)::r,i=>match Exit'.beq e e' with
  |true=>(match pack sh F S with |some ps=>some (i,ps)|none=>none)
  |false=>packOut e F S r (i+1)
def goOn {A:Type} (k:Exit'→Fr→St→Option A):List (Exit'×Shape)→Nat→List PV→Option A
 |[],_,_=>none
 |[(e,sh)],_,ps=>unpack sh ps (k e)
 |(e,sh)::r,i,ps=>match i with
  |0=>unpack sh ps (k e)
  |i+1=>goOn k r i ps
def loopStep (body:Fr→St→(Exit'→Fr→St→Option (Nat×List PV))→Option (Nat×List PV)) (sh:Shape) (outs:List (Exit'×Shape)) (X:List PV→Option (Nat×List PV)) (ps:List PV):Option (Nat×List PV):=
 unpack sh ps fun F S=>body F S fun e F S=>match e with
  | .normal=>(match pack sh F S with |some ps'=>X ps' |none=>none)
  |e=>packOut e F S outs 0
def iterN (step:(List PV→Option (Nat×List PV))→List PV→Option (Nat×List PV)):Nat→List PV→Option (Nat×List PV)
 |0,_=>none
 |n+1,ps=>step (iterN step n) ps
def ghostK {A:Type} (g:Ghost) (F:Fr) (S:St) (k:Fr→St→Option A):Option A:=
 match g with
 | .lft n off e l=>(match off with
   |none=>(match F.get n with
    | .d (.one (.sl e')) [.nils]=>check (Nat.beq e e') (k ((n, .sw S.length 0)::F) (S++[.sarr 0 e l .nils]))
    |_=>none)
   |some off=>(match F.get n with
    | .ptr id p=>getO S id fun o=>(match o with
      | .cells c vs=>(match vs[p+off]? with
        |some (.d (.one (.sl e')) [.nils])=>check (Nat.beq e e') (k F ((S.set id (.cells c (vs.set (p+off) (.sw S.length 0))))++[.sarr 0 e l .nils]))
        |_=>none)
      |_=>none)
    |_=>none))
 | .lftO n off e l=>(match F.get n with
   | .ptr id p=>getO S id fun o=>(match o with
     | .cells c vs=>(match vs[p+off]? with
       |some (.d (.one (.sl e')) [.nils])=>check (Nat.beq e e') (k F ((S.set id (.cells c (vs.set (p+off) (.whole S.length 0))))++[.arr 0 l .nils]))
       |_=>none)
     |_=>none)
   |_=>none)
 | .frzS n e l=>freeze1 n e (some l) F S k
 | .opnH n l=>(match F.get n with
   | .whole id v=>getO S id fun o=>asArr o v fun l' c=>check (L.beq l l') (k ((n, .hol S.length)::F) (S.set id .dead++[.hol l c c.rows.length (.agg [])]))
   |_=>none)
 | .clsH n e l=>(match F.get n with
   | .hol id=>getO S id fun o=>asHol o fun l' c0 i av=>(match l',av with
     | .one (.sl e'), .whole id' v=>getO S id' fun o'=>asArr o' v fun l2 c=>check (Nat.beq e e'&&L.beq l l2&& !Nat.beq id' id)
         (asRows c0 fun rows=>k ((n, .whole S.length 0)::F) ((S.set id' .dead).set id .dead++[.arr 0 l' (.sl (rows.set i [c]))]))
     |_,_=>none)
   |_=>none)
 | .clsF n=>(match F.get n with
   | .hol id=>getO S id fun o=>asHol o fun l c i _=>if c.rows.length≤i then k ((n, .whole S.length 0)::F) (S.set id .dead++[.arr 0 l c])else none
   |_=>none)
 | .frz n off e l=>(match F.get n with
   | .ptr id p=>getO S id fun o=>(match o with
     | .cells c vs=>(match vs[p+off]? with
       |some (.whole i v)=>getO S i fun o'=>asArr o' v fun l' d=>check (L.beq l l'&& !Nat.beq i id) (k F ((S.set i .dead).set id (.cells c (vs.set (p+off) (.d (.one (.sl e)) [d])))))
       |_=>none)
     |_=>none)
   |_=>none)
def codeK (E:Env):ACode→{A:Type}→Fr→St→(Exit'→Fr→St→Option A)→Option A
 | .skip,_,F,S,k=>k .normal F S
 | .ghost g c,_,F,S,k=>ghostK g F S fun F S=>codeK E c F S k
 | .post g c,_,F,S,k=>codeK E c F S fun e F S=>match e with
   | .normal=>ghostK g F S (k .normal)
   |e=>k e F S
 | .region fz ops draw n,_,F,S,k=>freezeAll fz F S fun F S=>opsK E draw S.length ops [] F (S++List.replicate n .fresh) (k .normal)
 | .seq a b,_,F,S,k=>codeK E a F S fun e F S=>match e with
   | .normal=>codeK E b F S k
   |e=>k e F S
 | .cond c a b,_,F,S,k=>match c.ev F with
   | .d (.one .bool) r=>if (at_ r 0).toB=true then codeK E a F S k else codeK E b F S k
   |_=>none
 | .block id c,_,F,S,k=>codeK E c F S fun e F S=>match e with
   | .exit id'=>(match Nat.beq id' id with |true=>k .normal F S |false=>k (.exit id') F S)
   |e=>k e F S
 | .loop sh outs c,_,F,S,k=>match pack sh F S with
   |some ps=>(E.fix (loopStep (fun F S k=>codeK E c F S k) sh outs) ps).bind fun x=>goOn k outs x.1 x.2
   |none=>none
 | .join outs c,_,F,S,k=>(codeK E c F S fun e F S=>packOut e F S outs 0).bind fun x=>goOn k outs x.1 x.2
 | .exit id,_,F,S,k=>k (.exit id) F S
 | .ret,_,F,S,k=>k .ret F S
 | .bad,_,_,_,_=>none
structure AFun where
 ps:List L
 rs:List L
 res:List (Bool×Nat×Option L)
 body:ACode
 deriving Inhabited
def toD (S:St) (l:L) (ol:Option L) (v:AV):Option Row:=
 match v with
 | .d l' r=>match L.beq l l' with |true=>some (nrm l r)|false=>none
 | .sw id v=>(match AV.dat S (.sw id v)with | .d l' r=>(match L.beq l l' with |true=>some (nrm l r)|false=>none)|_=>none)
 | .agg vs=>(match AV.dat S (.agg vs)with | .d l' r=>(match L.beq l l' with |true=>some (nrm l r)|false=>none)|_=>none)
 | .whole id v=>(match ol with
   |some le=>(match S[id]? with
    |some (.arr v' l' c)=>(match Nat.beq v v'&&L.beq le l' with |true=>some [c]|false=>none)
    |_=>none)
   |none=>none)
 | .own id v off len=>(match ol with
   |some le=>(match S[id]? with
    |some (.arr v' l' c)=>(match Nat.beq v v'&&L.beq le l' with |true=>some [.sl ((c.rows.drop off).take len)]|false=>none)
    |_=>none)
   |none=>none)
 |_=>none
def resK (F:Fr) (S:St):List L→List (Bool×Nat×Option L)→Option (List Row)
 |[],[]=>some []
 |l::ls,(cell,t,ol)::r=>
  match (match cell with
   |false=>toD S l ol (F.get t)
   |true=>match F.get t with
    | .ptr id 0=>(match S[id]? with
      |some (.var l' row)=>(match L.beq l l' with |true=>some row |false=>none)
      |some (.cells _ vs)=>(match l,vs with
       | .agg _,vs=>toD S l none (.agg vs)
       | .one _,[v]=>toD S l ol v
       |_,_=>none)
      |_=>none)
    |_=>none),resK F S ls r with
  |some a,some b=>some (a::b)
  |_,_=>none
 |_,_=>none
def frame:List L→List Row→Nat→Fr
 |[],_,_=>[]
 |l::ls,rows,i=>(i, .d l (nrm l (rows.headD [])))::frame ls rows.tail (i+1)
def runP (E:Env) (f:AFun) (rows:List Row):Option (List Row):=
 match Nat.beq rows.length f.ps.length with
 |true=>codeK E f.body (frame f.ps rows 0) [] fun e F S=>match e with
  | .exit _=> .none
  |_=>resK F S f.rs f.res
 |false=>none
inductive ResS where
 |tmp (t:Nat)|var (a:Nat) (l:L)|cells (a n:Nat)|cell1 (a:Nat)
 deriving Inhabited
structure AImp where
 fn:Nat
 entry:Shape
 res:List ResS
 exit:Shape
 body:ACode
 deriving Inhabited
def resVal (F:Fr) (S:St):ResS→Option AV
 | .tmp t=>some (F.get t)
 | .var a l=>(match F.get a with
   | .ptr id 0=>(match S[id]? with |some (.var l' row)=>(match L.beq l l' with |true=>some (.d l row)|false=>none)|_=>none)
   |_=>none)
 | .cells a n=>(match F.get a with
   | .ptr id 0=>(match S[id]? with |some (.cells _ vs)=>(match Nat.beq vs.length n with |true=>some (.agg vs)|false=>none)|_=>none)
   |_=>none)
 | .cell1 a=>(match F.get a with
   | .ptr id 0=>(match S[id]? with |some (.cells _ [v])=>some v |_=>none)
   |_=>none)
def resVals (F:Fr) (S:St):List ResS→Option (List AV)
 |[]=>some []
 |x::r=>match resVal F S x,resVals F S r with
  |some a,some b=>some (a::b)
  |_,_=>none
def runI (E:Env) (f:AImp) (ps:List PV):Option (List PV):=
 unpack f.entry ps fun F S=>codeK E f.body F S fun e F S=>match e with
  | .exit _=> .none
  |_=>(resVals F S f.res).bind fun vs=>packX f.exit vs S
inductive AFn where
 |none |cmp |ixb |glob (t:TypeId) (l:L) (row:Row)|code (f:AFun)|imp (f:AImp)|given (ps rs:List L) (f:List Row→Option (List Row))
def envOf (T:Nat→AFn):Nat→Env
 |0=>⟨fun _ _=> .none,fun _ _=> .none,fun _ _=> .none⟩
 |n+1=>
  ⟨fun f rows=>match T f with | .given _ _ g=>g rows | .code af=>runP (envOf T n) af rows |_=> .none,
   fun f ps=>match T f with | .imp af=>runI (envOf T n) af ps |_=> .none,fun step=>iterN step (n+1)⟩
end Go.Ev
