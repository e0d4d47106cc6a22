/-
  The abstract machine: data rows, objects, operations, code, and its evaluator (in continuation-passing form).
-/
import GoSem.Step
import Derived.Orders
set_option linter.all false
namespace Go.Ev
inductive K where
 |int (k:IntKind)|bool |str |sl (e:TypeId)|fn (t:TypeId)|ref (t:TypeId)|ifc
 deriving DecidableEq,Inhabited
inductive C where
 |undef |int (n:Int)|bool (b:Bool)|str (s:List UInt8)|bA |sl (rows:List (List C))|aNd
 |fn (f:Nat) (caps:List C)|dp (row:List C)|aTu |aYE |anyI
 deriving Inhabited
abbrev Row:=List C
def C.tA:C→Int | .int n=>n |_=>0
def C.wJ:C→Bool | .bool b=>b |_=>false
def C.mE:C→List UInt8 | .str s=>s |_=>[]
def C.rows:C→List Row | .sl r=>r |_=>[]
def C.eA:C→Row | .dp r=>r |_=>[]
def C.isNil:C→Bool | .bA=>true |_=>false
def C.a6n:C→Bool | .aNd=>true |_=>false
def C.yA:C→Bool | .dp _=>true |_=>false
def C.bC5:C→Bool | .aYE=>true |_=>false
def at_ (r:Row) (i:Nat):C:=r.getD i .undef
def sub (r:Row) (off:Nat):Nat→Row
 |0=>[]
 |n+1=>at_ r off::sub r (off+1) n
def put (r:Row) (off m:Nat) (s:Row) (i:Nat):Nat→Row
 |0=>[]
 |n+1=>(match Nat.ble off i&&Nat.blt i (off+m)with |true=>at_ s (i - off)|false=>at_ r i)::put r off m s (i+1) n
inductive L where |one (k:K)|agg (ks:List K)
 deriving DecidableEq,Inhabited
def L.ks:L→List K | .one k=>[k]| .agg ks=>ks
def L.n (l:L):Nat:=l.ks.length
def IntKind.tag:IntKind→Nat | .i8=>0 | .i16=>1 | .i32=>2 | .i64=>3 | .u8=>4 | .u16=>5 | .u32=>6 | .u64=>7
def K.beq:K→K→Bool
 | .int a,.int b=>Nat.beq (IntKind.tag a) (IntKind.tag b)
 | .bool,.bool=>true
 | .str,.str=>true
 | .sl a,.sl b=>Nat.beq a b
 | .fn a,.fn b=>Nat.beq a b
 | .ref a,.ref b=>Nat.beq a b
 | .ifc,.ifc=>true
 |_,_=>false
def aE2:List K→List K→Bool
 |[],[]=>true
 |a::x,b::y=>K.beq a b&&aE2 x y
 |_,_=>false
def L.beq:L→L→Bool
 | .one a,.one b=>K.beq a b
 | .agg a,.agg b=>aE2 a b
 |_,_=>false
inductive AV where
 |undef
 |und
 |d (l:L) (row:Row)
 |ptr (id off:Nat)
 |eM (id iO idx off:Nat)
 |whole (id iO:Nat)
 |own (id iO off len:Nat)
 |fn (f:Nat) (caps:List AV)
 |tup (vs:List AV)
 |map (id:Nat)
 |sw (id iO:Nat)
 |agg (vs:List AV)
 |tE (id:Nat)
 |aK5 (id idx:Nat)
 deriving Inhabited
def AV.single:AV→Bool
 | .d (.one _) _=>true
 | .ptr .. =>true
 | .eM .. =>true
 | .whole .. =>true
 | .own .. =>true
 | .fn .. =>true
 | .map .. =>true
 | .sw .. =>true
 | .tE .. =>true
 | .aK5 .. =>true
 |_=>false
inductive Obj where
 |fresh
 |dead
 |var (l:L) (row:Row)
 |cells (const:Bool) (vs:List AV)
 |arr (iO:Nat) (l:L) (c:C)
 |map (kl vl:L) (es:List (Row×Row))
 |zA (iO:Nat) (e:TypeId) (l:L) (c:C)
 |tE (l:L) (c:C) (i:Nat) (av:AV)
 deriving Inhabited
def Obj.cst:Obj→Bool | .cells true _=>true |_=>false
abbrev St:=List Obj
def aOQ (S:St) (i:Nat):Bool:=match S[i]? with |some o=>o.cst |none=>false
abbrev Fr:=List (Nat×AV)
def Fr.get:Fr→Nat→AV
 |[],_=> .undef
 |(n,v)::r,t=>match Nat.beq n t with |true=>v |false=>Fr.get r t
inductive kD where
 |t (n:Nat)
 |c (l:L) (row:Row)
def kD.ev (F:Fr):kD→AV
 | .t n=>F.get n
 | .c l r=> .d l r
mutual
def AV.dat (S:St):AV→AV
 | .sw id iO=>match S[id]? with
   |some (.zA v e _ c)=>(match Nat.beq iO v with |true=> .d (.one (.sl e)) [c]|false=> .sw id iO)
   |_=> .sw id iO
 | .agg vs=>match AV.aK6 S vs with
   |some (ks,row)=> .d (.agg ks) row
   |none=> .agg vs
 |v=>v
def AV.aK6 (S:St):List AV→Option (List K×Row)
 |[]=>some ([],[])
 |v::vs=>match AV.dat S v,AV.aK6 S vs with
  | .d (.one k) r,some (ks,row)=>some (k::ks,at_ r 0::row)
  |_,_=>none
end
mutual
def AV.aRx:AV→List Nat
 | .sw id _=>[id]
 | .agg vs=>AV.aCc vs
 | .fn _ vs=>AV.aCc vs
 |_=>[]
def AV.aCc:List AV→List Nat
 |[]=>[]
 |v::vs=>AV.aRx v++AV.aCc vs
end
def kD.cN (F:Fr) (S:St) (x:kD):AV:=(x.ev F).dat S
inductive Sh where
 |d (l:L)
 |ptr (id off:Nat)
 |whole (id:Nat)
 |fn (f:Nat) (caps:List Sh)
 |map (id:Nat)
 |sw (id:Nat)
 |agg (cs:List Sh)
 |aTw (id:Nat)
 |eM (id:Nat)
 |tE (id:Nat)
 deriving Inhabited
inductive zN where
 |var (l:L)|cells (const:Bool) (vs:List Sh)|arr (l:L)|map (kl vl:L)|zA (e:TypeId) (l:L)|tE (l:L) (s:Sh)
 deriving Inhabited
structure Shape where
 slots:List (Nat×Sh)
 objs:List zN
 m:Nat:=0
 deriving Inhabited
inductive oP where
 |mov (x:kD)
 |a2f (x:kD)
 |a2g (id:Nat) (l:L)
 |a2h (id:Nat) (e:TypeId) (l:L)
 |pick (c a b:kD)
 |a6o (op:BinOp) (x y:kD)
 |idiv (op:BinOp) (x y:kD)
 |shf (op:BinOp) (x y:kD)
 |a6p (op:BinOp) (x y:kD)
 |a6q (x y:kD)
 |a6r (op:BinOp) (x y:kD)
 |aeq (neg:Bool) (l:L) (x y:kD)
 |aUB (neg:Bool) (x:kD)
 |not (x:kD)
 |a6s (x:kD)
 |i2i (k:IntKind) (x:kD)
 |s2b (e:TypeId) (x:kD)
 |b2s (e:TypeId) (x:kD)
 |a6t (l:L) (t:TypeId) (x:kD)
 |a4Z (id:Nat) (l:L) (x:kD)
 |aRy (id:Nat) (l:L) (z:Row)
 |ld (l:L) (t:TypeId) (x:kD)
 |ldC (x:kD)
 |st (l:L) (x v:kD)
 |stC (x v:kD)
 |fad (off:Nat) (n:Nat) (t u:TypeId) (x:kD)
 |bld (l:L) (z:Row) (parts:List (Nat×Nat×kD))
 |bsl (e:TypeId) (l:L) (n:Nat) (z:Row) (parts:List (Nat×kD))
 |bslO (id:Nat) (e:TypeId) (l:L) (n:Nat) (z:Row) (parts:List (Nat×kD))
 |bslS (id:Nat) (e:TypeId) (l:L) (n:Nat) (z:Row) (parts:List (Nat×kD))
 |iad (e:TypeId) (l:L) (x i:kD)
 |a2i (m:Nat) (t e:TypeId) (l:L) (x i:kD)
 |a41 (x i:kD)
 |a42 (m:Nat) (l:L) (x i:kD)
 |a6u (x:kD)
 |a2j (x:kD)
 |imin (mx:Bool) (xs:List kD)
 |app (id:Nat) (e:TypeId) (l:L) (bytes:Nat) (x y:kD)
 |aUC (id:Nat) (e:TypeId) (l:L) (bytes:Nat) (x y:kD)
 |aUD (id:Nat) (e:TypeId) (x y:kD)
 |mk (id:Nat) (e:TypeId) (l:L) (z:Row) (bytes:Nat) (n c:kD)
 |slc (e:TypeId) (l:L) (x:kD) (lo hi:Option kD)
 |slcS (x:kD) (lo hi:Option kD)
 |call (f:Nat) (ps rs:List L) (args:List kD)
 |callv (t:TypeId) (ps rs:List L) (x:kD) (args:List kD)
 |a43 (f:Nat) (x y:kD)
 |a44 (f:Nat) (x y:kD)
 |bad
 |aCd (i f:Nat) (en ex:Shape) (ids:List Nat) (new:Nat) (x:Option kD) (args:List kD)
 |mkf (f:Nat) (t:TypeId) (ks:List K) (caps:List kD)
 |ext (i:Nat) (x:kD)
 |mkm (id:Nat) (kl vl:L)
 |lk (kl vl:L) (z:Row) (x key:kD) (ok:Bool)
 |mup (kl:L) (x key v:kD)
 |a2k (id:Nat) (x:kD)
 |aPd (id:Nat) (zs:List (Option (K×C)))
 |ldA (n:Nat) (x:kD)
 |stA (n:Nat) (x v:kD)
 |bldA (zs:List (Option (K×C))) (parts:List (Nat×Nat×kD))
 |a2l (m n:Nat) (x i:kD)
 |bAW (neg:Bool) (x:kD)
mutual
def Sh.beq:Sh→Sh→Bool
 | .d a,.d b=>L.beq a b
 | .ptr i o,.ptr i' o'=>Nat.beq i i'&&Nat.beq o o'
 | .whole i,.whole j=>Nat.beq i j
 | .fn f cs,.fn f' cs'=>Nat.beq f f'&&Sh.aPe cs cs'
 | .map i,.map j=>Nat.beq i j
 | .sw i,.sw j=>Nat.beq i j
 | .agg cs,.agg cs'=>Sh.aPe cs cs'
 | .aTw i,.aTw j=>Nat.beq i j
 | .eM i,.eM j=>Nat.beq i j
 | .tE i,.tE j=>Nat.beq i j
 |_,_=>false
def Sh.aPe:List Sh→List Sh→Bool
 |[],[]=>true
 |a::r,b::r'=>Sh.beq a b&&Sh.aPe r r'
 |_,_=>false
end
def zN.beq:zN→zN→Bool
 | .var a,.var b=>L.beq a b
 | .cells c vs,.cells c' vs'=>(match c with |true=>c' |false=> !c')&&Sh.aPe vs vs'
 | .arr a,.arr b=>L.beq a b
 | .map a b,.map a' b'=>L.beq a a'&&L.beq b b'
 | .zA e l,.zA e' l'=>Nat.beq e e'&&L.beq l l'
 | .tE l s,.tE l' s'=>L.beq l l'&&Sh.beq s s'
 |_,_=>false
def zN.aPe:List zN→List zN→Bool
 |[],[]=>true
 |a::r,b::r'=>zN.beq a b&&zN.aPe r r'
 |_,_=>false
def aJ9:List (Nat×Sh)→List (Nat×Sh)→Bool
 |[],[]=>true
 |(n,a)::r,(m,b)::r'=>Nat.beq n m&&Sh.beq a b&&aJ9 r r'
 |_,_=>false
def Shape.beq (a b:Shape):Bool:=aJ9 a.slots b.slots&&zN.aPe a.objs b.objs&&Nat.beq a.m b.m
structure rK where
 dst:Option Nat
 op:oP
 guard:Option (Nat×Bool)
 bef:List Nat:=[]
inductive eB where |normal |exit (id:Nat)|ret
 deriving DecidableEq,Inhabited
inductive aSJ where
 |lft (n:Nat) (off:Option Nat) (e:TypeId) (l:L)
 |frz (n off:Nat) (e:TypeId) (l:L)
 |a9E (n off:Nat) (e:TypeId) (l:L)
 |a9F (n:Nat) (e:TypeId) (l:L)
 |a9G (n:Nat) (l:L)
 |a9H (n:Nat) (e:TypeId) (l:L)
 |a9I (n:Nat)
 deriving Inhabited
inductive rB where
 |skip
 |ghost (g:aSJ) (c:rB)
 |post (g:aSJ) (c:rB)
 |region (fz:List (Nat×TypeId×Option L)) (ops:List rK) (draw:Bool) (bNb:Nat)
 |seq (a b:rB)
 |cond (c:kD) (a b:rB)
 |block (id:Nat) (c:rB)
 |loop (sh:Shape) (outs:List (eB×Shape)) (c:rB)
 |join (outs:List (eB×Shape)) (c:rB)
 |exit (id:Nat)
 |ret
 |bad
 deriving Inhabited
def nrm:L→Row→Row
 | .one (.int _),r=>[.int (at_ r 0).tA]
 | .one .bool,r=>[.bool (at_ r 0).wJ]
 | .one .str,r=>[.str (at_ r 0).mE]
 | .one _,r=>[at_ r 0]
 | .agg _,r=>r
inductive PV where
 |r (row:Row)
 |m (es:List (Row×Row))
 deriving Inhabited
def PV.row:PV→Row | .r row=>row |_=>[]
def PV.es:PV→List (Row×Row)| .m es=>es |_=>[]
structure Env where
 pc:Nat→List Row→Option (List Row)
 ic:Nat→List PV→Option (List PV)
 fix:((List PV→Option (Nat×List PV))→List PV→Option (Nat×List PV))→List PV→Option (Nat×List PV)
section
variable {A:Type}
def asI (v:AV) (k:IntKind→Int→Option A):Option A:=
 match v with | .d (.one (.int kd)) r=>k kd (at_ r 0).tA |_=>none
def asB (v:AV) (k:Bool→Option A):Option A:=
 match v with | .d (.one .bool) r=>k (at_ r 0).wJ |_=>none
def asS (v:AV) (k:List UInt8→Option A):Option A:=
 match v with | .d (.one .str) r=>k (at_ r 0).mE |_=>none
def a2m (v:AV) (k:TypeId→C→Option A):Option A:=
 match v with | .d (.one (.sl e)) r=>k e (at_ r 0)|_=>none
def asD (v:AV) (k:L→Row→Option A):Option A:=
 match v with | .d l r=>k l r |_=>none
def check (b:Bool) (k:Option A):Option A:=match b with |true=>k |false=>none
def aHo (S:St) (id:Nat) (k:Obj→Option A):Option A:=match S[id]? with |some o=>k o |none=>none
end
abbrev vI (k:IntKind) (n:Int):AV:= .d (.one (.int k)) [.int n]
abbrev vB (b:Bool):AV:= .d (.one .bool) [.bool b]
abbrev vS (s:List UInt8):AV:= .d (.one .str) [.str s]
def ceq:List K→Row→Row→Bool
 |[],_,_=>true
 | .int _::ks,x,y=>((at_ x 0).tA==(at_ y 0).tA)&&ceq ks (x.drop 1) (y.drop 1)
 | .bool::ks,x,y=>((at_ x 0).wJ==(at_ y 0).wJ)&&ceq ks (x.drop 1) (y.drop 1)
 | .str::ks,x,y=>((at_ x 0).mE==(at_ y 0).mE)&&ceq ks (x.drop 1) (y.drop 1)
 |_::_,_,_=>false
def bitsOf (op:BinOp) (k:IntKind) (x y:Int):Int:=
 let a:=BitVec.ofInt k.bits x
 let b:=BitVec.ofInt k.bits y
 k.wrap ((match op with | .and=>a&&&b | .or=>a |||b | .xor=>a^^^b |_=>a&&&~~~b).toNat)
def xJ (kl:L) (key:Row):List (Row×Row)→Option Row
 |[]=>none
 |(k,v)::r=>if ceq kl.ks key k then some v else xJ kl key r
def lQ (kl:L) (key v:Row):List (Row×Row)→List (Row×Row)
 |[]=>[(key,v)]
 |(k,u)::r=>if ceq kl.ks key k then (k,v)::r else (k,u)::lQ kl key v r
def aRz (kl:L) (key:Row):List (Row×Row)→Nat
 |[]=>0
 |(k,_)::r=>if ceq kl.ks key k then 0 else aRz kl key r+1
def dV (b:UInt8):Row:=[.int b.toNat]
def bytesOf (rows:List Row):List UInt8:=rows.map fun r=>UInt8.ofNat ((at_ r 0).tA.toNat)
def uE (c:C) (new:List Row):C:=match c,new with | .bA,[]=> .bA |_,_=> .sl (c.rows++new)
def qR (c:C) (a b:Int):C:=match c with | .bA=> .bA |c=> .sl ((c.rows.take b.toNat).drop a.toNat)
def aMK (E:Env) (c:C) (rows:List Row):Option (List Row):=match c with
 | .fn f cs=>E.pc f (rows++cs.map fun c=>[c])
 |_=>none
def aA (rows:List Row) (i:Nat):Row:=rows.getD i []
section
variable {A:Type} (E:Env) (F:Fr) (S:St)
def rowsOf:List L→List kD→(List Row→Option A)→Option A
 |[],[],k=>k []
 |l::ls,x::xs,k=>asD (x.cN F S) fun l' r=>check (L.beq l l') (rowsOf ls xs fun rs=>k (r::rs))
 |_,_,_=>none
def aUE:List L→List Row→Nat→List AV
 |[],_,_=>[]
 |l::ls,rs,i=> .d l (nrm l (aA rs i))::aUE ls rs (i+1)
def aZ1 (rs:List L) (rows:List Row):AV:=match rs with
 |[l]=> .d l (nrm l (aA rows 0))
 |_=> .tup (aUE rs rows 0)
def aIX (mx:Bool) (k:IntKind):List kD→Int→(Int→Option A)→Option A
 |[],m,c=>c m
 |x::xs,m,c=>asI (x.cN F S) fun k' n=>check (Nat.beq (IntKind.tag k) (IntKind.tag k')) (aIX mx k xs (match mx with |true=>(if n>m then n else m)|false=>(if n<m then n else m)) c)
def nU (ks:List K):List (Nat×Nat×kD)→Row→(Row→Option A)→Option A
 |[],z,k=>k z
 |(off,m,x)::r,z,k=>asD (x.cN F S) fun l row=>check (Nat.beq l.n m&&Nat.blt 0 m&&aE2 l.ks ((ks.drop off).take m)) (nU ks r (put z off m row 0 ks.length) k)
def vT (l:L):List (Nat×kD)→List Row→(List Row→Option A)→Option A
 |[],z,k=>k z
 |(i,x)::r,z,k=>asD (x.cN F S) fun l' row=>check (L.beq l l') (vT l r (z.set i row) k)
def bnd (x:Option kD) (dflt:Int) (k:Int→Option A):Option A:=
 match x with |none=>k dflt |some x=>asI (x.cN F S) fun _ n=>k n
def aAE:List K→List kD→(Row→Option A)→Option A
 |[],[],k=>k []
 |kd::ks,x::xs,k=>asD (x.cN F S) fun l r=>check (L.beq (.one kd) l) (aAE ks xs fun row=>k (at_ r 0::row))
 |_,_,_=>none
def yJ:AV→Option Nat
 | .ptr id _=>some id
 | .eM id _ _ _=>some id
 | .whole id _=>some id
 | .own id _ _ _=>some id
 | .map id=>some id
 | .sw id _=>some id
 | .tE id=>some id
 | .aK5 id _=>some id
 |_=>none
def tgt (op:oP) (base:Nat):Option Nat:=
 match op with
 | .a2g id _=>some (base+id)
 | .a2h id _ _=>some (base+id)
 | .bslS id _ _ _ _ _=>some (base+id)
 | .bslO id _ _ _ _ _=>some (base+id)
 | .a2k id _=>some (base+id)
 | .aPd id _=>some (base+id)
 | .ldA _ x=>yJ (x.ev F)
 | .stA _ x _=>yJ (x.ev F)
 | .a2l _ _ x _=>yJ (x.ev F)
 | .aUC id _ _ _ x _=>(match yJ (x.ev F)with |some i=>some i |none=>some (base+id))
 | .a4Z id _ _=>some (base+id)
 | .aRy id _ _=>some (base+id)
 | .mk id _ _ _ _ _ _=>some (base+id)
 | .mkm id _ _=>some (base+id)
 | .aUB _ x=>yJ (x.ev F)
 | .a2f x=>yJ (x.ev F)
 | .b2s _ x=>yJ (x.ev F)
 | .ld _ _ x=>yJ (x.ev F)
 | .ldC x=>yJ (x.ev F)
 | .st _ x _=>yJ (x.ev F)
 | .stC x _=>yJ (x.ev F)
 | .iad _ _ x _=>yJ (x.ev F)
 | .fad _ _ _ _ x=>yJ (x.ev F)
 | .a2i _ _ _ _ x _=>yJ (x.ev F)
 | .a2j x=>yJ (x.ev F)
 | .slc _ _ x _ _=>yJ (x.ev F)
 | .app id _ _ _ x _=>(match yJ (x.ev F)with |some i=>some i |none=>some (base+id))
 | .aUD id _ x _=>(match yJ (x.ev F)with |some i=>some i |none=>some (base+id))
 | .lk _ _ _ x _ _=>yJ (x.ev F)
 | .mup _ x _ _=>yJ (x.ev F)
 |_=>none
def cellsOf:List K→Row→Nat→List AV
 |[],_,_=>[]
 |k::ks,r,i=> .d (.one k) (nrm (.one k) [at_ r i])::cellsOf ks r (i+1)
def aCe:AV→Option (List AV)
 | .agg vs=>some vs
 | .d l r=>some (cellsOf l.ks r 0)
 |v=>match AV.single v with |true=>some [v]|false=>none
def zsV:List (Option (K×C))→List AV
 |[]=>[]
 |some (k,c)::r=> .d (.one k) [c]::zsV r
 |none::r=> .undef::zsV r
def a2o (off:Nat) (vs cs:List AV):List AV:=cs.take off++vs++cs.drop (off+vs.length)
def aOR:List (Nat×Nat×kD)→List AV→(List AV→Option A)→Option A
 |[],z,k=>k z
 |(off,m,x)::r,z,k=>match aCe (x.ev F)with
  |some vs=>check (Nat.beq vs.length m&&Nat.ble (off+m) z.length) (aOR r (a2o off vs z) k)
  |none=>none
def aNe (n:Int):Nat→Nat→(Nat→Option A)→Option A
 |_,0,_=>none
 |i,m+1,k=>if n=(i:Int)then k i else aNe n (i+1) m k
def eV (o:Obj) (v:Nat) (k:L→C→Option A):Option A:=
 match o with | .arr v' l c=>check (Nat.beq v v') (k l c)|_=>none
def aP9 (o:Obj) (k:Option A):Option A:=match o with | .var .. =>k | .cells .. =>k |_=>none
def oD (o:Obj) (k:Option A):Option A:=match o with | .fresh=>k |_=>none
def aNf (c:C) (k:List Row→Option A):Option A:=match c with | .sl rows=>k rows |_=>none
def aPf (o:Obj) (v:Nat) (k:TypeId→L→C→Option A):Option A:=
 match o with | .zA v' e l c=>check (Nat.beq v v') (k e l c)|_=>none
def aQa (o:Obj) (k:L→C→Nat→AV→Option A):Option A:=match o with | .tE l c i av=>k l c i av |_=>none
def aUF (o:Obj) (k:L→L→List (Row×Row)→Option A):Option A:=match o with | .map a b es=>k a b es |_=>none
def part (l l':L) (off:Nat) (r:Row) (k:Row→Option A):Option A:=
 match Nat.beq off 0&&L.beq l l' with
 |true=>k (nrm l r)
 |false=>check (aE2 l.ks ((l'.ks.drop off).take l.n)) (k (nrm l (sub r off l.n)))
def aFz (l l':L) (off:Nat) (r row:Row) (k:Row→Option A):Option A:=
 match Nat.beq off 0&&L.beq l l' with
 |true=>k row
 |false=>check (aE2 l.ks ((l'.ks.drop off).take l.n)) (k (put r off l.n row 0 l'.n))
def arith (op:BinOp) (kd:IntKind) (a b:Int) (k:Int→Option A):Option A:=
 match op with
 | .add=>k (kd.wrap (a+b))
 | .sub=>k (kd.wrap (a - b))
 | .mul=>k (kd.wrap (a*b))
 | .and=>k (bitsOf .and kd a b)
 | .or=>k (bitsOf .or kd a b)
 | .xor=>k (bitsOf .xor kd a b)
 | .andNot=>k (bitsOf .andNot kd a b)
 |_=>none
def aXj (op:BinOp) (a b:Int) (k:Bool→Option A):Option A:=
 match op with
 | .eql=>k (a==b)
 | .neq=>k (a !=b)
 | .lss=>k (decide (a<b))
 | .leq=>k (decide (a≤b))
 | .gtr=>k (decide (a>b))
 | .geq=>k (decide (a≥b))
 |_=>none
def aXk (op:BinOp) (a b:List UInt8) (k:Bool→Option A):Option A:=
 match op with
 | .eql=>k (a==b)
 | .neq=>k (!(a==b))
 | .lss=>k (Op.bytesLess a b)
 | .leq=>k (Op.bytesLess a b ||a==b)
 | .gtr=>k (!(Op.bytesLess a b ||a==b))
 | .geq=>k (!Op.bytesLess a b)
 |_=>none
def aZ2:Bool→Bool→Bool |true,b=> !b |false,b=>b
def aNg:List UInt8→UInt8→Int
 |[],_=> -1
 |b::l,c=>if b==c then 0 else if aNg l c== -1 then -1 else aNg l c+1
def jF:List UInt8→List UInt8→Int
 |[],[]=>0
 |[],_::_=> -1
 |_::_,[]=>1
 |a::x,b::y=>if a<b then -1 else if b<a then 1 else jF x y
def rG (o:Obj) (op:oP) (base:Nat) (k:AV→Option Obj→Option A):Option A:=
 match op with
 | .mov x=>k (x.ev F) none
 | .a2f x=>match x.ev F with
   | .d (.one (.fn t)) r=>if (at_ r 0).a6n=false then k (.d (.one (.fn t)) r) none else none
   | .d (.one (.ref t)) r=>if (at_ r 0).yA=true then k (.d (.one (.ref t)) r) none else none
   | .fn f caps=>k (.fn f caps) none
   | .ptr id off=>aP9 o (k (.ptr id off) none)
   | .eM id v i off=>eV o v fun _ _=>k (.eM id v i off) none
   |_=>none
 | .a2g id l=>oD o (k (.whole (base+id) 0) (some (.arr 0 l .bA)))
 | .a2h id e l=>oD o (k (.sw (base+id) 0) (some (.zA 0 e l .bA)))
 | .pick c a b=>asB (c.cN F S) fun t=>if t=true then k (a.ev F) none else k (b.ev F) none
 | .a6o op x y=>asI (x.cN F S) fun kd a=>asI (y.cN F S) fun kd' b=>check (Nat.beq (IntKind.tag kd) (IntKind.tag kd')) (arith op kd a b fun n=>k (vI kd n) none)
 | .idiv op x y=>asI (x.cN F S) fun kd a=>asI (y.cN F S) fun kd' b=>check (Nat.beq (IntKind.tag kd) (IntKind.tag kd')) (if b=0 then none else match op with
   | .quo=>k (vI kd (kd.wrap (a.tdiv b))) none
   | .rem=>k (vI kd (a.tmod b)) none
   |_=>none)
 | .shf op x y=>asI (x.cN F S) fun kd a=>asI (y.cN F S) fun _ b=>if b<0 then none else match op with
   | .shl=>k (vI kd (kd.wrap (a*2^(min b.toNat kd.bits)))) none
   | .shr=>k (vI kd (a.fdiv (2^(min b.toNat kd.bits)))) none
   |_=>none
 | .a6p op x y=>asI (x.cN F S) fun kd a=>asI (y.cN F S) fun kd' b=>check (Nat.beq (IntKind.tag kd) (IntKind.tag kd')) (aXj op a b fun t=>k (vB t) none)
 | .a6q x y=>asS (x.cN F S) fun a=>asS (y.cN F S) fun b=>if a.length+b.length≤1099511627776 then k (vS (a++b)) none else none
 | .a6r op x y=>asS (x.cN F S) fun a=>asS (y.cN F S) fun b=>aXk op a b fun t=>k (vB t) none
 | .bad=>none
 | .a43 _ x y=>asS (x.cN F S) fun a=>asI (y.cN F S) fun kd n=>check (Nat.beq (IntKind.tag kd) 4) (k (vI .i64 (aNg a n.toNat.toUInt8)) none)
 | .a44 _ x y=>asS (x.cN F S) fun a=>asS (y.cN F S) fun b=>k (vI .i64 (jF a b)) none
 | .aeq neg l x y=>asD (x.cN F S) fun l1 a=>asD (y.cN F S) fun l2 b=>check (L.beq l l1&&L.beq l l2) (k (vB (aZ2 neg (ceq l.ks a b))) none)
 | .aUB neg x=>match x.cN F S with
   | .d (.one (.sl _)) r=>k (vB (aZ2 neg (at_ r 0).isNil)) none
   | .whole _ v=>eV o v fun _ c=>k (vB (aZ2 neg c.isNil)) none
   |_=>none
 | .not x=>asB (x.cN F S) fun a=>k (vB (!a)) none
 | .a6s x=>asI (x.cN F S) fun kd a=>k (vI kd (bitsOf .xor kd (if kd.signed then -1 else kd.max) a)) none
 | .i2i kd x=>asI (x.cN F S) fun _ a=>k (vI kd (kd.wrap a)) none
 | .s2b e x=>asS (x.cN F S) fun s=>k (.d (.one (.sl e)) [.sl (s.map dV)]) none
 | .b2s e x=>match x.cN F S with
   | .d (.one (.sl e')) r=>check (Nat.beq e e') (k (vS (bytesOf (at_ r 0).rows)) none)
   | .whole _ v=>eV o v fun l' c=>check (L.beq (.one (.int .u8)) l') (k (vS (bytesOf c.rows)) none)
   |_=>none
 | .a6t l t x=>asD (x.cN F S) fun l' r=>check (L.beq l l') (k (.d (.one (.ref t)) [.dp r]) none)
 | .a4Z id l x=>oD o (asD (x.cN F S) fun l' r=>check (L.beq l l') (k (.ptr (base+id) 0) (some (.var l r))))
 | .aRy id l z=>oD o (k (.ptr (base+id) 0) (some (.var l z)))
 | .ld l t x=>match x.ev F with
   | .d (.one (.ref t')) r=>check (Nat.beq t t') (if (at_ r 0).yA=true then k (.d l (nrm l (at_ r 0).eA)) none else none)
   | .ptr _ off=>(match o with
     | .var l' r=>part l l' off r fun row=>k (.d l row) none
     |_=>none)
   | .eM _ iO idx off=>eV o iO fun l' c=>if idx<c.rows.length then part l l' off (aA c.rows idx) fun row=>k (.d l row) none else none
   |_=>none
 | .st l x v=>match x.ev F with
   | .ptr _ off=>(match o with
     | .var l' r=>asD (v.cN F S) fun lv row=>check (L.beq l lv) (aFz l l' off r row fun r'=>k .und (some (.var l' r')))
     |_=>none)
   | .eM _ iO idx off=>eV o iO fun l' c=>asD (v.cN F S) fun lv row=>check (L.beq l lv) (if idx<c.rows.length then aFz l l' off (aA c.rows idx) row fun r'=>k .und (some (.arr iO l' (.sl (c.rows.set idx r'))))else none)
   |_=>none
 | .ldC x=>match x.ev F with
   | .ptr _ off=>(match o with
     | .cells _ vs=>(match vs[off]? with |some v=>k v none |none=>none)
     |_=>none)
   |_=>none
 | .stC x v=>match x.ev F with
   | .ptr _ off=>(match o with
     | .cells false vs=>check (Nat.blt off vs.length&&AV.single (v.ev F)) (k .und (some (.cells false (vs.set off (v.ev F)))))
     |_=>none)
   |_=>none
 | .fad off n t u x=>match x.ev F with
   | .d (.one (.ref t')) r=>check (Nat.beq t t') (if (at_ r 0).yA=true then k (.d (.one (.ref u)) [.dp (sub (at_ r 0).eA off n)]) none else none)
   | .ptr id p=>aP9 o (k (.ptr id (p+off)) none)
   | .eM id v i p=>eV o v fun _ _=>k (.eM id v i (p+off)) none
   |_=>none
 | .bld l z parts=>nU F S l.ks parts z fun row=>k (.d l row) none
 | .bsl e l n z parts=>vT F S l parts (List.replicate n z) fun rows=>k (.d (.one (.sl e)) [.sl rows]) none
 | .bslO id e l n z parts=>oD o (vT F S l parts (List.replicate n z) fun rows=>k (.whole (base+id) 0) (some (.arr 0 l (.sl rows))))
 | .bslS id e l n z parts=>oD o (vT F S l parts (List.replicate n z) fun rows=>k (.sw (base+id) 0) (some (.zA 0 e l (.sl rows))))
 | .iad e l x i=>asI (i.cN F S) fun _ n=>match x.cN F S with
   | .d (.one (.sl e')) r=>check (Nat.beq e e') (if 0≤n∧n<((at_ r 0).rows.length:Int)then k (.d (.one (.ref e)) [.dp (aA (at_ r 0).rows n.toNat)]) none else none)
   | .whole id v=>eV o v fun l' c=>check (L.beq l l') (if 0≤n∧n<(c.rows.length:Int)then k (.eM id v n.toNat 0) none else none)
   | .own id v off len=>eV o v fun l' _=>check (L.beq l l') (if 0≤n∧n<(len:Int)then k (.eM id v (off+n.toNat) 0) none else none)
   | .tE id=>aQa o fun l' c _ _=>check (L.beq l l') (if 0≤n∧n<(c.rows.length:Int)then k (.aK5 id n.toNat) none else none)
   |_=>none
 | .a2i m t e l x i=>asI (i.cN F S) fun _ n=>match x.ev F with
   | .d (.one (.ref t')) r=>check (Nat.beq t t') (if 0≤n∧n<(m:Int)∧(at_ r 0).yA=true then k (.d (.one (.ref e)) [.dp (sub (at_ r 0).eA (n.toNat*l.n) l.n)]) none else none)
   | .ptr id p=>aP9 o (if 0≤n∧n<(m:Int)then k (.ptr id (p+n.toNat*l.n)) none else none)
   | .eM id v j p=>eV o v fun _ _=>if 0≤n∧n<(m:Int)then k (.eM id v j (p+n.toNat*l.n)) none else none
   |_=>none
 | .a41 x i=>asI (i.cN F S) fun _ n=>asS (x.cN F S) fun s=>if 0≤n∧n<(s.length:Int)then k (vI .u8 (s.getD n.toNat 0).toNat) none else none
 | .a42 m l x i=>asI (i.cN F S) fun _ n=>(match x.cN F S with
   | .d (.agg ks') r=>check (aE2 ks' (List.replicate m l.ks).flatten) (if 0≤n∧n<(m:Int)then k (.d l (nrm l (sub r (n.toNat*l.n) l.n))) none else none)
   |_=>none)
 | .a6u x=>asS (x.cN F S) fun s=>k (vI .i64 s.length) none
 | .a2j x=>match x.cN F S with
   | .d (.one (.sl _)) r=>k (vI .i64 (at_ r 0).rows.length) none
   | .whole _ v=>eV o v fun _ c=>k (vI .i64 c.rows.length) none
   | .own _ v _ len=>eV o v fun _ _=>k (vI .i64 len) none
   | .tE _=>aQa o fun _ c _ _=>k (vI .i64 c.rows.length) none
   |_=>none
 | .imin mx xs=>match xs with
   |x::r=>asI (x.cN F S) fun kd n=>aIX F S mx kd r n fun m=>k (vI kd m) none
   |[]=>none
 | .app id e l bytes x y=>a2m (y.cN F S) fun e' c'=>check (Nat.beq e e') (match x.ev F with
   | .d (.one (.sl e2)) r=>check (Nat.beq e e2) (match at_ r 0 with
     | .bA=>oD o (if c'.rows.length*bytes≤140737488355328 then k (.whole (base+id) 0) (some (.arr 0 l (uE .bA c'.rows)))else none)
     |_=>none)
   | .whole i v=>eV o v fun l' c=>check (L.beq l l') (if (c.rows.length+c'.rows.length)*bytes≤140737488355328 then k (.whole i (v+1)) (some (.arr (v+1) l (uE c c'.rows)))else none)
   |_=>none)
 | .aUC id e l bytes x y=>a2m (y.cN F S) fun e' c'=>check (Nat.beq e e') (match x.ev F with
   | .d (.one (.sl e2)) r=>check (Nat.beq e e2) (match at_ r 0 with
     | .bA=>oD o (if c'.rows.length*bytes≤140737488355328 then k (.sw (base+id) 0) (some (.zA 0 e l (uE .bA c'.rows)))else none)
     |_=>none)
   | .sw i v=>aPf o v fun e2 l' c=>check (Nat.beq e e2&&L.beq l l') (if (c.rows.length+c'.rows.length)*bytes≤140737488355328 then k (.sw i (v+1)) (some (.zA (v+1) e l (uE c c'.rows)))else none)
   |_=>none)
 | .aUD id e x y=>asS (y.cN F S) fun s=>match x.ev F with
   | .d (.one (.sl e2)) r=>check (Nat.beq e e2) (match at_ r 0 with
     | .bA=>oD o (if s.length≤1099511627776 then k (.sw (base+id) 0) (some (.zA 0 e (.one (.int .u8)) (uE .bA (s.map dV))))else none)
     |_=>none)
   | .sw i v=>aPf o v fun e2 l' c=>check (Nat.beq e e2&&L.beq (.one (.int .u8)) l') (if c.rows.length+s.length≤1099511627776 then k (.sw i (v+1)) (some (.zA (v+1) e (.one (.int .u8)) (uE c (s.map dV))))else none)
   |_=>none
 | .mk id _ l z bytes n c=>oD o (asI (n.cN F S) fun _ a=>asI (c.cN F S) fun _ b=>if 0≤a∧a≤b∧b*bytes≤140737488355328∧b≤1099511627776 then k (.whole (base+id) 0) (some (.arr 0 l (.sl (List.replicate a.toNat z))))else none)
 | .slc e l x lo hi=>match x.cN F S with
   | .d (.one (.sl e')) r=>check (Nat.beq e e') (bnd F S lo 0 fun a=>bnd F S hi (at_ r 0).rows.length fun b=>
       if 0≤a∧a≤b∧b≤((at_ r 0).rows.length:Int)then k (.d (.one (.sl e)) [qR (at_ r 0) a b]) none else none)
   | .whole id v=>eV o v fun l' c=>check (L.beq l l') (match c with
     | .sl rows=>(bnd F S lo 0 fun a=>bnd F S hi rows.length fun b=>if 0≤a∧a≤b∧b≤(rows.length:Int)then k (.own id v a.toNat (b.toNat - a.toNat)) none else none)
     |_=>none)
   | .own id v off len=>eV o v fun l' c=>check (L.beq l l') (aNf c fun rows=>bnd F S lo 0 fun a=>bnd F S hi len fun b=>
       if 0≤a∧a≤b∧(b≤(len:Int)∨off=0∧b≤(rows.length:Int))then k (.own id v (off+a.toNat) (b.toNat - a.toNat)) none else none)
   |_=>none
 | .slcS x lo hi=>asS (x.cN F S) fun s=>bnd F S lo 0 fun a=>bnd F S hi s.length fun b=>if 0≤a∧a≤b∧b≤(s.length:Int)then k (vS ((s.take b.toNat).drop a.toNat)) none else none
 | .call f ps rs args=>rowsOf F S ps args fun rows=>(E.pc f rows).bind fun out=>k (aZ1 rs out) none
 | .callv t ps rs x args=>match x.ev F with
   | .d (.one (.fn t')) r=>check (Nat.beq t t') (rowsOf F S ps args fun rows=>(aMK E (at_ r 0) rows).bind fun out=>k (aZ1 rs out) none)
   |_=>none
 | .mkf f t ks caps=>aAE F S ks caps fun row=>k (.d (.one (.fn t)) [.fn f row]) none
 | .ext i x=>match x.ev F with
   | .tup vs=>(match vs[i]? with |some v=>k v none |none=>none)
   |_=>none
 | .mkm id kl vl=>oD o (k (.map (base+id)) (some (.map kl vl [])))
 | .lk kl vl z x key ok=>asD (key.cN F S) fun l kr=>check (L.beq kl l) (match x.ev F with
   | .map _=>aUF o fun kl' vl' es=>check (L.beq kl kl'&&L.beq vl vl') (match ok with
       |true=>k (.tup [.d vl (nrm vl ((xJ kl kr es).getD z)),vB (xJ kl kr es).isSome]) none
       |false=>k (.d vl (nrm vl ((xJ kl kr es).getD z))) none)
   |_=>none)
 | .mup kl x key v=>asD (key.cN F S) fun l kr=>asD (v.cN F S) fun lv vr=>match x.ev F with
   | .map _=>aUF o fun kl' vl es=>check (L.beq kl kl'&&L.beq kl' l&&L.beq vl lv) (k .und (some (.map kl' vl (lQ kl' kr vr es))))
   |_=>none
 | .aCd .. =>none
 | .a2k id x=>oD o (match aCe (x.ev F)with |some vs=>k (.ptr (base+id) 0) (some (.cells false vs))|none=>none)
 | .aPd id zs=>oD o (k (.ptr (base+id) 0) (some (.cells false (zsV zs))))
 | .ldA n x=>match x.ev F with
   | .ptr _ off=>(match o with
     | .cells _ vs=>check (Nat.ble (off+n) vs.length) (k (.agg ((vs.drop off).take n)) none)
     |_=>none)
   |_=>none
 | .stA n x v=>match x.ev F with
   | .ptr _ off=>(match o with
     | .cells false vs=>(match aCe (v.ev F)with
       |some us=>check (Nat.beq us.length n&&Nat.ble (off+us.length) vs.length) (k .und (some (.cells false (a2o off us vs))))
       |none=>none)
     |_=>none)
   |_=>none
 | .bldA zs parts=>aOR F parts (zsV zs) fun vs=>k (.agg vs) none
 | .a2l m n x i=>asI (i.cN F S) fun _ j=>match x.ev F with
   | .ptr id p=>aP9 o (aNe j 0 m fun i=>k (.ptr id (p+i*n)) none)
   |_=>none
 | .bAW neg x=>match x.ev F with
   | .d (.one .ifc) r=>k (vB (aZ2 neg (at_ r 0).bC5)) none
   |_=>none
end
mutual
def bF (S:St) (m:Nat) (co:Bool):Sh→AV→Option (List PV)
 | .d l,.d l' row=>match L.beq l l' with |true=>some [.r (nrm l row)]|false=>none
 | .ptr i o,.ptr i' o'=>match Nat.beq i i'&&Nat.beq o o'&&Nat.blt i m with |true=>some []|false=>none
 | .whole i,.whole i' v=>match S[i']? with
   |some (.arr v' _ _)=>(match Nat.beq i i'&&Nat.beq v v'&&Nat.blt i m with |true=>some []|false=>none)
   |_=>none
 | .fn f cs,.fn f' vs=>match Nat.beq f f' with |true=>yW S m co cs vs |false=>none
 | .map i,.map i'=>match Nat.beq i i'&&Nat.blt i m with |true=>some []|false=>none
 | .sw i,.sw i' v=>match S[i']? with
   |some (.zA v' _ _ _)=>(match Nat.beq i i'&&Nat.beq v v'&&Nat.blt i m with |true=>some []|false=>none)
   |_=>none
 | .d l,.sw i' v=>match co,AV.dat S (.sw i' v)with
   |true,.d l' row=>(match L.beq l l' with |true=>some [.r (nrm l row)]|false=>none)
   |_,_=>none
 | .agg ss,.agg vs=>yW S m co ss vs
 | .d l,.agg vs=>match co,AV.dat S (.agg vs)with
   |true,.d l' row=>(match L.beq l l' with |true=>some [.r (nrm l row)]|false=>none)
   |_,_=>none
 | .agg ss,.d l row=>match yW S m co ss (cellsOf l.ks row 0),l with
   |some ps,.agg _=>some ps
   |_,_=>none
 | .aTw i,.ptr i' o=>match Nat.beq i i'&&Nat.blt i m with |true=>some [.r [.int (o:Int)]]|false=>none
 | .eM i,.eM i' v idx o=>match S[i']? with
   |some (.arr v' _ _)=>(match Nat.beq i i'&&Nat.beq v v'&&Nat.blt i m with |true=>some [.r [.int (idx:Int),.int (o:Int)]]|false=>none)
   |_=>none
 | .tE i,.tE i'=>match Nat.beq i i'&&Nat.blt i m with |true=>some []|false=>none
 |_,_=>none
def yW (S:St) (m:Nat) (co:Bool):List Sh→List AV→Option (List PV)
 |[],[]=>some []
 |s::ss,v::vs=>match bF S m co s v,yW S m co ss vs with
  |some a,some b=>some (a++b)
  |_,_=>none
 |_,_=>none
end
def wZ (S:St) (m:Nat):zN→Obj→Option (List PV)
 | .var l,.var l' row=>match L.beq l l' with |true=>some [.r (nrm l row)]|false=>none
 | .cells c vs,.cells c' dM=>match c==c' with |true=>yW S m false vs dM |false=>none
 | .arr l,.arr _ l' c=>match L.beq l l' with |true=>some [.r [c]]|false=>none
 | .map kl vl,.map kl' vl' es=>match L.beq kl kl'&&L.beq vl vl' with |true=>some [.m es]|false=>none
 | .zA e l,.zA _ e' l' c=>match Nat.beq e e'&&L.beq l l' with |true=>some [.r [c]]|false=>none
 | .tE l s,.tE l' c i av=>match L.beq l l' with
   |true=>(match bF S m false s av with |some ps=>some (.r [c,.int (i:Int)]::ps)|none=>none)
   |false=>none
 | .cells _ [],_=>some []
 |_,_=>none
def hd (ps:List PV):Row:=(ps.headD (.r [])).row
mutual
def unV:Sh→List PV→AV×List PV
 | .d l,ps=>(.d l (nrm l (hd ps)),ps.tail)
 | .ptr i o,ps=>(.ptr i o,ps)
 | .whole i,ps=>(.whole i 0,ps)
 | .fn f cs,ps=>match aM6 cs ps with |(vs,r)=>(.fn f vs,r)
 | .map i,ps=>(.map i,ps)
 | .sw i,ps=>(.sw i 0,ps)
 | .agg cs,ps=>match aM6 cs ps with |(vs,r)=>(.agg vs,r)
 | .aTw i,ps=>(.ptr i (at_ (hd ps) 0).tA.toNat,ps.tail)
 | .eM i,ps=>(.eM i 0 (at_ (hd ps) 0).tA.toNat (at_ (hd ps) 1).tA.toNat,ps.tail)
 | .tE i,ps=>(.tE i,ps)
def aM6:List Sh→List PV→List AV×List PV
 |[],ps=>([],ps)
 |s::ss,ps=>match unV s ps with
  |(v,r)=>match aM6 ss r with
   |(vs,r')=>(v::vs,r')
end
def unO:zN→List PV→Obj×List PV
 | .var l,ps=>(.var l (nrm l (hd ps)),ps.tail)
 | .cells _ [],ps=>(.dead,ps)
 | .cells c vs,ps=>match aM6 vs ps with |(dM,r)=>(.cells c dM,r)
 | .arr l,ps=>(.arr 0 l (at_ (hd ps) 0),ps.tail)
 | .map kl vl,ps=>(.map kl vl (ps.headD (.m [])).es,ps.tail)
 | .zA e l,ps=>(.zA 0 e l (at_ (hd ps) 0),ps.tail)
 | .tE l s,ps=>match unV s ps.tail with |(av,r)=>(.tE l (at_ (hd ps) 0) (at_ (hd ps) 1).tA.toNat av,r)
def aKa:List zN→List PV→St
 |[],_=>[]
 |s::ss,ps=>match unO s ps with |(o,r)=>o::aKa ss r
def sK:List (Nat×Sh)→List PV→Fr×List PV
 |[],ps=>([],ps)
 |(n,s)::r,ps=>match unV s ps with
  |(v,ps')=>match sK r ps' with
   |(F,bIR)=>((n,v)::F,bIR)
section
variable {A:Type} (E:Env) (F:Fr) (S:St)
mutual
def Sh.xD (ids:List Nat):Sh→Sh
 | .d l=> .d l
 | .ptr i o=> .ptr (ids.getD i 0) o
 | .whole i=> .whole (ids.getD i 0)
 | .fn f cs=> .fn f (Sh.n8 ids cs)
 | .map i=> .map (ids.getD i 0)
 | .sw i=> .sw (ids.getD i 0)
 | .agg cs=> .agg (Sh.n8 ids cs)
 | .aTw i=> .aTw (ids.getD i 0)
 | .eM i=> .eM (ids.getD i 0)
 | .tE i=> .tE (ids.getD i 0)
def Sh.n8 (ids:List Nat):List Sh→List Sh
 |[]=>[]
 |s::r=>Sh.xD ids s::Sh.n8 ids r
end
mutual
def Sh.under (n:Nat):Sh→Bool
 | .d _=>true
 | .ptr i _=>Nat.blt i n
 | .whole i=>Nat.blt i n
 | .fn _ cs=>Sh.aFA n cs
 | .map i=>Nat.blt i n
 | .sw i=>Nat.blt i n
 | .agg cs=>Sh.aFA n cs
 | .aTw i=>Nat.blt i n
 | .eM i=>Nat.blt i n
 | .tE i=>Nat.blt i n
def Sh.aFA (n:Nat):List Sh→Bool
 |[]=>true
 |s::r=>Sh.under n s&&Sh.aFA n r
end
def zN.xD (ids:List Nat):zN→zN
 | .cells c vs=> .cells c (Sh.n8 ids vs)
 | .tE l s=> .tE l (Sh.xD ids s)
 |o=>o
def zN.under (n:Nat):zN→Bool
 | .cells _ vs=>Sh.aFA n vs
 | .tE _ s=>Sh.under n s
 |_=>true
def Shape.under (n:Nat) (sh:Shape):Bool:=sh.slots.all (fun p=>Sh.under n p.2)&&sh.objs.all (zN.under n)
mutual
def AV.xD (ids lC:List Nat):AV→AV
 | .d l r=> .d l r
 | .ptr i o=> .ptr (ids.getD i 0) o
 | .whole i 0=> .whole (ids.getD i 0) (lC.getD i 0)
 | .fn f cs=> .fn f (AV.n8 ids lC cs)
 | .map i=> .map (ids.getD i 0)
 | .sw i 0=> .sw (ids.getD i 0) (lC.getD i 0)
 | .agg vs=> .agg (AV.n8 ids lC vs)
 | .eM i 0 idx off=> .eM (ids.getD i 0) (lC.getD i 0) idx off
 | .tE i=> .tE (ids.getD i 0)
 | .aK5 i idx=> .aK5 (ids.getD i 0) idx
 |_=> .undef
def AV.n8 (ids lC:List Nat):List AV→List AV
 |[]=>[]
 |v::r=>AV.xD ids lC v::AV.n8 ids lC r
end
def Obj.xD (ids lC:List Nat) (iO:Nat):Obj→Obj
 | .arr 0 l c=> .arr iO l c
 | .arr _ _ _=> .dead
 | .zA 0 e l c=> .zA iO e l c
 | .zA _ _ _ _=> .dead
 | .cells c vs=> .cells c (AV.n8 ids lC vs)
 | .fresh=> .dead
 | .tE l c i av=> .tE l c i (AV.xD ids lC av)
 |o=>o
def aIY (S:St) (all:List Nat):List Nat→List zN→Option (List PV)
 |[],[]=>some []
 |id::is,s::ss=>match S[id]? with
  |some o=>(match wZ S S.length (s.xD all) o,aIY S all is ss with
   |some a,some b=>some (a++b)
   |_,_=>none)
  |none=>none
 |_,_=>none
def aUG (S:St) (ids:List Nat) (en:Shape) (args:List AV):Option (List PV):=
 match yW S S.length true (Sh.n8 ids (en.slots.map (·.2))) args,aIY S ids ids en.objs with
 |some a,some b=>some (a++b)
 |_,_=>none
def aML (S:St) (id:Nat):Nat:=match S[id]? with |some (.arr v _ _)=>v+1 |some (.zA v _ _ _)=>v+1 |_=>0
def aO (ids lC:List Nat):List Nat→List Nat→List Obj→List (Nat×Obj)
 |i::is,v::vs,o::os=>(i,Obj.xD ids lC v o)::aO ids lC is vs os
 |_,_,_=>[]
def aDw (S:St):List (Nat×Obj)→List (Nat×Obj)
 |[]=>[]
 |p::r=>match aOQ S p.1&&p.2.cst with |true=>aDw S r |false=>p::aDw S r
def aIq (S:St):List Nat→Bool
 |[]=>true
 |i::r=>(match S[i]? with |some .fresh=>true |_=>false)&&aIq S r
def nodupB:List Nat→Bool
 |[]=>true
 |a::r=> !r.any (Nat.beq a)&&nodupB r
def vE (i:Nat):Nat→List Nat
 |0=>[]
 |n+1=>i::vE (i+1) n
def dN (F:Fr) (f:Nat) (x:Option kD) (args:List kD) (k:List AV→Option A):Option A:=
 match x with
 |none=>k (args.map (·.ev F))
 |some y=>match y.ev F with
  | .fn f' caps=>check (Nat.beq f f') (k (args.map (·.ev F)++caps))
  |_=>none
def bDg (vs:List AV):AV:=match vs with |[v]=>v |_=> .tup vs
def zN.cst:zN→Bool | .cells true (_::_)=>true |_=>false
def aKb:List zN→List zN→Bool
 |[],r=>r.all fun s=> !s.cst
 |_::_,[]=>false
 |a::r,b::r'=>(match a,b with
  |_,.cells _ []=>true
  | .var _,.var _=>true
  | .cells c (_::_),.cells c' _=> !c' ||c
  | .arr l,.arr l'=>L.beq l l'
  | .map _ _,.map _ _=>true
  | .zA e l,.zA e' l'=>Nat.beq e e'&&L.beq l l'
  | .tE l _,.tE l' _=>L.beq l l'
  |_,_=>false)&&aKb r r'
def aTx:Option kD→List kD |none=>[]|some x=>[x]
def aH8:oP→List kD
 | .mov x=>[x]| .a2f x=>[x]| .a2g _ _=>[]| .a2h _ _ _=>[]
 | .pick c a b=>[c,a,b]
 | .a6o _ x y=>[x,y]| .idiv _ x y=>[x,y]| .shf _ x y=>[x,y]| .a6p _ x y=>[x,y]| .a6q x y=>[x,y]| .a6r _ x y=>[x,y]
 | .aeq _ _ x y=>[x,y]| .aUB _ x=>[x]| .not x=>[x]| .a6s x=>[x]| .i2i _ x=>[x]| .s2b _ x=>[x]| .b2s _ x=>[x]
 | .a6t _ _ x=>[x]| .a4Z _ _ x=>[x]| .aRy _ _ _=>[]
 | .ld _ _ x=>[x]| .ldC x=>[x]| .st _ x v=>[x,v]| .stC x v=>[x,v]| .fad _ _ _ _ x=>[x]
 | .bld _ _ ps=>ps.map fun p=>p.2.2
 | .bsl _ _ _ _ ps=>ps.map fun p=>p.2
 | .bslS _ _ _ _ _ ps=>ps.map fun p=>p.2
 | .bslO _ _ _ _ _ ps=>ps.map fun p=>p.2
 | .iad _ _ x i=>[x,i]| .a2i _ _ _ _ x i=>[x,i]| .a41 x i=>[x,i]| .a42 _ _ x i=>[x,i]| .a6u x=>[x]| .a2j x=>[x]
 | .imin _ xs=>xs
 | .app _ _ _ _ x y=>[x,y]| .aUC _ _ _ _ x y=>[x,y]| .aUD _ _ x y=>[x,y]| .mk _ _ _ _ _ n c=>[n,c]
 | .slc _ _ x lo hi=>x::aTx lo++aTx hi
 | .slcS x lo hi=>x::aTx lo++aTx hi
 | .call _ _ _ xs=>xs
 | .callv _ _ _ x xs=>x::xs
 | .a44 _ x y=>[x,y]
 | .a43 _ x y=>[x,y]
 | .bad=>[]
 | .aCd _ _ _ _ _ _ x xs=>aTx x++xs
 | .mkf _ _ _ cs=>cs
 | .ext _ x=>[x]
 | .mkm _ _ _=>[]
 | .lk _ _ _ x key _=>[x,key]
 | .mup _ x key v=>[x,key,v]
 | .a2k _ x=>[x]| .aPd _ _=>[]| .ldA _ x=>[x]| .stA _ x v=>[x,v]
 | .bldA _ ps=>ps.map fun p=>p.2.2
 | .a2l _ _ x i=>[x,i]| .bAW _ x=>[x]
def aIr (F:Fr) (op:oP):List Nat:=(aH8 op).flatMap fun x=>(x.ev F).aRx
def opK (op:oP) (base:Nat) (k:AV→List (Nat×Obj)→List Nat→Option A):Option A:=
 match op with
 | .aCd i f en ex ids new x args=>dN F f x args fun vs=>
   let all:=ids++vE (base+new) (ex.objs.length - ids.length)
   let lC:=all.map (aML S)
   check (Shape.under ids.length en&&Shape.under all.length ex&&aIq S (vE (base+new) (ex.objs.length - ids.length))&&nodupB all&&Nat.ble ids.length ex.objs.length&&aKb en.objs ex.objs)
    ((aUG S ids en vs).bind fun ps=>(E.ic i ps).bind fun ps'=>match aM6 (ex.slots.map (·.2)) ps' with
      |(vs',r)=>k (bDg (AV.n8 all lC vs')) (aDw S (aO all lC all lC (aKa ex.objs r))) (all++aIr F op))
 |op=>match tgt F op base with
  |none=>rG E F S .dead op base fun v _=>k v [] (aIr F op)
  |some id=>aHo S id fun o=>rG E F S o op base fun v no=>k v (match no with |some o'=>[(id,o')]|none=>[]) (id::aIr F op)
end
def zF:List (Nat×Obj)→St→St
 |[],S=>S
 |(i,o)::r,S=>zF r (S.set i o)
def Fr.put (F:Fr):Option Nat→AV→Fr
 |some t,v=>(t,v)::F
 |none,_=>F
abbrev aRA:=List Nat×List Nat
def meets:List Nat→List Nat→Bool
 |[],_=>false
 |a::r,l=>l.any (Nat.beq a)||meets r l
def conflict (a b:aRA):Bool:=meets a.1 b.1 ||meets a.1 b.2 ||meets a.2 b.1
def aCf (f:aRA) (bef:List Nat):List aRA→Nat→Bool
 |[],_=>true
 |g::r,i=>(!conflict f g ||bef.any (Nat.beq i))&&aCf f bef r (i+1)
section
variable {A:Type} (E:Env)
def aIZ (draw:Bool) (base:Nat):List rK→List aRA→Fr→St→(Fr→St→Option A)→Option A
 |[],_,F,S,k=>k F S
 |o::rest,seen,F,S,k=>
  let run (F:Fr):Option A:=opK E F S o.op base fun v us rd=>
   check (!draw ||aCf (us.map (·.1),rd) o.bef seen 0) (aIZ draw base rest (match draw with |true=>seen++[(us.map (·.1),rd)]|false=>[]) (F.put o.dst v) (zF us S) k)
  let skip (F:Fr):Option A:=aIZ draw base rest (match draw with |true=>seen++[([],[])]|false=>[]) (F.put o.dst .und) S k
  match o.guard with
  |none=>run F
  |some (t,w)=>match F.get t with
   | .d (.one .bool) [.bool e]=>(match w with
     |true=>if e=true then run ((t,vB true)::F)else skip ((t,vB false)::F)
     |false=>if e=true then skip ((t,vB true)::F)else run ((t,vB false)::F))
   | .und=>skip F
   |_=>none
def aK8 (n:Nat) (t:TypeId) (ol:Option L) (F:Fr) (S:St) (k:Fr→St→Option A):Option A:=
 match ol with
 |some l=>(match F.get n with
  | .whole id v=>aHo S id fun o=>eV o v fun l' c=>check (L.beq l l') (k ((n,.d (.one (.sl t)) [c])::F) (S.set id .dead))
  | .ptr id 0=>aHo S id fun o=>(match o with
    | .var l' r=>check (L.beq l l') (k ((n,.d (.one (.ref t)) [.dp r])::F) (S.set id .dead))
    |_=>none)
  |_=>none)
 |none=>(match F.get n with
  | .ptr id 0=>aHo S id fun o=>(match o with
    | .cells _ vs=>k F (S.set id (.cells true vs))
    |_=>none)
  |_=>none)
def aBy:List (Nat×TypeId×Option L)→Fr→St→(Fr→St→Option A)→Option A
 |[],F,S,k=>k F S
 |(n,t,ol)::r,F,S,k=>aK8 n t ol F S fun F S=>aBy r F S k
end
def bFP (i:Nat) (ids:List Nat):List Nat:=match ids.any (Nat.beq i)with |true=>ids |false=>ids++[i]
def aYF:List Nat→List Nat→List Nat
 |[],ids=>ids
 |i::r,ids=>aYF r (bFP i ids)
mutual
def bAX:Sh→AV→List Nat
 | .ptr _ _,.ptr i _=>[i]
 | .whole _,.whole i _=>[i]
 | .sw _,.sw i _=>[i]
 | .map _,.map i=>[i]
 | .fn _ cs,.fn _ vs=>aUH cs vs
 | .agg cs,.agg vs=>aUH cs vs
 | .aTw _,.ptr i _=>[i]
 | .eM _,.eM i _ _ _=>[i]
 | .tE _,.tE i=>[i]
 |_,_=>[]
def aUH:List Sh→List AV→List Nat
 |s::ss,v::vs=>bAX s v++aUH ss vs
 |_,_=>[]
end
def collect (S:St) (objs:List zN):Nat→Nat→List Nat→List Nat
 |0,_,ids=>ids
 |n+1,k,ids=>match objs[k]?,ids[k]? with
  |some (.cells _ ss),some i=>(match S[i]? with
   |some (.cells _ vs)=>collect S objs n (k+1) (aYF (aUH ss vs) ids)
   |_=>collect S objs n (k+1) ids)
  |some (.tE _ s),some i=>(match S[i]? with
   |some (.tE _ _ _ av)=>collect S objs n (k+1) (aYF (bAX s av) ids)
   |_=>collect S objs n (k+1) ids)
  |_,_=>collect S objs n (k+1) ids
def bDh (sh:Shape) (vs:List AV) (S:St):List Nat:=collect S sh.objs sh.objs.length 0 (aYF (aUH (sh.slots.map (·.2)) vs) (vE 0 sh.m))
def aQb (sh:Shape) (vs:List AV) (S:St):Option (List PV):=
 let ids:=bDh sh vs S
 match nodupB ids&&Shape.under ids.length sh&&aXl sh.m ids 0 with
 |true=>aUG S ids sh vs
 |false=>none
 where aXl:Nat→List Nat→Nat→Bool
 |0,_,_=>true
 |n+1,a::r,i=>Nat.beq a i&&aXl n r (i+1)
 |_+1,[],_=>false
def pack (sh:Shape) (F:Fr) (S:St):Option (List PV):=aQb sh (sh.slots.map fun p=>F.get p.1) S
def unpack {A:Type} (sh:Shape) (ps:List PV) (k:Fr→St→Option A):Option A:=
 match sK sh.slots ps with
 |(F,r)=>k F (aKa sh.objs r)
def eB.beq:eB→eB→Bool
 | .normal,.normal=>true
 | .ret,.ret=>true
 | .exit a,.exit b=>Nat.beq a b
 |_,_=>false
def aEh (e:eB) (F:Fr) (S:St):List (eB×Shape)→Nat→Option (Nat×List PV)
 |[],_=>none
 |(e',sh)::r,i=>match eB.beq e e' with
  |true=>(match pack sh F S with |some ps=>some (i,ps)|none=>none)
  |false=>aEh e F S r (i+1)
def aZ3 {A:Type} (k:eB→Fr→St→Option A):List (eB×Shape)→Nat→List PV→Option A
 |[],_,_=>none
 |[(e,sh)],_,ps=>unpack sh ps (k e)
 |(e,sh)::r,i,ps=>match i with
  |0=>unpack sh ps (k e)
  |i+1=>aZ3 k r i ps
def aHp (body:Fr→St→(eB→Fr→St→Option (Nat×List PV))→Option (Nat×List PV)) (sh:Shape) (outs:List (eB×Shape)) (X:List PV→Option (Nat×List PV)) (ps:List PV):Option (Nat×List PV):=
 unpack sh ps fun F S=>body F S fun e F S=>match e with
  | .normal=>(match pack sh F S with |some ps'=>X ps' |none=>none)
  |e=>aEh e F S outs 0
def aDx (step:(List PV→Option (Nat×List PV))→List PV→Option (Nat×List PV)):Nat→List PV→Option (Nat×List PV)
 |0,_=>none
 |n+1,ps=>step (aDx step n) ps
def eN {A:Type} (g:aSJ) (F:Fr) (S:St) (k:Fr→St→Option A):Option A:=
 match g with
 | .lft n off e l=>(match off with
   |none=>(match F.get n with
    | .d (.one (.sl e')) [.bA]=>check (Nat.beq e e') (k ((n,.sw S.length 0)::F) (S++[.zA 0 e l .bA]))
    |_=>none)
   |some off=>(match F.get n with
    | .ptr id p=>aHo S id fun o=>(match o with
      | .cells c vs=>(match vs[p+off]? with
        |some (.d (.one (.sl e')) [.bA])=>check (Nat.beq e e') (k F ((S.set id (.cells c (vs.set (p+off) (.sw S.length 0))))++[.zA 0 e l .bA]))
        |_=>none)
      |_=>none)
    |_=>none))
 | .a9E n off e l=>(match F.get n with
   | .ptr id p=>aHo S id fun o=>(match o with
     | .cells c vs=>(match vs[p+off]? with
       |some (.d (.one (.sl e')) [.bA])=>check (Nat.beq e e') (k F ((S.set id (.cells c (vs.set (p+off) (.whole S.length 0))))++[.arr 0 l .bA]))
       |_=>none)
     |_=>none)
   |_=>none)
 | .a9F n e l=>aK8 n e (some l) F S k
 | .a9G n l=>(match F.get n with
   | .whole id v=>aHo S id fun o=>eV o v fun l' c=>check (L.beq l l') (k ((n,.tE S.length)::F) (S.set id .dead++[.tE l c c.rows.length (.agg [])]))
   |_=>none)
 | .a9H n e l=>(match F.get n with
   | .tE id=>aHo S id fun o=>aQa o fun l' c0 i av=>(match l',av with
     | .one (.sl e'),.whole id' v=>aHo S id' fun o'=>eV o' v fun l2 c=>check (Nat.beq e e'&&L.beq l l2&& !Nat.beq id' id)
         (aNf c0 fun rows=>k ((n,.whole S.length 0)::F) ((S.set id' .dead).set id .dead++[.arr 0 l' (.sl (rows.set i [c]))]))
     |_,_=>none)
   |_=>none)
 | .a9I n=>(match F.get n with
   | .tE id=>aHo S id fun o=>aQa o fun l c i _=>if c.rows.length≤i then k ((n,.whole S.length 0)::F) (S.set id .dead++[.arr 0 l c])else none
   |_=>none)
 | .frz n off e l=>(match F.get n with
   | .ptr id p=>aHo S id fun o=>(match o with
     | .cells c vs=>(match vs[p+off]? with
       |some (.whole i v)=>aHo S i fun o'=>eV o' v fun l' d=>check (L.beq l l'&& !Nat.beq i id) (k F ((S.set i .dead).set id (.cells c (vs.set (p+off) (.d (.one (.sl e)) [d])))))
       |_=>none)
     |_=>none)
   |_=>none)
def vM (E:Env):rB→{A:Type}→Fr→St→(eB→Fr→St→Option A)→Option A
 | .skip,_,F,S,k=>k .normal F S
 | .ghost g c,_,F,S,k=>eN g F S fun F S=>vM E c F S k
 | .post g c,_,F,S,k=>vM E c F S fun e F S=>match e with
   | .normal=>eN g F S (k .normal)
   |e=>k e F S
 | .region fz ops draw n,_,F,S,k=>aBy fz F S fun F S=>aIZ E draw S.length ops [] F (S++List.replicate n .fresh) (k .normal)
 | .seq a b,_,F,S,k=>vM E a F S fun e F S=>match e with
   | .normal=>vM E b F S k
   |e=>k e F S
 | .cond c a b,_,F,S,k=>match c.ev F with
   | .d (.one .bool) r=>if (at_ r 0).wJ=true then vM E a F S k else vM E b F S k
   |_=>none
 | .block id c,_,F,S,k=>vM E c F S fun e F S=>match e with
   | .exit id'=>(match Nat.beq id' id with |true=>k .normal F S |false=>k (.exit id') F S)
   |e=>k e F S
 | .loop sh outs c,_,F,S,k=>match pack sh F S with
   |some ps=>(E.fix (aHp (fun F S k=>vM E c F S k) sh outs) ps).bind fun x=>aZ3 k outs x.1 x.2
   |none=>none
 | .join outs c,_,F,S,k=>(vM E c F S fun e F S=>aEh e F S outs 0).bind fun x=>aZ3 k outs x.1 x.2
 | .exit id,_,F,S,k=>k (.exit id) F S
 | .ret,_,F,S,k=>k .ret F S
 | .bad,_,_,_,_=>none
structure nC where
 ps:List L
 rs:List L
 res:List (Bool×Nat×Option L)
 body:rB
 deriving Inhabited
def toD (S:St) (l:L) (ol:Option L) (v:AV):Option Row:=
 match v with
 | .d l' r=>match L.beq l l' with |true=>some (nrm l r)|false=>none
 | .sw id v=>(match AV.dat S (.sw id v)with | .d l' r=>(match L.beq l l' with |true=>some (nrm l r)|false=>none)|_=>none)
 | .agg vs=>(match AV.dat S (.agg vs)with | .d l' r=>(match L.beq l l' with |true=>some (nrm l r)|false=>none)|_=>none)
 | .whole id v=>(match ol with
   |some le=>(match S[id]? with
    |some (.arr v' l' c)=>(match Nat.beq v v'&&L.beq le l' with |true=>some [c]|false=>none)
    |_=>none)
   |none=>none)
 | .own id v off len=>(match ol with
   |some le=>(match S[id]? with
    |some (.arr v' l' c)=>(match Nat.beq v v'&&L.beq le l' with |true=>some [.sl ((c.rows.drop off).take len)]|false=>none)
    |_=>none)
   |none=>none)
 |_=>none
def aYG (F:Fr) (S:St):List L→List (Bool×Nat×Option L)→Option (List Row)
 |[],[]=>some []
 |l::ls,(cell,t,ol)::r=>
  match (match cell with
   |false=>toD S l ol (F.get t)
   |true=>match F.get t with
    | .ptr id 0=>(match S[id]? with
      |some (.var l' row)=>(match L.beq l l' with |true=>some row |false=>none)
      |some (.cells _ vs)=>(match l,vs with
       | .agg _,vs=>toD S l none (.agg vs)
       | .one _,[v]=>toD S l ol v
       |_,_=>none)
      |_=>none)
    |_=>none),aYG F S ls r with
  |some a,some b=>some (a::b)
  |_,_=>none
 |_,_=>none
def frame:List L→List Row→Nat→Fr
 |[],_,_=>[]
 |l::ls,rows,i=>(i,.d l (nrm l (rows.headD [])))::frame ls rows.tail (i+1)
def yC (E:Env) (f:nC) (rows:List Row):Option (List Row):=
 match Nat.beq rows.length f.ps.length with
 |true=>vM E f.body (frame f.ps rows 0) [] fun e F S=>match e with
  | .exit _=> .none
  |_=>aYG F S f.rs f.res
 |false=>none
inductive a2q where
 |tmp (t:Nat)|var (a:Nat) (l:L)|cells (a n:Nat)|a6x (a:Nat)
 deriving Inhabited
structure o8 where
 fn:Nat
 entry:Shape
 res:List a2q
 exit:Shape
 body:rB
 deriving Inhabited
def aRB (F:Fr) (S:St):a2q→Option AV
 | .tmp t=>some (F.get t)
 | .var a l=>(match F.get a with
   | .ptr id 0=>(match S[id]? with |some (.var l' row)=>(match L.beq l l' with |true=>some (.d l row)|false=>none)|_=>none)
   |_=>none)
 | .cells a n=>(match F.get a with
   | .ptr id 0=>(match S[id]? with |some (.cells _ vs)=>(match Nat.beq vs.length n with |true=>some (.agg vs)|false=>none)|_=>none)
   |_=>none)
 | .a6x a=>(match F.get a with
   | .ptr id 0=>(match S[id]? with |some (.cells _ [v])=>some v |_=>none)
   |_=>none)
def aOh (F:Fr) (S:St):List a2q→Option (List AV)
 |[]=>some []
 |x::r=>match aRB F S x,aOh F S r with
  |some a,some b=>some (a::b)
  |_,_=>none
def aCg (E:Env) (f:o8) (ps:List PV):Option (List PV):=
 unpack f.entry ps fun F S=>vM E f.body F S fun e F S=>match e with
  | .exit _=> .none
  |_=>(aOh F S f.res).bind fun vs=>aQb f.exit vs S
inductive yF where
 |none |cmp |ixb |rR (t:TypeId) (l:L) (row:Row)|code (f:nC)|imp (f:o8)|given (ps rs:List L) (f:List Row→Option (List Row))
def tC (T:Nat→yF):Nat→Env
 |0=>⟨fun _ _=> .none,fun _ _=> .none,fun _ _=> .none⟩
 |n+1=>
  ⟨fun f rows=>match T f with | .given _ _ g=>g rows | .code af=>yC (tC T n) af rows |_=> .none,
   fun f ps=>match T f with | .imp af=>aCg (tC T n) af ps |_=> .none,fun step=>aDx step (n+1)⟩
end Go.Ev
