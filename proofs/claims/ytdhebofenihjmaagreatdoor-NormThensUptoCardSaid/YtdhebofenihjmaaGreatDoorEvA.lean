/-
  The abstract machine: data rows, objects, operations, code, and its evaluator (in continuation-passing form).
-/
import GoSem.Step
import Derived.Orders
set_option linter.all false
namespace Go.Ev
inductive K where
 |int (k:IntKind)|bool |str |sl (e:TypeId)|fn (t:TypeId)|ref (t:TypeId)|ifc
 deriving DecidableEq,Inhabited
inductive C where
 |undef |int (n:Int)|bool (b:Bool)|str (s:List UInt8)|bA |sl (rows:List (List C))|aM5
 |fn (f:Nat) (caps:List C)|dp (row:List C)|aTm |aYu |anyI
 deriving Inhabited
abbrev Row:=List C
def C.uA:C→Int | .int n=>n |_=>0
def C.rJ:C→Bool | .bool b=>b |_=>false
def C.qE:C→List UInt8 | .str s=>s |_=>[]
def C.rows:C→List Row | .sl r=>r |_=>[]
def C.fA:C→Row | .dp r=>r |_=>[]
def C.isNil:C→Bool | .bA=>true |_=>false
def C.a6b:C→Bool | .aM5=>true |_=>false
def C.xA:C→Bool | .dp _=>true |_=>false
def C.bCU:C→Bool | .aYu=>true |_=>false
def at_ (r:Row) (i:Nat):C:=r.getD i .undef
def sub (r:Row) (off:Nat):Nat→Row
 |0=>[]
 |n+1=>at_ r off::sub r (off+1) n
def put (r:Row) (off m:Nat) (s:Row) (i:Nat):Nat→Row
 |0=>[]
 |n+1=>(match Nat.ble off i&&Nat.blt i (off+m)with |true=>at_ s (i - off)|false=>at_ r i)::put r off m s (i+1) n
inductive L where |one (k:K)|agg (ks:List K)
 deriving DecidableEq,Inhabited
def L.ks:L→List K | .one k=>[k]| .agg ks=>ks
def L.n (l:L):Nat:=l.ks.length
def IntKind.tag:IntKind→Nat | .i8=>0 | .i16=>1 | .i32=>2 | .i64=>3 | .u8=>4 | .u16=>5 | .u32=>6 | .u64=>7
def K.beq:K→K→Bool
 | .int a,.int b=>Nat.beq (IntKind.tag a) (IntKind.tag b)
 | .bool,.bool=>true
 | .str,.str=>true
 | .sl a,.sl b=>Nat.beq a b
 | .fn a,.fn b=>Nat.beq a b
 | .ref a,.ref b=>Nat.beq a b
 | .ifc,.ifc=>true
 |_,_=>false
def aEN:List K→List K→Bool
 |[],[]=>true
 |a::x,b::y=>K.beq a b&&aEN x y
 |_,_=>false
def L.beq:L→L→Bool
 | .one a,.one b=>K.beq a b
 | .agg a,.agg b=>aEN a b
 |_,_=>false
inductive AV where
 |undef
 |und
 |d (l:L) (row:Row)
 |ptr (id off:Nat)
 |zL (id bO idx off:Nat)
 |whole (id bO:Nat)
 |own (id bO off len:Nat)
 |fn (f:Nat) (caps:List AV)
 |tup (vs:List AV)
 |map (id:Nat)
 |sw (id bO:Nat)
 |agg (vs:List AV)
 |vE (id:Nat)
 |aKU (id idx:Nat)
 deriving Inhabited
def AV.single:AV→Bool
 | .d (.one _) _=>true
 | .ptr .. =>true
 | .zL .. =>true
 | .whole .. =>true
 | .own .. =>true
 | .fn .. =>true
 | .map .. =>true
 | .sw .. =>true
 | .vE .. =>true
 | .aKU .. =>true
 |_=>false
inductive Obj where
 |fresh
 |dead
 |var (l:L) (row:Row)
 |cells (const:Bool) (vs:List AV)
 |arr (bO:Nat) (l:L) (c:C)
 |map (kl vl:L) (es:List (Row×Row))
 |zA (bO:Nat) (e:TypeId) (l:L) (c:C)
 |vE (l:L) (c:C) (i:Nat) (av:AV)
 deriving Inhabited
def Obj.cst:Obj→Bool | .cells true _=>true |_=>false
abbrev St:=List Obj
def aOG (S:St) (i:Nat):Bool:=match S[i]? with |some o=>o.cst |none=>false
abbrev Fr:=List (Nat×AV)
def Fr.get:Fr→Nat→AV
 |[],_=> .undef
 |(n,v)::r,t=>match Nat.beq n t with |true=>v |false=>Fr.get r t
inductive rD where
 |t (n:Nat)
 |c (l:L) (row:Row)
def rD.ev (F:Fr):rD→AV
 | .t n=>F.get n
 | .c l r=> .d l r
mutual
def AV.dat (S:St):AV→AV
 | .sw id bO=>match S[id]? with
   |some (.zA v e _ c)=>(match Nat.beq bO v with |true=> .d (.one (.sl e)) [c]|false=> .sw id bO)
   |_=> .sw id bO
 | .agg vs=>match AV.aKV S vs with
   |some (ks,row)=> .d (.agg ks) row
   |none=> .agg vs
 |v=>v
def AV.aKV (S:St):List AV→Option (List K×Row)
 |[]=>some ([],[])
 |v::vs=>match AV.dat S v,AV.aKV S vs with
  | .d (.one k) r,some (ks,row)=>some (k::ks,at_ r 0::row)
  |_,_=>none
end
mutual
def AV.aRq:AV→List Nat
 | .sw id _=>[id]
 | .agg vs=>AV.aBY vs
 | .fn _ vs=>AV.aBY vs
 |_=>[]
def AV.aBY:List AV→List Nat
 |[]=>[]
 |v::vs=>AV.aRq v++AV.aBY vs
end
def rD.uM (F:Fr) (S:St) (x:rD):AV:=(x.ev F).dat S
inductive Sh where
 |d (l:L)
 |ptr (id off:Nat)
 |whole (id:Nat)
 |fn (f:Nat) (caps:List Sh)
 |map (id:Nat)
 |sw (id:Nat)
 |agg (cs:List Sh)
 |aTo (id:Nat)
 |zL (id:Nat)
 |vE (id:Nat)
 deriving Inhabited
inductive rN where
 |var (l:L)|cells (const:Bool) (vs:List Sh)|arr (l:L)|map (kl vl:L)|zA (e:TypeId) (l:L)|vE (l:L) (s:Sh)
 deriving Inhabited
structure Shape where
 slots:List (Nat×Sh)
 objs:List rN
 m:Nat:=0
 deriving Inhabited
inductive jP where
 |mov (x:rD)
 |a1Y (x:rD)
 |a1Z (id:Nat) (l:L)
 |a14 (id:Nat) (e:TypeId) (l:L)
 |pick (c a b:rD)
 |a6c (op:BinOp) (x y:rD)
 |idiv (op:BinOp) (x y:rD)
 |shf (op:BinOp) (x y:rD)
 |a6d (op:BinOp) (x y:rD)
 |a6e (x y:rD)
 |a6f (op:BinOp) (x y:rD)
 |aeq (neg:Bool) (l:L) (x y:rD)
 |aUs (neg:Bool) (x:rD)
 |not (x:rD)
 |a6g (x:rD)
 |i2i (k:IntKind) (x:rD)
 |s2b (e:TypeId) (x:rD)
 |b2s (e:TypeId) (x:rD)
 |a6h (l:L) (t:TypeId) (x:rD)
 |a4L (id:Nat) (l:L) (x:rD)
 |aRr (id:Nat) (l:L) (z:Row)
 |ld (l:L) (t:TypeId) (x:rD)
 |ldC (x:rD)
 |st (l:L) (x v:rD)
 |stC (x v:rD)
 |fad (off:Nat) (n:Nat) (t u:TypeId) (x:rD)
 |bld (l:L) (z:Row) (parts:List (Nat×Nat×rD))
 |bsl (e:TypeId) (l:L) (n:Nat) (z:Row) (parts:List (Nat×rD))
 |bslO (id:Nat) (e:TypeId) (l:L) (n:Nat) (z:Row) (parts:List (Nat×rD))
 |bslS (id:Nat) (e:TypeId) (l:L) (n:Nat) (z:Row) (parts:List (Nat×rD))
 |iad (e:TypeId) (l:L) (x i:rD)
 |a15 (m:Nat) (t e:TypeId) (l:L) (x i:rD)
 |a4M (x i:rD)
 |a4N (m:Nat) (l:L) (x i:rD)
 |a6i (x:rD)
 |a17 (x:rD)
 |imin (mx:Bool) (xs:List rD)
 |app (id:Nat) (e:TypeId) (l:L) (bytes:Nat) (x y:rD)
 |aUt (id:Nat) (e:TypeId) (l:L) (bytes:Nat) (x y:rD)
 |aUu (id:Nat) (e:TypeId) (x y:rD)
 |mk (id:Nat) (e:TypeId) (l:L) (z:Row) (bytes:Nat) (n c:rD)
 |slc (e:TypeId) (l:L) (x:rD) (lo hi:Option rD)
 |slcS (x:rD) (lo hi:Option rD)
 |call (f:Nat) (ps rs:List L) (args:List rD)
 |callv (t:TypeId) (ps rs:List L) (x:rD) (args:List rD)
 |a4O (f:Nat) (x y:rD)
 |a4P (f:Nat) (x y:rD)
 |bad
 |aBZ (i f:Nat) (en ex:Shape) (ids:List Nat) (new:Nat) (x:Option rD) (args:List rD)
 |mkf (f:Nat) (t:TypeId) (ks:List K) (caps:List rD)
 |ext (i:Nat) (x:rD)
 |mkm (id:Nat) (kl vl:L)
 |lk (kl vl:L) (z:Row) (x key:rD) (ok:Bool)
 |mup (kl:L) (x key v:rD)
 |a18 (id:Nat) (x:rD)
 |aO5 (id:Nat) (zs:List (Option (K×C)))
 |ldA (n:Nat) (x:rD)
 |stA (n:Nat) (x v:rD)
 |bldA (zs:List (Option (K×C))) (parts:List (Nat×Nat×rD))
 |a19 (m n:Nat) (x i:rD)
 |bAI (neg:Bool) (x:rD)
mutual
def Sh.beq:Sh→Sh→Bool
 | .d a,.d b=>L.beq a b
 | .ptr i o,.ptr i' o'=>Nat.beq i i'&&Nat.beq o o'
 | .whole i,.whole j=>Nat.beq i j
 | .fn f cs,.fn f' cs'=>Nat.beq f f'&&Sh.aO6 cs cs'
 | .map i,.map j=>Nat.beq i j
 | .sw i,.sw j=>Nat.beq i j
 | .agg cs,.agg cs'=>Sh.aO6 cs cs'
 | .aTo i,.aTo j=>Nat.beq i j
 | .zL i,.zL j=>Nat.beq i j
 | .vE i,.vE j=>Nat.beq i j
 |_,_=>false
def Sh.aO6:List Sh→List Sh→Bool
 |[],[]=>true
 |a::r,b::r'=>Sh.beq a b&&Sh.aO6 r r'
 |_,_=>false
end
def rN.beq:rN→rN→Bool
 | .var a,.var b=>L.beq a b
 | .cells c vs,.cells c' vs'=>(match c with |true=>c' |false=> !c')&&Sh.aO6 vs vs'
 | .arr a,.arr b=>L.beq a b
 | .map a b,.map a' b'=>L.beq a a'&&L.beq b b'
 | .zA e l,.zA e' l'=>Nat.beq e e'&&L.beq l l'
 | .vE l s,.vE l' s'=>L.beq l l'&&Sh.beq s s'
 |_,_=>false
def rN.aO6:List rN→List rN→Bool
 |[],[]=>true
 |a::r,b::r'=>rN.beq a b&&rN.aO6 r r'
 |_,_=>false
def aJ0:List (Nat×Sh)→List (Nat×Sh)→Bool
 |[],[]=>true
 |(n,a)::r,(m,b)::r'=>Nat.beq n m&&Sh.beq a b&&aJ0 r r'
 |_,_=>false
def Shape.beq (a b:Shape):Bool:=aJ0 a.slots b.slots&&rN.aO6 a.objs b.objs&&Nat.beq a.m b.m
structure lK where
 dst:Option Nat
 op:jP
 guard:Option (Nat×Bool)
 bef:List Nat:=[]
inductive eB where |normal |exit (id:Nat)|ret
 deriving DecidableEq,Inhabited
inductive aSD where
 |lft (n:Nat) (off:Option Nat) (e:TypeId) (l:L)
 |frz (n off:Nat) (e:TypeId) (l:L)
 |a9q (n off:Nat) (e:TypeId) (l:L)
 |a9r (n:Nat) (e:TypeId) (l:L)
 |a9s (n:Nat) (l:L)
 |a9t (n:Nat) (e:TypeId) (l:L)
 |a9u (n:Nat)
 deriving Inhabited
inductive rB where
 |skip
 |ghost (g:aSD) (c:rB)
 |post (g:aSD) (c:rB)
 |region (fz:List (Nat×TypeId×Option L)) (ops:List lK) (draw:Bool) (bM0:Nat)
 |seq (a b:rB)
 |cond (c:rD) (a b:rB)
 |block (id:Nat) (c:rB)
 |loop (sh:Shape) (outs:List (eB×Shape)) (c:rB)
 |join (outs:List (eB×Shape)) (c:rB)
 |exit (id:Nat)
 |ret
 |bad
 deriving Inhabited
def nrm:L→Row→Row
 | .one (.int _),r=>[.int (at_ r 0).uA]
 | .one .bool,r=>[.bool (at_ r 0).rJ]
 | .one .str,r=>[.str (at_ r 0).qE]
 | .one _,r=>[at_ r 0]
 | .agg _,r=>r
inductive PV where
 |r (row:Row)
 |m (es:List (Row×Row))
 deriving Inhabited
def PV.row:PV→Row | .r row=>row |_=>[]
def PV.es:PV→List (Row×Row)| .m es=>es |_=>[]
structure Env where
 pc:Nat→List Row→Option (List Row)
 ic:Nat→List PV→Option (List PV)
 fix:((List PV→Option (Nat×List PV))→List PV→Option (Nat×List PV))→List PV→Option (Nat×List PV)
section
variable {A:Type}
def asI (v:AV) (k:IntKind→Int→Option A):Option A:=
 match v with | .d (.one (.int kd)) r=>k kd (at_ r 0).uA |_=>none
def asB (v:AV) (k:Bool→Option A):Option A:=
 match v with | .d (.one .bool) r=>k (at_ r 0).rJ |_=>none
def asS (v:AV) (k:List UInt8→Option A):Option A:=
 match v with | .d (.one .str) r=>k (at_ r 0).qE |_=>none
def a2a (v:AV) (k:TypeId→C→Option A):Option A:=
 match v with | .d (.one (.sl e)) r=>k e (at_ r 0)|_=>none
def asD (v:AV) (k:L→Row→Option A):Option A:=
 match v with | .d l r=>k l r |_=>none
def check (b:Bool) (k:Option A):Option A:=match b with |true=>k |false=>none
def aHa (S:St) (id:Nat) (k:Obj→Option A):Option A:=match S[id]? with |some o=>k o |none=>none
end
abbrev vI (k:IntKind) (n:Int):AV:= .d (.one (.int k)) [.int n]
abbrev vB (b:Bool):AV:= .d (.one .bool) [.bool b]
abbrev vS (s:List UInt8):AV:= .d (.one .str) [.str s]
def ceq:List K→Row→Row→Bool
 |[],_,_=>true
 | .int _::ks,x,y=>((at_ x 0).uA==(at_ y 0).uA)&&ceq ks (x.drop 1) (y.drop 1)
 | .bool::ks,x,y=>((at_ x 0).rJ==(at_ y 0).rJ)&&ceq ks (x.drop 1) (y.drop 1)
 | .str::ks,x,y=>((at_ x 0).qE==(at_ y 0).qE)&&ceq ks (x.drop 1) (y.drop 1)
 |_::_,_,_=>false
def bitsOf (op:BinOp) (k:IntKind) (x y:Int):Int:=
 let a:=BitVec.ofInt k.bits x
 let b:=BitVec.ofInt k.bits y
 k.wrap ((match op with | .and=>a&&&b | .or=>a |||b | .xor=>a^^^b |_=>a&&&~~~b).toNat)
def sJ (kl:L) (key:Row):List (Row×Row)→Option Row
 |[]=>none
 |(k,v)::r=>if ceq kl.ks key k then some v else sJ kl key r
def aQ (kl:L) (key v:Row):List (Row×Row)→List (Row×Row)
 |[]=>[(key,v)]
 |(k,u)::r=>if ceq kl.ks key k then (k,v)::r else (k,u)::aQ kl key v r
def aRs (kl:L) (key:Row):List (Row×Row)→Nat
 |[]=>0
 |(k,_)::r=>if ceq kl.ks key k then 0 else aRs kl key r+1
def uU (b:UInt8):Row:=[.int b.toNat]
def bytesOf (rows:List Row):List UInt8:=rows.map fun r=>UInt8.ofNat ((at_ r 0).uA.toNat)
def wE (c:C) (new:List Row):C:=match c,new with | .bA,[]=> .bA |_,_=> .sl (c.rows++new)
def eR (c:C) (a b:Int):C:=match c with | .bA=> .bA |c=> .sl ((c.rows.take b.toNat).drop a.toNat)
def aOH (E:Env) (c:C) (rows:List Row):Option (List Row):=match c with
 | .fn f cs=>E.pc f (rows++cs.map fun c=>[c])
 |_=>none
def aA (rows:List Row) (i:Nat):Row:=rows.getD i []
section
variable {A:Type} (E:Env) (F:Fr) (S:St)
def rowsOf:List L→List rD→(List Row→Option A)→Option A
 |[],[],k=>k []
 |l::ls,x::xs,k=>asD (x.uM F S) fun l' r=>check (L.beq l l') (rowsOf ls xs fun rs=>k (r::rs))
 |_,_,_=>none
def aUv:List L→List Row→Nat→List AV
 |[],_,_=>[]
 |l::ls,rs,i=> .d l (nrm l (aA rs i))::aUv ls rs (i+1)
def aZS (rs:List L) (rows:List Row):AV:=match rs with
 |[l]=> .d l (nrm l (aA rows 0))
 |_=> .tup (aUv rs rows 0)
def aIL (mx:Bool) (k:IntKind):List rD→Int→(Int→Option A)→Option A
 |[],m,c=>c m
 |x::xs,m,c=>asI (x.uM F S) fun k' n=>check (Nat.beq (IntKind.tag k) (IntKind.tag k')) (aIL mx k xs (match mx with |true=>(if n>m then n else m)|false=>(if n<m then n else m)) c)
def zT (ks:List K):List (Nat×Nat×rD)→Row→(Row→Option A)→Option A
 |[],z,k=>k z
 |(off,m,x)::r,z,k=>asD (x.uM F S) fun l row=>check (Nat.beq l.n m&&Nat.blt 0 m&&aEN l.ks ((ks.drop off).take m)) (zT ks r (put z off m row 0 ks.length) k)
def iT (l:L):List (Nat×rD)→List Row→(List Row→Option A)→Option A
 |[],z,k=>k z
 |(i,x)::r,z,k=>asD (x.uM F S) fun l' row=>check (L.beq l l') (iT l r (z.set i row) k)
def bnd (x:Option rD) (dflt:Int) (k:Int→Option A):Option A:=
 match x with |none=>k dflt |some x=>asI (x.uM F S) fun _ n=>k n
def aAs:List K→List rD→(Row→Option A)→Option A
 |[],[],k=>k []
 |kd::ks,x::xs,k=>asD (x.uM F S) fun l r=>check (L.beq (.one kd) l) (aAs ks xs fun row=>k (at_ r 0::row))
 |_,_,_=>none
def tJ:AV→Option Nat
 | .ptr id _=>some id
 | .zL id _ _ _=>some id
 | .whole id _=>some id
 | .own id _ _ _=>some id
 | .map id=>some id
 | .sw id _=>some id
 | .vE id=>some id
 | .aKU id _=>some id
 |_=>none
def tgt (op:jP) (base:Nat):Option Nat:=
 match op with
 | .a1Z id _=>some (base+id)
 | .a14 id _ _=>some (base+id)
 | .bslS id _ _ _ _ _=>some (base+id)
 | .bslO id _ _ _ _ _=>some (base+id)
 | .a18 id _=>some (base+id)
 | .aO5 id _=>some (base+id)
 | .ldA _ x=>tJ (x.ev F)
 | .stA _ x _=>tJ (x.ev F)
 | .a19 _ _ x _=>tJ (x.ev F)
 | .aUt id _ _ _ x _=>(match tJ (x.ev F)with |some i=>some i |none=>some (base+id))
 | .a4L id _ _=>some (base+id)
 | .aRr id _ _=>some (base+id)
 | .mk id _ _ _ _ _ _=>some (base+id)
 | .mkm id _ _=>some (base+id)
 | .aUs _ x=>tJ (x.ev F)
 | .a1Y x=>tJ (x.ev F)
 | .b2s _ x=>tJ (x.ev F)
 | .ld _ _ x=>tJ (x.ev F)
 | .ldC x=>tJ (x.ev F)
 | .st _ x _=>tJ (x.ev F)
 | .stC x _=>tJ (x.ev F)
 | .iad _ _ x _=>tJ (x.ev F)
 | .fad _ _ _ _ x=>tJ (x.ev F)
 | .a15 _ _ _ _ x _=>tJ (x.ev F)
 | .a17 x=>tJ (x.ev F)
 | .slc _ _ x _ _=>tJ (x.ev F)
 | .app id _ _ _ x _=>(match tJ (x.ev F)with |some i=>some i |none=>some (base+id))
 | .aUu id _ x _=>(match tJ (x.ev F)with |some i=>some i |none=>some (base+id))
 | .lk _ _ _ x _ _=>tJ (x.ev F)
 | .mup _ x _ _=>tJ (x.ev F)
 |_=>none
def cellsOf:List K→Row→Nat→List AV
 |[],_,_=>[]
 |k::ks,r,i=> .d (.one k) (nrm (.one k) [at_ r i])::cellsOf ks r (i+1)
def aB0:AV→Option (List AV)
 | .agg vs=>some vs
 | .d l r=>some (cellsOf l.ks r 0)
 |v=>match AV.single v with |true=>some [v]|false=>none
def zsV:List (Option (K×C))→List AV
 |[]=>[]
 |some (k,c)::r=> .d (.one k) [c]::zsV r
 |none::r=> .undef::zsV r
def a2c (off:Nat) (vs cs:List AV):List AV:=cs.take off++vs++cs.drop (off+vs.length)
def aOI:List (Nat×Nat×rD)→List AV→(List AV→Option A)→Option A
 |[],z,k=>k z
 |(off,m,x)::r,z,k=>match aB0 (x.ev F)with
  |some vs=>check (Nat.beq vs.length m&&Nat.ble (off+m) z.length) (aOI r (a2c off vs z) k)
  |none=>none
def aM6 (n:Int):Nat→Nat→(Nat→Option A)→Option A
 |_,0,_=>none
 |i,m+1,k=>if n=(i:Int)then k i else aM6 n (i+1) m k
def vU (o:Obj) (v:Nat) (k:L→C→Option A):Option A:=
 match o with | .arr v' l c=>check (Nat.beq v v') (k l c)|_=>none
def aP3 (o:Obj) (k:Option A):Option A:=match o with | .var .. =>k | .cells .. =>k |_=>none
def uD (o:Obj) (k:Option A):Option A:=match o with | .fresh=>k |_=>none
def aM7 (c:C) (k:List Row→Option A):Option A:=match c with | .sl rows=>k rows |_=>none
def aO7 (o:Obj) (v:Nat) (k:TypeId→L→C→Option A):Option A:=
 match o with | .zA v' e l c=>check (Nat.beq v v') (k e l c)|_=>none
def aP4 (o:Obj) (k:L→C→Nat→AV→Option A):Option A:=match o with | .vE l c i av=>k l c i av |_=>none
def aUw (o:Obj) (k:L→L→List (Row×Row)→Option A):Option A:=match o with | .map a b es=>k a b es |_=>none
def part (l l':L) (off:Nat) (r:Row) (k:Row→Option A):Option A:=
 match Nat.beq off 0&&L.beq l l' with
 |true=>k (nrm l r)
 |false=>check (aEN l.ks ((l'.ks.drop off).take l.n)) (k (nrm l (sub r off l.n)))
def aFk (l l':L) (off:Nat) (r row:Row) (k:Row→Option A):Option A:=
 match Nat.beq off 0&&L.beq l l' with
 |true=>k row
 |false=>check (aEN l.ks ((l'.ks.drop off).take l.n)) (k (put r off l.n row 0 l'.n))
def arith (op:BinOp) (kd:IntKind) (a b:Int) (k:Int→Option A):Option A:=
 match op with
 | .add=>k (kd.wrap (a+b))
 | .sub=>k (kd.wrap (a - b))
 | .mul=>k (kd.wrap (a*b))
 | .and=>k (bitsOf .and kd a b)
 | .or=>k (bitsOf .or kd a b)
 | .xor=>k (bitsOf .xor kd a b)
 | .andNot=>k (bitsOf .andNot kd a b)
 |_=>none
def aXb (op:BinOp) (a b:Int) (k:Bool→Option A):Option A:=
 match op with
 | .eql=>k (a==b)
 | .neq=>k (a !=b)
 | .lss=>k (decide (a<b))
 | .leq=>k (decide (a≤b))
 | .gtr=>k (decide (a>b))
 | .geq=>k (decide (a≥b))
 |_=>none
def aXc (op:BinOp) (a b:List UInt8) (k:Bool→Option A):Option A:=
 match op with
 | .eql=>k (a==b)
 | .neq=>k (!(a==b))
 | .lss=>k (Op.bytesLess a b)
 | .leq=>k (Op.bytesLess a b ||a==b)
 | .gtr=>k (!(Op.bytesLess a b ||a==b))
 | .geq=>k (!Op.bytesLess a b)
 |_=>none
def aZT:Bool→Bool→Bool |true,b=> !b |false,b=>b
def aM8:List UInt8→UInt8→Int
 |[],_=> -1
 |b::l,c=>if b==c then 0 else if aM8 l c== -1 then -1 else aM8 l c+1
def nF:List UInt8→List UInt8→Int
 |[],[]=>0
 |[],_::_=> -1
 |_::_,[]=>1
 |a::x,b::y=>if a<b then -1 else if b<a then 1 else nF x y
def rG (o:Obj) (op:jP) (base:Nat) (k:AV→Option Obj→Option A):Option A:=
 match op with
 | .mov x=>k (x.ev F) none
 | .a1Y x=>match x.ev F with
   | .d (.one (.fn t)) r=>if (at_ r 0).a6b=false then k (.d (.one (.fn t)) r) none else none
   | .d (.one (.ref t)) r=>if (at_ r 0).xA=true then k (.d (.one (.ref t)) r) none else none
   | .fn f caps=>k (.fn f caps) none
   | .ptr id off=>aP3 o (k (.ptr id off) none)
   | .zL id v i off=>vU o v fun _ _=>k (.zL id v i off) none
   |_=>none
 | .a1Z id l=>uD o (k (.whole (base+id) 0) (some (.arr 0 l .bA)))
 | .a14 id e l=>uD o (k (.sw (base+id) 0) (some (.zA 0 e l .bA)))
 | .pick c a b=>asB (c.uM F S) fun t=>if t=true then k (a.ev F) none else k (b.ev F) none
 | .a6c op x y=>asI (x.uM F S) fun kd a=>asI (y.uM F S) fun kd' b=>check (Nat.beq (IntKind.tag kd) (IntKind.tag kd')) (arith op kd a b fun n=>k (vI kd n) none)
 | .idiv op x y=>asI (x.uM F S) fun kd a=>asI (y.uM F S) fun kd' b=>check (Nat.beq (IntKind.tag kd) (IntKind.tag kd')) (if b=0 then none else match op with
   | .quo=>k (vI kd (kd.wrap (a.tdiv b))) none
   | .rem=>k (vI kd (a.tmod b)) none
   |_=>none)
 | .shf op x y=>asI (x.uM F S) fun kd a=>asI (y.uM F S) fun _ b=>if b<0 then none else match op with
   | .shl=>k (vI kd (kd.wrap (a*2^(min b.toNat kd.bits)))) none
   | .shr=>k (vI kd (a.fdiv (2^(min b.toNat kd.bits)))) none
   |_=>none
 | .a6d op x y=>asI (x.uM F S) fun kd a=>asI (y.uM F S) fun kd' b=>check (Nat.beq (IntKind.tag kd) (IntKind.tag kd')) (aXb op a b fun t=>k (vB t) none)
 | .a6e x y=>asS (x.uM F S) fun a=>asS (y.uM F S) fun b=>if a.length+b.length≤1099511627776 then k (vS (a++b)) none else none
 | .a6f op x y=>asS (x.uM F S) fun a=>asS (y.uM F S) fun b=>aXc op a b fun t=>k (vB t) none
 | .bad=>none
 | .a4O _ x y=>asS (x.uM F S) fun a=>asI (y.uM F S) fun kd n=>check (Nat.beq (IntKind.tag kd) 4) (k (vI .i64 (aM8 a n.toNat.toUInt8)) none)
 | .a4P _ x y=>asS (x.uM F S) fun a=>asS (y.uM F S) fun b=>k (vI .i64 (nF a b)) none
 | .aeq neg l x y=>asD (x.uM F S) fun l1 a=>asD (y.uM F S) fun l2 b=>check (L.beq l l1&&L.beq l l2) (k (vB (aZT neg (ceq l.ks a b))) none)
 | .aUs neg x=>match x.uM F S with
   | .d (.one (.sl _)) r=>k (vB (aZT neg (at_ r 0).isNil)) none
   | .whole _ v=>vU o v fun _ c=>k (vB (aZT neg c.isNil)) none
   |_=>none
 | .not x=>asB (x.uM F S) fun a=>k (vB (!a)) none
 | .a6g x=>asI (x.uM F S) fun kd a=>k (vI kd (bitsOf .xor kd (if kd.signed then -1 else kd.max) a)) none
 | .i2i kd x=>asI (x.uM F S) fun _ a=>k (vI kd (kd.wrap a)) none
 | .s2b e x=>asS (x.uM F S) fun s=>k (.d (.one (.sl e)) [.sl (s.map uU)]) none
 | .b2s e x=>match x.uM F S with
   | .d (.one (.sl e')) r=>check (Nat.beq e e') (k (vS (bytesOf (at_ r 0).rows)) none)
   | .whole _ v=>vU o v fun l' c=>check (L.beq (.one (.int .u8)) l') (k (vS (bytesOf c.rows)) none)
   |_=>none
 | .a6h l t x=>asD (x.uM F S) fun l' r=>check (L.beq l l') (k (.d (.one (.ref t)) [.dp r]) none)
 | .a4L id l x=>uD o (asD (x.uM F S) fun l' r=>check (L.beq l l') (k (.ptr (base+id) 0) (some (.var l r))))
 | .aRr id l z=>uD o (k (.ptr (base+id) 0) (some (.var l z)))
 | .ld l t x=>match x.ev F with
   | .d (.one (.ref t')) r=>check (Nat.beq t t') (if (at_ r 0).xA=true then k (.d l (nrm l (at_ r 0).fA)) none else none)
   | .ptr _ off=>(match o with
     | .var l' r=>part l l' off r fun row=>k (.d l row) none
     |_=>none)
   | .zL _ bO idx off=>vU o bO fun l' c=>if idx<c.rows.length then part l l' off (aA c.rows idx) fun row=>k (.d l row) none else none
   |_=>none
 | .st l x v=>match x.ev F with
   | .ptr _ off=>(match o with
     | .var l' r=>asD (v.uM F S) fun lv row=>check (L.beq l lv) (aFk l l' off r row fun r'=>k .und (some (.var l' r')))
     |_=>none)
   | .zL _ bO idx off=>vU o bO fun l' c=>asD (v.uM F S) fun lv row=>check (L.beq l lv) (if idx<c.rows.length then aFk l l' off (aA c.rows idx) row fun r'=>k .und (some (.arr bO l' (.sl (c.rows.set idx r'))))else none)
   |_=>none
 | .ldC x=>match x.ev F with
   | .ptr _ off=>(match o with
     | .cells _ vs=>(match vs[off]? with |some v=>k v none |none=>none)
     |_=>none)
   |_=>none
 | .stC x v=>match x.ev F with
   | .ptr _ off=>(match o with
     | .cells false vs=>check (Nat.blt off vs.length&&AV.single (v.ev F)) (k .und (some (.cells false (vs.set off (v.ev F)))))
     |_=>none)
   |_=>none
 | .fad off n t u x=>match x.ev F with
   | .d (.one (.ref t')) r=>check (Nat.beq t t') (if (at_ r 0).xA=true then k (.d (.one (.ref u)) [.dp (sub (at_ r 0).fA off n)]) none else none)
   | .ptr id p=>aP3 o (k (.ptr id (p+off)) none)
   | .zL id v i p=>vU o v fun _ _=>k (.zL id v i (p+off)) none
   |_=>none
 | .bld l z parts=>zT F S l.ks parts z fun row=>k (.d l row) none
 | .bsl e l n z parts=>iT F S l parts (List.replicate n z) fun rows=>k (.d (.one (.sl e)) [.sl rows]) none
 | .bslO id e l n z parts=>uD o (iT F S l parts (List.replicate n z) fun rows=>k (.whole (base+id) 0) (some (.arr 0 l (.sl rows))))
 | .bslS id e l n z parts=>uD o (iT F S l parts (List.replicate n z) fun rows=>k (.sw (base+id) 0) (some (.zA 0 e l (.sl rows))))
 | .iad e l x i=>asI (i.uM F S) fun _ n=>match x.uM F S with
   | .d (.one (.sl e')) r=>check (Nat.beq e e') (if 0≤n∧n<((at_ r 0).rows.length:Int)then k (.d (.one (.ref e)) [.dp (aA (at_ r 0).rows n.toNat)]) none else none)
   | .whole id v=>vU o v fun l' c=>check (L.beq l l') (if 0≤n∧n<(c.rows.length:Int)then k (.zL id v n.toNat 0) none else none)
   | .own id v off len=>vU o v fun l' _=>check (L.beq l l') (if 0≤n∧n<(len:Int)then k (.zL id v (off+n.toNat) 0) none else none)
   | .vE id=>aP4 o fun l' c _ _=>check (L.beq l l') (if 0≤n∧n<(c.rows.length:Int)then k (.aKU id n.toNat) none else none)
   |_=>none
 | .a15 m t e l x i=>asI (i.uM F S) fun _ n=>match x.ev F with
   | .d (.one (.ref t')) r=>check (Nat.beq t t') (if 0≤n∧n<(m:Int)∧(at_ r 0).xA=true then k (.d (.one (.ref e)) [.dp (sub (at_ r 0).fA (n.toNat*l.n) l.n)]) none else none)
   | .ptr id p=>aP3 o (if 0≤n∧n<(m:Int)then k (.ptr id (p+n.toNat*l.n)) none else none)
   | .zL id v j p=>vU o v fun _ _=>if 0≤n∧n<(m:Int)then k (.zL id v j (p+n.toNat*l.n)) none else none
   |_=>none
 | .a4M x i=>asI (i.uM F S) fun _ n=>asS (x.uM F S) fun s=>if 0≤n∧n<(s.length:Int)then k (vI .u8 (s.getD n.toNat 0).toNat) none else none
 | .a4N m l x i=>asI (i.uM F S) fun _ n=>(match x.uM F S with
   | .d (.agg ks') r=>check (aEN ks' (List.replicate m l.ks).flatten) (if 0≤n∧n<(m:Int)then k (.d l (nrm l (sub r (n.toNat*l.n) l.n))) none else none)
   |_=>none)
 | .a6i x=>asS (x.uM F S) fun s=>k (vI .i64 s.length) none
 | .a17 x=>match x.uM F S with
   | .d (.one (.sl _)) r=>k (vI .i64 (at_ r 0).rows.length) none
   | .whole _ v=>vU o v fun _ c=>k (vI .i64 c.rows.length) none
   | .own _ v _ len=>vU o v fun _ _=>k (vI .i64 len) none
   | .vE _=>aP4 o fun _ c _ _=>k (vI .i64 c.rows.length) none
   |_=>none
 | .imin mx xs=>match xs with
   |x::r=>asI (x.uM F S) fun kd n=>aIL F S mx kd r n fun m=>k (vI kd m) none
   |[]=>none
 | .app id e l bytes x y=>a2a (y.uM F S) fun e' c'=>check (Nat.beq e e') (match x.ev F with
   | .d (.one (.sl e2)) r=>check (Nat.beq e e2) (match at_ r 0 with
     | .bA=>uD o (if c'.rows.length*bytes≤140737488355328 then k (.whole (base+id) 0) (some (.arr 0 l (wE .bA c'.rows)))else none)
     |_=>none)
   | .whole i v=>vU o v fun l' c=>check (L.beq l l') (if (c.rows.length+c'.rows.length)*bytes≤140737488355328 then k (.whole i (v+1)) (some (.arr (v+1) l (wE c c'.rows)))else none)
   |_=>none)
 | .aUt id e l bytes x y=>a2a (y.uM F S) fun e' c'=>check (Nat.beq e e') (match x.ev F with
   | .d (.one (.sl e2)) r=>check (Nat.beq e e2) (match at_ r 0 with
     | .bA=>uD o (if c'.rows.length*bytes≤140737488355328 then k (.sw (base+id) 0) (some (.zA 0 e l (wE .bA c'.rows)))else none)
     |_=>none)
   | .sw i v=>aO7 o v fun e2 l' c=>check (Nat.beq e e2&&L.beq l l') (if (c.rows.length+c'.rows.length)*bytes≤140737488355328 then k (.sw i (v+1)) (some (.zA (v+1) e l (wE c c'.rows)))else none)
   |_=>none)
 | .aUu id e x y=>asS (y.uM F S) fun s=>match x.ev F with
   | .d (.one (.sl e2)) r=>check (Nat.beq e e2) (match at_ r 0 with
     | .bA=>uD o (if s.length≤1099511627776 then k (.sw (base+id) 0) (some (.zA 0 e (.one (.int .u8)) (wE .bA (s.map uU))))else none)
     |_=>none)
   | .sw i v=>aO7 o v fun e2 l' c=>check (Nat.beq e e2&&L.beq (.one (.int .u8)) l') (if c.rows.length+s.length≤1099511627776 then k (.sw i (v+1)) (some (.zA (v+1) e (.one (.int .u8)) (wE c (s.map uU))))else none)
   |_=>none
 | .mk id _ l z bytes n c=>uD o (asI (n.uM F S) fun _ a=>asI (c.uM F S) fun _ b=>if 0≤a∧a≤b∧b*bytes≤140737488355328∧b≤1099511627776 then k (.whole (base+id) 0) (some (.arr 0 l (.sl (List.replicate a.toNat z))))else none)
 | .slc e l x lo hi=>match x.uM F S with
   | .d (.one (.sl e')) r=>check (Nat.beq e e') (bnd F S lo 0 fun a=>bnd F S hi (at_ r 0).rows.length fun b=>
       if 0≤a∧a≤b∧b≤((at_ r 0).rows.length:Int)then k (.d (.one (.sl e)) [eR (at_ r 0) a b]) none else none)
   | .whole id v=>vU o v fun l' c=>check (L.beq l l') (match c with
     | .sl rows=>(bnd F S lo 0 fun a=>bnd F S hi rows.length fun b=>if 0≤a∧a≤b∧b≤(rows.length:Int)then k (.own id v a.toNat (b.toNat - a.toNat)) none else none)
     |_=>none)
   | .own id v off len=>vU o v fun l' c=>check (L.beq l l') (aM7 c fun rows=>bnd F S lo 0 fun a=>bnd F S hi len fun b=>
       if 0≤a∧a≤b∧(b≤(len:Int)∨off=0∧b≤(rows.length:Int))then k (.own id v (off+a.toNat) (b.toNat - a.toNat)) none else none)
   |_=>none
 | .slcS x lo hi=>asS (x.uM F S) fun s=>bnd F S lo 0 fun a=>bnd F S hi s.length fun b=>if 0≤a∧a≤b∧b≤(s.length:Int)then k (vS ((s.take b.toNat).drop a.toNat)) none else none
 | .call f ps rs args=>rowsOf F S ps args fun rows=>(E.pc f rows).bind fun out=>k (aZS rs out) none
 | .callv t ps rs x args=>match x.ev F with
   | .d (.one (.fn t')) r=>check (Nat.beq t t') (rowsOf F S ps args fun rows=>(aOH E (at_ r 0) rows).bind fun out=>k (aZS rs out) none)
   |_=>none
 | .mkf f t ks caps=>aAs F S ks caps fun row=>k (.d (.one (.fn t)) [.fn f row]) none
 | .ext i x=>match x.ev F with
   | .tup vs=>(match vs[i]? with |some v=>k v none |none=>none)
   |_=>none
 | .mkm id kl vl=>uD o (k (.map (base+id)) (some (.map kl vl [])))
 | .lk kl vl z x key ok=>asD (key.uM F S) fun l kr=>check (L.beq kl l) (match x.ev F with
   | .map _=>aUw o fun kl' vl' es=>check (L.beq kl kl'&&L.beq vl vl') (match ok with
       |true=>k (.tup [.d vl (nrm vl ((sJ kl kr es).getD z)),vB (sJ kl kr es).isSome]) none
       |false=>k (.d vl (nrm vl ((sJ kl kr es).getD z))) none)
   |_=>none)
 | .mup kl x key v=>asD (key.uM F S) fun l kr=>asD (v.uM F S) fun lv vr=>match x.ev F with
   | .map _=>aUw o fun kl' vl es=>check (L.beq kl kl'&&L.beq kl' l&&L.beq vl lv) (k .und (some (.map kl' vl (aQ kl' kr vr es))))
   |_=>none
 | .aBZ .. =>none
 | .a18 id x=>uD o (match aB0 (x.ev F)with |some vs=>k (.ptr (base+id) 0) (some (.cells false vs))|none=>none)
 | .aO5 id zs=>uD o (k (.ptr (base+id) 0) (some (.cells false (zsV zs))))
 | .ldA n x=>match x.ev F with
   | .ptr _ off=>(match o with
     | .cells _ vs=>check (Nat.ble (off+n) vs.length) (k (.agg ((vs.drop off).take n)) none)
     |_=>none)
   |_=>none
 | .stA n x v=>match x.ev F with
   | .ptr _ off=>(match o with
     | .cells false vs=>(match aB0 (v.ev F)with
       |some us=>check (Nat.beq us.length n&&Nat.ble (off+us.length) vs.length) (k .und (some (.cells false (a2c off us vs))))
       |none=>none)
     |_=>none)
   |_=>none
 | .bldA zs parts=>aOI F parts (zsV zs) fun vs=>k (.agg vs) none
 | .a19 m n x i=>asI (i.uM F S) fun _ j=>match x.ev F with
   | .ptr id p=>aP3 o (aM6 j 0 m fun i=>k (.ptr id (p+i*n)) none)
   |_=>none
 | .bAI neg x=>match x.ev F with
   | .d (.one .ifc) r=>k (vB (aZT neg (at_ r 0).bCU)) none
   |_=>none
end
mutual
def eF (S:St) (m:Nat) (co:Bool):Sh→AV→Option (List PV)
 | .d l,.d l' row=>match L.beq l l' with |true=>some [.r (nrm l row)]|false=>none
 | .ptr i o,.ptr i' o'=>match Nat.beq i i'&&Nat.beq o o'&&Nat.blt i m with |true=>some []|false=>none
 | .whole i,.whole i' v=>match S[i']? with
   |some (.arr v' _ _)=>(match Nat.beq i i'&&Nat.beq v v'&&Nat.blt i m with |true=>some []|false=>none)
   |_=>none
 | .fn f cs,.fn f' vs=>match Nat.beq f f' with |true=>pW S m co cs vs |false=>none
 | .map i,.map i'=>match Nat.beq i i'&&Nat.blt i m with |true=>some []|false=>none
 | .sw i,.sw i' v=>match S[i']? with
   |some (.zA v' _ _ _)=>(match Nat.beq i i'&&Nat.beq v v'&&Nat.blt i m with |true=>some []|false=>none)
   |_=>none
 | .d l,.sw i' v=>match co,AV.dat S (.sw i' v)with
   |true,.d l' row=>(match L.beq l l' with |true=>some [.r (nrm l row)]|false=>none)
   |_,_=>none
 | .agg ss,.agg vs=>pW S m co ss vs
 | .d l,.agg vs=>match co,AV.dat S (.agg vs)with
   |true,.d l' row=>(match L.beq l l' with |true=>some [.r (nrm l row)]|false=>none)
   |_,_=>none
 | .agg ss,.d l row=>match pW S m co ss (cellsOf l.ks row 0),l with
   |some ps,.agg _=>some ps
   |_,_=>none
 | .aTo i,.ptr i' o=>match Nat.beq i i'&&Nat.blt i m with |true=>some [.r [.int (o:Int)]]|false=>none
 | .zL i,.zL i' v idx o=>match S[i']? with
   |some (.arr v' _ _)=>(match Nat.beq i i'&&Nat.beq v v'&&Nat.blt i m with |true=>some [.r [.int (idx:Int),.int (o:Int)]]|false=>none)
   |_=>none
 | .vE i,.vE i'=>match Nat.beq i i'&&Nat.blt i m with |true=>some []|false=>none
 |_,_=>none
def pW (S:St) (m:Nat) (co:Bool):List Sh→List AV→Option (List PV)
 |[],[]=>some []
 |s::ss,v::vs=>match eF S m co s v,pW S m co ss vs with
  |some a,some b=>some (a++b)
  |_,_=>none
 |_,_=>none
end
def nZ (S:St) (m:Nat):rN→Obj→Option (List PV)
 | .var l,.var l' row=>match L.beq l l' with |true=>some [.r (nrm l row)]|false=>none
 | .cells c vs,.cells c' yL=>match c==c' with |true=>pW S m false vs yL |false=>none
 | .arr l,.arr _ l' c=>match L.beq l l' with |true=>some [.r [c]]|false=>none
 | .map kl vl,.map kl' vl' es=>match L.beq kl kl'&&L.beq vl vl' with |true=>some [.m es]|false=>none
 | .zA e l,.zA _ e' l' c=>match Nat.beq e e'&&L.beq l l' with |true=>some [.r [c]]|false=>none
 | .vE l s,.vE l' c i av=>match L.beq l l' with
   |true=>(match eF S m false s av with |some ps=>some (.r [c,.int (i:Int)]::ps)|none=>none)
   |false=>none
 | .cells _ [],_=>some []
 |_,_=>none
def hd (ps:List PV):Row:=(ps.headD (.r [])).row
mutual
def unV:Sh→List PV→AV×List PV
 | .d l,ps=>(.d l (nrm l (hd ps)),ps.tail)
 | .ptr i o,ps=>(.ptr i o,ps)
 | .whole i,ps=>(.whole i 0,ps)
 | .fn f cs,ps=>match aMY cs ps with |(vs,r)=>(.fn f vs,r)
 | .map i,ps=>(.map i,ps)
 | .sw i,ps=>(.sw i 0,ps)
 | .agg cs,ps=>match aMY cs ps with |(vs,r)=>(.agg vs,r)
 | .aTo i,ps=>(.ptr i (at_ (hd ps) 0).uA.toNat,ps.tail)
 | .zL i,ps=>(.zL i 0 (at_ (hd ps) 0).uA.toNat (at_ (hd ps) 1).uA.toNat,ps.tail)
 | .vE i,ps=>(.vE i,ps)
def aMY:List Sh→List PV→List AV×List PV
 |[],ps=>([],ps)
 |s::ss,ps=>match unV s ps with
  |(v,r)=>match aMY ss r with
   |(vs,r')=>(v::vs,r')
end
def unO:rN→List PV→Obj×List PV
 | .var l,ps=>(.var l (nrm l (hd ps)),ps.tail)
 | .cells _ [],ps=>(.dead,ps)
 | .cells c vs,ps=>match aMY vs ps with |(yL,r)=>(.cells c yL,r)
 | .arr l,ps=>(.arr 0 l (at_ (hd ps) 0),ps.tail)
 | .map kl vl,ps=>(.map kl vl (ps.headD (.m [])).es,ps.tail)
 | .zA e l,ps=>(.zA 0 e l (at_ (hd ps) 0),ps.tail)
 | .vE l s,ps=>match unV s ps.tail with |(av,r)=>(.vE l (at_ (hd ps) 0) (at_ (hd ps) 1).uA.toNat av,r)
def aJ1:List rN→List PV→St
 |[],_=>[]
 |s::ss,ps=>match unO s ps with |(o,r)=>o::aJ1 ss r
def mK:List (Nat×Sh)→List PV→Fr×List PV
 |[],ps=>([],ps)
 |(n,s)::r,ps=>match unV s ps with
  |(v,ps')=>match mK r ps' with
   |(F,bII)=>((n,v)::F,bII)
section
variable {A:Type} (E:Env) (F:Fr) (S:St)
mutual
def Sh.yD (ids:List Nat):Sh→Sh
 | .d l=> .d l
 | .ptr i o=> .ptr (ids.getD i 0) o
 | .whole i=> .whole (ids.getD i 0)
 | .fn f cs=> .fn f (Sh.s6 ids cs)
 | .map i=> .map (ids.getD i 0)
 | .sw i=> .sw (ids.getD i 0)
 | .agg cs=> .agg (Sh.s6 ids cs)
 | .aTo i=> .aTo (ids.getD i 0)
 | .zL i=> .zL (ids.getD i 0)
 | .vE i=> .vE (ids.getD i 0)
def Sh.s6 (ids:List Nat):List Sh→List Sh
 |[]=>[]
 |s::r=>Sh.yD ids s::Sh.s6 ids r
end
mutual
def Sh.under (n:Nat):Sh→Bool
 | .d _=>true
 | .ptr i _=>Nat.blt i n
 | .whole i=>Nat.blt i n
 | .fn _ cs=>Sh.aFl n cs
 | .map i=>Nat.blt i n
 | .sw i=>Nat.blt i n
 | .agg cs=>Sh.aFl n cs
 | .aTo i=>Nat.blt i n
 | .zL i=>Nat.blt i n
 | .vE i=>Nat.blt i n
def Sh.aFl (n:Nat):List Sh→Bool
 |[]=>true
 |s::r=>Sh.under n s&&Sh.aFl n r
end
def rN.yD (ids:List Nat):rN→rN
 | .cells c vs=> .cells c (Sh.s6 ids vs)
 | .vE l s=> .vE l (Sh.yD ids s)
 |o=>o
def rN.under (n:Nat):rN→Bool
 | .cells _ vs=>Sh.aFl n vs
 | .vE _ s=>Sh.under n s
 |_=>true
def Shape.under (n:Nat) (sh:Shape):Bool:=sh.slots.all (fun p=>Sh.under n p.2)&&sh.objs.all (rN.under n)
mutual
def AV.yD (ids lC:List Nat):AV→AV
 | .d l r=> .d l r
 | .ptr i o=> .ptr (ids.getD i 0) o
 | .whole i 0=> .whole (ids.getD i 0) (lC.getD i 0)
 | .fn f cs=> .fn f (AV.s6 ids lC cs)
 | .map i=> .map (ids.getD i 0)
 | .sw i 0=> .sw (ids.getD i 0) (lC.getD i 0)
 | .agg vs=> .agg (AV.s6 ids lC vs)
 | .zL i 0 idx off=> .zL (ids.getD i 0) (lC.getD i 0) idx off
 | .vE i=> .vE (ids.getD i 0)
 | .aKU i idx=> .aKU (ids.getD i 0) idx
 |_=> .undef
def AV.s6 (ids lC:List Nat):List AV→List AV
 |[]=>[]
 |v::r=>AV.yD ids lC v::AV.s6 ids lC r
end
def Obj.yD (ids lC:List Nat) (bO:Nat):Obj→Obj
 | .arr 0 l c=> .arr bO l c
 | .arr _ _ _=> .dead
 | .zA 0 e l c=> .zA bO e l c
 | .zA _ _ _ _=> .dead
 | .cells c vs=> .cells c (AV.s6 ids lC vs)
 | .fresh=> .dead
 | .vE l c i av=> .vE l c i (AV.yD ids lC av)
 |o=>o
def aIM (S:St) (all:List Nat):List Nat→List rN→Option (List PV)
 |[],[]=>some []
 |id::is,s::ss=>match S[id]? with
  |some o=>(match nZ S S.length (s.yD all) o,aIM S all is ss with
   |some a,some b=>some (a++b)
   |_,_=>none)
  |none=>none
 |_,_=>none
def aUx (S:St) (ids:List Nat) (en:Shape) (args:List AV):Option (List PV):=
 match pW S S.length true (Sh.s6 ids (en.slots.map (·.2))) args,aIM S ids ids en.objs with
 |some a,some b=>some (a++b)
 |_,_=>none
def aMC (S:St) (id:Nat):Nat:=match S[id]? with |some (.arr v _ _)=>v+1 |some (.zA v _ _ _)=>v+1 |_=>0
def sN (ids lC:List Nat):List Nat→List Nat→List Obj→List (Nat×Obj)
 |i::is,v::vs,o::os=>(i,Obj.yD ids lC v o)::sN ids lC is vs os
 |_,_,_=>[]
def aDh (S:St):List (Nat×Obj)→List (Nat×Obj)
 |[]=>[]
 |p::r=>match aOG S p.1&&p.2.cst with |true=>aDh S r |false=>p::aDh S r
def aId (S:St):List Nat→Bool
 |[]=>true
 |i::r=>(match S[i]? with |some .fresh=>true |_=>false)&&aId S r
def nodupB:List Nat→Bool
 |[]=>true
 |a::r=> !r.any (Nat.beq a)&&nodupB r
def xE (i:Nat):Nat→List Nat
 |0=>[]
 |n+1=>i::xE (i+1) n
def vM (F:Fr) (f:Nat) (x:Option rD) (args:List rD) (k:List AV→Option A):Option A:=
 match x with
 |none=>k (args.map (·.ev F))
 |some y=>match y.ev F with
  | .fn f' caps=>check (Nat.beq f f') (k (args.map (·.ev F)++caps))
  |_=>none
def bC5 (vs:List AV):AV:=match vs with |[v]=>v |_=> .tup vs
def rN.cst:rN→Bool | .cells true (_::_)=>true |_=>false
def aJ2:List rN→List rN→Bool
 |[],r=>r.all fun s=> !s.cst
 |_::_,[]=>false
 |a::r,b::r'=>(match a,b with
  |_,.cells _ []=>true
  | .var _,.var _=>true
  | .cells c (_::_),.cells c' _=> !c' ||c
  | .arr l,.arr l'=>L.beq l l'
  | .map _ _,.map _ _=>true
  | .zA e l,.zA e' l'=>Nat.beq e e'&&L.beq l l'
  | .vE l _,.vE l' _=>L.beq l l'
  |_,_=>false)&&aJ2 r r'
def aTp:Option rD→List rD |none=>[]|some x=>[x]
def aHV:jP→List rD
 | .mov x=>[x]| .a1Y x=>[x]| .a1Z _ _=>[]| .a14 _ _ _=>[]
 | .pick c a b=>[c,a,b]
 | .a6c _ x y=>[x,y]| .idiv _ x y=>[x,y]| .shf _ x y=>[x,y]| .a6d _ x y=>[x,y]| .a6e x y=>[x,y]| .a6f _ x y=>[x,y]
 | .aeq _ _ x y=>[x,y]| .aUs _ x=>[x]| .not x=>[x]| .a6g x=>[x]| .i2i _ x=>[x]| .s2b _ x=>[x]| .b2s _ x=>[x]
 | .a6h _ _ x=>[x]| .a4L _ _ x=>[x]| .aRr _ _ _=>[]
 | .ld _ _ x=>[x]| .ldC x=>[x]| .st _ x v=>[x,v]| .stC x v=>[x,v]| .fad _ _ _ _ x=>[x]
 | .bld _ _ ps=>ps.map fun p=>p.2.2
 | .bsl _ _ _ _ ps=>ps.map fun p=>p.2
 | .bslS _ _ _ _ _ ps=>ps.map fun p=>p.2
 | .bslO _ _ _ _ _ ps=>ps.map fun p=>p.2
 | .iad _ _ x i=>[x,i]| .a15 _ _ _ _ x i=>[x,i]| .a4M x i=>[x,i]| .a4N _ _ x i=>[x,i]| .a6i x=>[x]| .a17 x=>[x]
 | .imin _ xs=>xs
 | .app _ _ _ _ x y=>[x,y]| .aUt _ _ _ _ x y=>[x,y]| .aUu _ _ x y=>[x,y]| .mk _ _ _ _ _ n c=>[n,c]
 | .slc _ _ x lo hi=>x::aTp lo++aTp hi
 | .slcS x lo hi=>x::aTp lo++aTp hi
 | .call _ _ _ xs=>xs
 | .callv _ _ _ x xs=>x::xs
 | .a4P _ x y=>[x,y]
 | .a4O _ x y=>[x,y]
 | .bad=>[]
 | .aBZ _ _ _ _ _ _ x xs=>aTp x++xs
 | .mkf _ _ _ cs=>cs
 | .ext _ x=>[x]
 | .mkm _ _ _=>[]
 | .lk _ _ _ x key _=>[x,key]
 | .mup _ x key v=>[x,key,v]
 | .a18 _ x=>[x]| .aO5 _ _=>[]| .ldA _ x=>[x]| .stA _ x v=>[x,v]
 | .bldA _ ps=>ps.map fun p=>p.2.2
 | .a19 _ _ x i=>[x,i]| .bAI _ x=>[x]
def aIe (F:Fr) (op:jP):List Nat:=(aHV op).flatMap fun x=>(x.ev F).aRq
def opK (op:jP) (base:Nat) (k:AV→List (Nat×Obj)→List Nat→Option A):Option A:=
 match op with
 | .aBZ i f en ex ids new x args=>vM F f x args fun vs=>
   let all:=ids++xE (base+new) (ex.objs.length - ids.length)
   let lC:=all.map (aMC S)
   check (Shape.under ids.length en&&Shape.under all.length ex&&aId S (xE (base+new) (ex.objs.length - ids.length))&&nodupB all&&Nat.ble ids.length ex.objs.length&&aJ2 en.objs ex.objs)
    ((aUx S ids en vs).bind fun ps=>(E.ic i ps).bind fun ps'=>match aMY (ex.slots.map (·.2)) ps' with
      |(vs',r)=>k (bC5 (AV.s6 all lC vs')) (aDh S (sN all lC all lC (aJ1 ex.objs r))) (all++aIe F op))
 |op=>match tgt F op base with
  |none=>rG E F S .dead op base fun v _=>k v [] (aIe F op)
  |some id=>aHa S id fun o=>rG E F S o op base fun v no=>k v (match no with |some o'=>[(id,o')]|none=>[]) (id::aIe F op)
end
def zF:List (Nat×Obj)→St→St
 |[],S=>S
 |(i,o)::r,S=>zF r (S.set i o)
def Fr.put (F:Fr):Option Nat→AV→Fr
 |some t,v=>(t,v)::F
 |none,_=>F
abbrev aRt:=List Nat×List Nat
def meets:List Nat→List Nat→Bool
 |[],_=>false
 |a::r,l=>l.any (Nat.beq a)||meets r l
def conflict (a b:aRt):Bool:=meets a.1 b.1 ||meets a.1 b.2 ||meets a.2 b.1
def aB1 (f:aRt) (bef:List Nat):List aRt→Nat→Bool
 |[],_=>true
 |g::r,i=>(!conflict f g ||bef.any (Nat.beq i))&&aB1 f bef r (i+1)
section
variable {A:Type} (E:Env)
def aIN (draw:Bool) (base:Nat):List lK→List aRt→Fr→St→(Fr→St→Option A)→Option A
 |[],_,F,S,k=>k F S
 |o::rest,seen,F,S,k=>
  let run (F:Fr):Option A:=opK E F S o.op base fun v us rd=>
   check (!draw ||aB1 (us.map (·.1),rd) o.bef seen 0) (aIN draw base rest (match draw with |true=>seen++[(us.map (·.1),rd)]|false=>[]) (F.put o.dst v) (zF us S) k)
  let skip (F:Fr):Option A:=aIN draw base rest (match draw with |true=>seen++[([],[])]|false=>[]) (F.put o.dst .und) S k
  match o.guard with
  |none=>run F
  |some (t,w)=>match F.get t with
   | .d (.one .bool) [.bool e]=>(match w with
     |true=>if e=true then run ((t,vB true)::F)else skip ((t,vB false)::F)
     |false=>if e=true then skip ((t,vB true)::F)else run ((t,vB false)::F))
   | .und=>skip F
   |_=>none
def aKX (n:Nat) (t:TypeId) (ol:Option L) (F:Fr) (S:St) (k:Fr→St→Option A):Option A:=
 match ol with
 |some l=>(match F.get n with
  | .whole id v=>aHa S id fun o=>vU o v fun l' c=>check (L.beq l l') (k ((n,.d (.one (.sl t)) [c])::F) (S.set id .dead))
  | .ptr id 0=>aHa S id fun o=>(match o with
    | .var l' r=>check (L.beq l l') (k ((n,.d (.one (.ref t)) [.dp r])::F) (S.set id .dead))
    |_=>none)
  |_=>none)
 |none=>(match F.get n with
  | .ptr id 0=>aHa S id fun o=>(match o with
    | .cells _ vs=>k F (S.set id (.cells true vs))
    |_=>none)
  |_=>none)
def aBm:List (Nat×TypeId×Option L)→Fr→St→(Fr→St→Option A)→Option A
 |[],F,S,k=>k F S
 |(n,t,ol)::r,F,S,k=>aKX n t ol F S fun F S=>aBm r F S k
end
def bFH (i:Nat) (ids:List Nat):List Nat:=match ids.any (Nat.beq i)with |true=>ids |false=>ids++[i]
def aYv:List Nat→List Nat→List Nat
 |[],ids=>ids
 |i::r,ids=>aYv r (bFH i ids)
mutual
def bAJ:Sh→AV→List Nat
 | .ptr _ _,.ptr i _=>[i]
 | .whole _,.whole i _=>[i]
 | .sw _,.sw i _=>[i]
 | .map _,.map i=>[i]
 | .fn _ cs,.fn _ vs=>aUy cs vs
 | .agg cs,.agg vs=>aUy cs vs
 | .aTo _,.ptr i _=>[i]
 | .zL _,.zL i _ _ _=>[i]
 | .vE _,.vE i=>[i]
 |_,_=>[]
def aUy:List Sh→List AV→List Nat
 |s::ss,v::vs=>bAJ s v++aUy ss vs
 |_,_=>[]
end
def collect (S:St) (objs:List rN):Nat→Nat→List Nat→List Nat
 |0,_,ids=>ids
 |n+1,k,ids=>match objs[k]?,ids[k]? with
  |some (.cells _ ss),some i=>(match S[i]? with
   |some (.cells _ vs)=>collect S objs n (k+1) (aYv (aUy ss vs) ids)
   |_=>collect S objs n (k+1) ids)
  |some (.vE _ s),some i=>(match S[i]? with
   |some (.vE _ _ _ av)=>collect S objs n (k+1) (aYv (bAJ s av) ids)
   |_=>collect S objs n (k+1) ids)
  |_,_=>collect S objs n (k+1) ids
def bC6 (sh:Shape) (vs:List AV) (S:St):List Nat:=collect S sh.objs sh.objs.length 0 (aYv (aUy (sh.slots.map (·.2)) vs) (xE 0 sh.m))
def aP5 (sh:Shape) (vs:List AV) (S:St):Option (List PV):=
 let ids:=bC6 sh vs S
 match nodupB ids&&Shape.under ids.length sh&&aXd sh.m ids 0 with
 |true=>aUx S ids sh vs
 |false=>none
 where aXd:Nat→List Nat→Nat→Bool
 |0,_,_=>true
 |n+1,a::r,i=>Nat.beq a i&&aXd n r (i+1)
 |_+1,[],_=>false
def pack (sh:Shape) (F:Fr) (S:St):Option (List PV):=aP5 sh (sh.slots.map fun p=>F.get p.1) S
def unpack {A:Type} (sh:Shape) (ps:List PV) (k:Fr→St→Option A):Option A:=
 match mK sh.slots ps with
 |(F,r)=>k F (aJ1 sh.objs r)
def eB.beq:eB→eB→Bool
 | .normal,.normal=>true
 | .ret,.ret=>true
 | .exit a,.exit b=>Nat.beq a b
 |_,_=>false
def aD2 (e:eB) (F:Fr) (S:St):List (eB×Shape)→Nat→Option (Nat×List PV)
 |[],_=>none
 |(e',sh)::r,i=>match eB.beq e e' with
  |true=>(match pack sh F S with |some ps=>some (i,ps)|none=>none)
  |false=>aD2 e F S r (i+1)
def aZU {A:Type} (k:eB→Fr→St→Option A):List (eB×Shape)→Nat→List PV→Option A
 |[],_,_=>none
 |[(e,sh)],_,ps=>unpack sh ps (k e)
 |(e,sh)::r,i,ps=>match i with
  |0=>unpack sh ps (k e)
  |i+1=>aZU k r i ps
def aHb (body:Fr→St→(eB→Fr→St→Option (Nat×List PV))→Option (Nat×List PV)) (sh:Shape) (outs:List (eB×Shape)) (X:List PV→Option (Nat×List PV)) (ps:List PV):Option (Nat×List PV):=
 unpack sh ps fun F S=>body F S fun e F S=>match e with
  | .normal=>(match pack sh F S with |some ps'=>X ps' |none=>none)
  |e=>aD2 e F S outs 0
def aDi (step:(List PV→Option (Nat×List PV))→List PV→Option (Nat×List PV)):Nat→List PV→Option (Nat×List PV)
 |0,_=>none
 |n+1,ps=>step (aDi step n) ps
def wM {A:Type} (g:aSD) (F:Fr) (S:St) (k:Fr→St→Option A):Option A:=
 match g with
 | .lft n off e l=>(match off with
   |none=>(match F.get n with
    | .d (.one (.sl e')) [.bA]=>check (Nat.beq e e') (k ((n,.sw S.length 0)::F) (S++[.zA 0 e l .bA]))
    |_=>none)
   |some off=>(match F.get n with
    | .ptr id p=>aHa S id fun o=>(match o with
      | .cells c vs=>(match vs[p+off]? with
        |some (.d (.one (.sl e')) [.bA])=>check (Nat.beq e e') (k F ((S.set id (.cells c (vs.set (p+off) (.sw S.length 0))))++[.zA 0 e l .bA]))
        |_=>none)
      |_=>none)
    |_=>none))
 | .a9q n off e l=>(match F.get n with
   | .ptr id p=>aHa S id fun o=>(match o with
     | .cells c vs=>(match vs[p+off]? with
       |some (.d (.one (.sl e')) [.bA])=>check (Nat.beq e e') (k F ((S.set id (.cells c (vs.set (p+off) (.whole S.length 0))))++[.arr 0 l .bA]))
       |_=>none)
     |_=>none)
   |_=>none)
 | .a9r n e l=>aKX n e (some l) F S k
 | .a9s n l=>(match F.get n with
   | .whole id v=>aHa S id fun o=>vU o v fun l' c=>check (L.beq l l') (k ((n,.vE S.length)::F) (S.set id .dead++[.vE l c c.rows.length (.agg [])]))
   |_=>none)
 | .a9t n e l=>(match F.get n with
   | .vE id=>aHa S id fun o=>aP4 o fun l' c0 i av=>(match l',av with
     | .one (.sl e'),.whole id' v=>aHa S id' fun o'=>vU o' v fun l2 c=>check (Nat.beq e e'&&L.beq l l2&& !Nat.beq id' id)
         (aM7 c0 fun rows=>k ((n,.whole S.length 0)::F) ((S.set id' .dead).set id .dead++[.arr 0 l' (.sl (rows.set i [c]))]))
     |_,_=>none)
   |_=>none)
 | .a9u n=>(match F.get n with
   | .vE id=>aHa S id fun o=>aP4 o fun l c i _=>if c.rows.length≤i then k ((n,.whole S.length 0)::F) (S.set id .dead++[.arr 0 l c])else none
   |_=>none)
 | .frz n off e l=>(match F.get n with
   | .ptr id p=>aHa S id fun o=>(match o with
     | .cells c vs=>(match vs[p+off]? with
       |some (.whole i v)=>aHa S i fun o'=>vU o' v fun l' d=>check (L.beq l l'&& !Nat.beq i id) (k F ((S.set i .dead).set id (.cells c (vs.set (p+off) (.d (.one (.sl e)) [d])))))
       |_=>none)
     |_=>none)
   |_=>none)
def oM (E:Env):rB→{A:Type}→Fr→St→(eB→Fr→St→Option A)→Option A
 | .skip,_,F,S,k=>k .normal F S
 | .ghost g c,_,F,S,k=>wM g F S fun F S=>oM E c F S k
 | .post g c,_,F,S,k=>oM E c F S fun e F S=>match e with
   | .normal=>wM g F S (k .normal)
   |e=>k e F S
 | .region fz ops draw n,_,F,S,k=>aBm fz F S fun F S=>aIN E draw S.length ops [] F (S++List.replicate n .fresh) (k .normal)
 | .seq a b,_,F,S,k=>oM E a F S fun e F S=>match e with
   | .normal=>oM E b F S k
   |e=>k e F S
 | .cond c a b,_,F,S,k=>match c.ev F with
   | .d (.one .bool) r=>if (at_ r 0).rJ=true then oM E a F S k else oM E b F S k
   |_=>none
 | .block id c,_,F,S,k=>oM E c F S fun e F S=>match e with
   | .exit id'=>(match Nat.beq id' id with |true=>k .normal F S |false=>k (.exit id') F S)
   |e=>k e F S
 | .loop sh outs c,_,F,S,k=>match pack sh F S with
   |some ps=>(E.fix (aHb (fun F S k=>oM E c F S k) sh outs) ps).bind fun x=>aZU k outs x.1 x.2
   |none=>none
 | .join outs c,_,F,S,k=>(oM E c F S fun e F S=>aD2 e F S outs 0).bind fun x=>aZU k outs x.1 x.2
 | .exit id,_,F,S,k=>k (.exit id) F S
 | .ret,_,F,S,k=>k .ret F S
 | .bad,_,_,_,_=>none
structure oC where
 ps:List L
 rs:List L
 res:List (Bool×Nat×Option L)
 body:rB
 deriving Inhabited
def toD (S:St) (l:L) (ol:Option L) (v:AV):Option Row:=
 match v with
 | .d l' r=>match L.beq l l' with |true=>some (nrm l r)|false=>none
 | .sw id v=>(match AV.dat S (.sw id v)with | .d l' r=>(match L.beq l l' with |true=>some (nrm l r)|false=>none)|_=>none)
 | .agg vs=>(match AV.dat S (.agg vs)with | .d l' r=>(match L.beq l l' with |true=>some (nrm l r)|false=>none)|_=>none)
 | .whole id v=>(match ol with
   |some le=>(match S[id]? with
    |some (.arr v' l' c)=>(match Nat.beq v v'&&L.beq le l' with |true=>some [c]|false=>none)
    |_=>none)
   |none=>none)
 | .own id v off len=>(match ol with
   |some le=>(match S[id]? with
    |some (.arr v' l' c)=>(match Nat.beq v v'&&L.beq le l' with |true=>some [.sl ((c.rows.drop off).take len)]|false=>none)
    |_=>none)
   |none=>none)
 |_=>none
def aYw (F:Fr) (S:St):List L→List (Bool×Nat×Option L)→Option (List Row)
 |[],[]=>some []
 |l::ls,(cell,t,ol)::r=>
  match (match cell with
   |false=>toD S l ol (F.get t)
   |true=>match F.get t with
    | .ptr id 0=>(match S[id]? with
      |some (.var l' row)=>(match L.beq l l' with |true=>some row |false=>none)
      |some (.cells _ vs)=>(match l,vs with
       | .agg _,vs=>toD S l none (.agg vs)
       | .one _,[v]=>toD S l ol v
       |_,_=>none)
      |_=>none)
    |_=>none),aYw F S ls r with
  |some a,some b=>some (a::b)
  |_,_=>none
 |_,_=>none
def frame:List L→List Row→Nat→Fr
 |[],_,_=>[]
 |l::ls,rows,i=>(i,.d l (nrm l (rows.headD [])))::frame ls rows.tail (i+1)
def cD (E:Env) (f:oC) (rows:List Row):Option (List Row):=
 match Nat.beq rows.length f.ps.length with
 |true=>oM E f.body (frame f.ps rows 0) [] fun e F S=>match e with
  | .exit _=> .none
  |_=>aYw F S f.rs f.res
 |false=>none
inductive a2e where
 |tmp (t:Nat)|var (a:Nat) (l:L)|cells (a n:Nat)|a6l (a:Nat)
 deriving Inhabited
structure u6 where
 fn:Nat
 entry:Shape
 res:List a2e
 exit:Shape
 body:rB
 deriving Inhabited
def aRu (F:Fr) (S:St):a2e→Option AV
 | .tmp t=>some (F.get t)
 | .var a l=>(match F.get a with
   | .ptr id 0=>(match S[id]? with |some (.var l' row)=>(match L.beq l l' with |true=>some (.d l row)|false=>none)|_=>none)
   |_=>none)
 | .cells a n=>(match F.get a with
   | .ptr id 0=>(match S[id]? with |some (.cells _ vs)=>(match Nat.beq vs.length n with |true=>some (.agg vs)|false=>none)|_=>none)
   |_=>none)
 | .a6l a=>(match F.get a with
   | .ptr id 0=>(match S[id]? with |some (.cells _ [v])=>some v |_=>none)
   |_=>none)
def aOa (F:Fr) (S:St):List a2e→Option (List AV)
 |[]=>some []
 |x::r=>match aRu F S x,aOa F S r with
  |some a,some b=>some (a::b)
  |_,_=>none
def aB2 (E:Env) (f:u6) (ps:List PV):Option (List PV):=
 unpack f.entry ps fun F S=>oM E f.body F S fun e F S=>match e with
  | .exit _=> .none
  |_=>(aOa F S f.res).bind fun vs=>aP5 f.exit vs S
inductive yF where
 |none |cmp |ixb |fR (t:TypeId) (l:L) (row:Row)|code (f:oC)|imp (f:u6)|given (ps rs:List L) (f:List Row→Option (List Row))
def tC (T:Nat→yF):Nat→Env
 |0=>⟨fun _ _=> .none,fun _ _=> .none,fun _ _=> .none⟩
 |n+1=>
  ⟨fun f rows=>match T f with | .given _ _ g=>g rows | .code af=>cD (tC T n) af rows |_=> .none,
   fun f ps=>match T f with | .imp af=>aB2 (tC T n) af ps |_=> .none,fun step=>aDi step (n+1)⟩
end Go.Ev
