/-
  The abstract machine: data rows, objects, operations, code, and its evaluator (in continuation-passing form).
-/
import GoSem.Step
import Derived.Orders
set_option linter.all false
namespace Go.Ev
inductive K where
 |int (k:IntKind)|bool |str |sl (e:TypeId)|fn (t:TypeId)|ref (t:TypeId)|ifc
 deriving DecidableEq,Inhabited
inductive C where
 |undef |int (n:Int)|bool (b:Bool)|str (s:List UInt8)|fA |sl (rows:List (List C))|aLA
 |fn (f:Nat) (caps:List C)|dp (row:List C)|aPi |aUZ |anyI
 deriving Inhabited
abbrev Row:=List C
def C.vA:C→Int | .int n=>n |_=>0
def C.lK:C→Bool | .bool b=>b |_=>false
def C.mD:C→List UInt8 | .str s=>s |_=>[]
def C.rows:C→List Row | .sl r=>r |_=>[]
def C.cA:C→Row | .dp r=>r |_=>[]
def C.isNil:C→Bool | .fA=>true |_=>false
def C.aYe:C→Bool | .aLA=>true |_=>false
def C.jB:C→Bool | .dp _=>true |_=>false
def C.a11:C→Bool | .aPi=>true |_=>false
def C.a13:C→Bool | .aUZ=>true |_=>false
def at_ (r:Row) (i:Nat):C:=r.getD i .undef
def sub (r:Row) (off:Nat):Nat→Row
 |0=>[]
 |n+1=>at_ r off::sub r (off+1) n
def put (r:Row) (off m:Nat) (s:Row) (i:Nat):Nat→Row
 |0=>[]
 |n+1=>(match Nat.ble off i&&Nat.blt i (off+m)with |true=>at_ s (i - off)|false=>at_ r i)::put r off m s (i+1) n
inductive L where |one (k:K)|agg (ks:List K)
 deriving DecidableEq,Inhabited
def L.ks:L→List K | .one k=>[k]| .agg ks=>ks
def L.n (l:L):Nat:=l.ks.length
def IntKind.tag:IntKind→Nat | .i8=>0 | .i16=>1 | .i32=>2 | .i64=>3 | .u8=>4 | .u16=>5 | .u32=>6 | .u64=>7
def K.beq:K→K→Bool
 | .int a, .int b=>Nat.beq (IntKind.tag a) (IntKind.tag b)
 | .bool, .bool=>true
 | .str, .str=>true
 | .sl a, .sl b=>Nat.beq a b
 | .fn a, .fn b=>Nat.beq a b
 | .ref a, .ref b=>Nat.beq a b
 | .ifc, .ifc=>true
 |_,_=>false
def aB7:List K→List K→Bool
 |[],[]=>true
 |a::x,b::y=>K.beq a b&&aB7 x y
 |_,_=>false
def L.beq:L→L→Bool
 | .one a, .one b=>K.beq a b
 | .agg a, .agg b=>aB7 a b
 |_,_=>false
inductive AV where
 |undef
 |und
 |d (l:L) (row:Row)
 |ptr (id off:Nat)
 |uL (id nO idx off:Nat)
 |whole (id nO:Nat)
 |own (id nO off len:Nat)
 |fn (f:Nat) (caps:List AV)
 |tup (vs:List AV)
 |map (id:Nat)
 |sw (id nO:Nat)
 |agg (vs:List AV)
 |dF (id:Nat)
 |aFf (id idx:Nat)
 deriving Inhabited
def AV.single:AV→Bool
 | .d (.one _) _=>true
 | .ptr .. =>true
 | .uL .. =>true
 | .whole .. =>true
 | .own .. =>true
 | .fn .. =>true
 | .map .. =>true
 | .sw .. =>true
 | .dF .. =>true
 | .aFf .. =>true
 |_=>false
inductive Obj where
 |fresh
 |dead
 |var (l:L) (row:Row)
 |cells (const:Bool) (vs:List AV)
 |arr (nO:Nat) (l:L) (c:C)
 |map (kl vl:L) (es:List (Row×Row))
 |uA (nO:Nat) (e:TypeId) (l:L) (c:C)
 |dF (l:L) (c:C) (i:Nat) (av:AV)
 deriving Inhabited
def Obj.cst:Obj→Bool | .cells true _=>true |_=>false
abbrev St:=List Obj
def aKh (S:St) (i:Nat):Bool:=match S[i]? with |some o=>o.cst |none=>false
abbrev Fr:=List (Nat×AV)
def Fr.get:Fr→Nat→AV
 |[],_=> .undef
 |(n,v)::r,t=>match Nat.beq n t with |true=>v |false=>Fr.get r t
inductive zC where
 |t (n:Nat)
 |c (l:L) (row:Row)
def zC.ev (F:Fr):zC→AV
 | .t n=>F.get n
 | .c l r=> .d l r
mutual
def AV.dat (S:St):AV→AV
 | .sw id nO=>match S[id]? with
   |some (.uA v e _ c)=>(match Nat.beq nO v with |true=> .d (.one (.sl e)) [c]|false=> .sw id nO)
   |_=> .sw id nO
 | .agg vs=>match AV.aHz S vs with
   |some (ks,row)=> .d (.agg ks) row
   |none=> .agg vs
 |v=>v
def AV.aHz (S:St):List AV→Option (List K×Row)
 |[]=>some ([],[])
 |v::vs=>match AV.dat S v,AV.aHz S vs with
  | .d (.one k) r,some (ks,row)=>some (k::ks,at_ r 0::row)
  |_,_=>none
end
mutual
def AV.aMV:AV→List Nat
 | .sw id _=>[id]
 | .agg vs=>AV.aAZ vs
 | .fn _ vs=>AV.aAZ vs
 |_=>[]
def AV.aAZ:List AV→List Nat
 |[]=>[]
 |v::vs=>AV.aMV v++AV.aAZ vs
end
def zC.uI (F:Fr) (S:St) (x:zC):AV:=(x.ev F).dat S
inductive Sh where
 |d (l:L)
 |ptr (id off:Nat)
 |whole (id:Nat)
 |fn (f:Nat) (caps:List Sh)
 |map (id:Nat)
 |sw (id:Nat)
 |agg (cs:List Sh)
 |aOr (id:Nat)
 |uL (id:Nat)
 |dF (id:Nat)
 deriving Inhabited
inductive vO where
 |var (l:L)|cells (const:Bool) (vs:List Sh)|arr (l:L)|map (kl vl:L)|uA (e:TypeId) (l:L)|dF (l:L) (s:Sh)
 deriving Inhabited
structure Shape where
 slots:List (Nat×Sh)
 objs:List vO
 m:Nat:=0
 deriving Inhabited
inductive AOp where
 |mov (x:zC)
 |eC (x:zC)
 |cvS (x:zC)
 |a14 (id:Nat) (l:L)
 |aQC (id:Nat) (e:TypeId) (l:L)
 |pick (c a b:zC)
 |tB (op:BinOp) (x y:zC)
 |idiv (op:BinOp) (x y:zC)
 |shf (op:BinOp) (x y:zC)
 |dA (op:BinOp) (x y:zC)
 |aU0 (x y:zC)
 |aEK (op:BinOp) (x y:zC)
 |a4D (neg:Bool) (x y:zC)
 |aeq (neg:Bool) (l:L) (x y:zC)
 |aYf (neg:Bool) (x:zC)
 |not (x:zC)
 |aSp (x:zC)
 |aW8 (x:zC)
 |i2i (k:IntKind) (x:zC)
 |s2b (e:TypeId) (x:zC)
 |b2s (e:TypeId) (x:zC)
 |vL (l:L) (t:TypeId) (x:zC)
 |a15 (id:Nat) (l:L) (x:zC)
 |a16 (id:Nat) (x:zC)
 |oB (id:Nat) (l:L) (z:Row)
 |aU1 (id:Nat)
 |ld (l:L) (t:TypeId) (x:zC)
 |n3 (x:zC)
 |st (l:L) (x v:zC)
 |stC (x v:zC)
 |xA (off:Nat) (n:Nat) (t u:TypeId) (x:zC)
 |fld (off:Nat) (l:L) (x:zC)
 |bld (l:L) (z:Row) (parts:List (Nat×Nat×zC))
 |bsl (e:TypeId) (l:L) (n:Nat) (z:Row) (parts:List (Nat×zC))
 |bslO (id:Nat) (e:TypeId) (l:L) (n:Nat) (z:Row) (parts:List (Nat×zC))
 |bslS (id:Nat) (e:TypeId) (l:L) (n:Nat) (z:Row) (parts:List (Nat×zC))
 |iad (e:TypeId) (l:L) (x i:zC)
 |qF (m:Nat) (t e:TypeId) (l:L) (x i:zC)
 |aB2 (x i:zC)
 |aSq (m:Nat) (l:L) (x i:zC)
 |aB3 (x:zC)
 |gE (x:zC)
 |imin (mx:Bool) (xs:List zC)
 |app (id:Nat) (e:TypeId) (l:L) (bytes:Nat) (x y:zC)
 |eU (id:Nat) (e:TypeId) (l:L) (bytes:Nat) (x y:zC)
 |aPj (id:Nat) (e:TypeId) (x y:zC)
 |mk (id:Nat) (e:TypeId) (l:L) (z:Row) (bytes:Nat) (n c:zC)
 |mkS (id:Nat) (e:TypeId) (l:L) (z:Row) (bytes:Nat) (n c:zC)
 |slc (e:TypeId) (l:L) (x:zC) (lo hi:Option zC)
 |slcS (x:zC) (lo hi:Option zC)
 |call (f:Nat) (ps rs:List L) (args:List zC)
 |callv (t:TypeId) (ps rs:List L) (x:zC) (args:List zC)
 |aW9 (f:Nat) (x y:zC)
 |aXa (f:Nat) (x y:zC)
 |bad
 |nB (i f:Nat) (en ex:Shape) (ids:List Nat) (new:Nat) (x:Option zC) (args:List zC)
 |mkf (f:Nat) (t:TypeId) (ks:List K) (caps:List zC)
 |mkfO (f:Nat) (caps:List zC)
 |ext (i:Nat) (x:zC)
 |mkm (id:Nat) (kl vl:L)
 |lk (kl vl:L) (z:Row) (x key:zC) (ok:Bool)
 |mup (kl:L) (x key v:zC)
 |ent (kl vl:L) (z:Row) (x key:zC)
 |est (x s v:zC)
 |aSr (m:Nat) (t e:TypeId) (l:L) (x lo:zC)
 |a17 (e:TypeId) (l:L) (x lo hi mx:zC)
 |a18 (e:TypeId) (l:L) (x y:zC)
 |clr (e:TypeId) (l:L) (z:Row) (x:zC)
 |a19 (x:zC)
 |ldH (h:Bool) (l:L) (x:zC)
 |stH (x v:zC)
 |stF (l:L) (x v:zC)
 |a2a (x:zC)
 |aU2 (id:Nat) (x:zC)
 |aHA (id:Nat) (zs:List (Option (K×C)))
 |ldA (n:Nat) (x:zC)
 |stA (n:Nat) (x v:zC)
 |a4E (off n:Nat) (x:zC)
 |bldA (zs:List (Option (K×C))) (parts:List (Nat×Nat×zC))
 |aTv (m n:Nat) (x i:zC)
 |aU3 (neg:Bool) (x:zC)
 |a1p (neg:Bool) (x:zC)
 |a4F
mutual
def Sh.beq:Sh→Sh→Bool
 | .d a, .d b=>L.beq a b
 | .ptr i o, .ptr i' o'=>Nat.beq i i'&&Nat.beq o o'
 | .whole i, .whole j=>Nat.beq i j
 | .fn f cs, .fn f' cs'=>Nat.beq f f'&&Sh.aKF cs cs'
 | .map i, .map j=>Nat.beq i j
 | .sw i, .sw j=>Nat.beq i j
 | .agg cs, .agg cs'=>Sh.aKF cs cs'
 | .aOr i, .aOr j=>Nat.beq i j
 | .uL i, .uL j=>Nat.beq i j
 | .dF i, .dF j=>Nat.beq i j
 |_,_=>false
def Sh.aKF:List Sh→List Sh→Bool
 |[],[]=>true
 |a::r,b::r'=>Sh.beq a b&&Sh.aKF r r'
 |_,_=>false
end
def vO.beq:vO→vO→Bool
 | .var a, .var b=>L.beq a b
 | .cells c vs, .cells c' vs'=>(match c with |true=>c' |false=> !c')&&Sh.aKF vs vs'
 | .arr a, .arr b=>L.beq a b
 | .map a b, .map a' b'=>L.beq a a'&&L.beq b b'
 | .uA e l, .uA e' l'=>Nat.beq e e'&&L.beq l l'
 | .dF l s, .dF l' s'=>L.beq l l'&&Sh.beq s s'
 |_,_=>false
def vO.aKF:List vO→List vO→Bool
 |[],[]=>true
 |a::r,b::r'=>vO.beq a b&&vO.aKF r r'
 |_,_=>false
def aGK:List (Nat×Sh)→List (Nat×Sh)→Bool
 |[],[]=>true
 |(n,a)::r,(m,b)::r'=>Nat.beq n m&&Sh.beq a b&&aGK r r'
 |_,_=>false
def Shape.beq (a b:Shape):Bool:=aGK a.slots b.slots&&vO.aKF a.objs b.objs&&Nat.beq a.m b.m
structure fN where
 dst:Option Nat
 op:AOp
 guard:Option (Nat×Bool)
 bef:List Nat:=[]
inductive mB where |normal |exit (id:Nat)|ret
 deriving DecidableEq,Inhabited
inductive aRq where
 |lft (n:Nat) (off:Option Nat) (e:TypeId) (l:L)
 |frz (n off:Nat) (e:TypeId) (l:L)
 |a0q (n off:Nat) (e:TypeId) (l:L)
 |a0r (n:Nat) (e:TypeId) (l:L)
 |a0s (n:Nat) (l:L)
 |a0t (n:Nat) (e:TypeId) (l:L)
 |a0u (n:Nat)
 deriving Inhabited
inductive zB where
 |skip
 |ghost (g:aRq) (c:zB)
 |post (g:aRq) (c:zB)
 |region (fz:List (Nat×TypeId×Option L)) (ops:List fN) (draw:Bool) (bBh:Nat)
 |seq (a b:zB)
 |cond (c:zC) (a b:zB)
 |block (id:Nat) (c:zB)
 |loop (sh:Shape) (outs:List (mB×Shape)) (c:zB)
 |join (outs:List (mB×Shape)) (c:zB)
 |exit (id:Nat)
 |ret
 |bad
 deriving Inhabited
def nrm:L→Row→Row
 | .one (.int _),r=>[.int (at_ r 0).vA]
 | .one .bool,r=>[.bool (at_ r 0).lK]
 | .one .str,r=>[.str (at_ r 0).mD]
 | .one _,r=>[at_ r 0]
 | .agg _,r=>r
inductive PV where
 |r (row:Row)
 |m (es:List (Row×Row))
 deriving Inhabited
def PV.row:PV→Row | .r row=>row |_=>[]
def PV.es:PV→List (Row×Row)| .m es=>es |_=>[]
structure Env where
 pc:Nat→List Row→Option (List Row)
 ic:Nat→List PV→Option (List PV)
 fix:((List PV→Option (Nat×List PV))→List PV→Option (Nat×List PV))→List PV→Option (Nat×List PV)
section
variable {A:Type}
def asI (v:AV) (k:IntKind→Int→Option A):Option A:=
 match v with | .d (.one (.int kd)) r=>k kd (at_ r 0).vA |_=>none
def asB (v:AV) (k:Bool→Option A):Option A:=
 match v with | .d (.one .bool) r=>k (at_ r 0).lK |_=>none
def asS (v:AV) (k:List UInt8→Option A):Option A:=
 match v with | .d (.one .str) r=>k (at_ r 0).mD |_=>none
def aU4 (v:AV) (k:TypeId→C→Option A):Option A:=
 match v with | .d (.one (.sl e)) r=>k e (at_ r 0)|_=>none
def asD (v:AV) (k:L→Row→Option A):Option A:=
 match v with | .d l r=>k l r |_=>none
def check (b:Bool) (k:Option A):Option A:=match b with |true=>k |false=>none
def aEL (S:St) (id:Nat) (k:Obj→Option A):Option A:=match S[id]? with |some o=>k o |none=>none
end
abbrev vI (k:IntKind) (n:Int):AV:= .d (.one (.int k)) [.int n]
abbrev vB (b:Bool):AV:= .d (.one .bool) [.bool b]
abbrev vS (s:List UInt8):AV:= .d (.one .str) [.str s]
def ceq:List K→Row→Row→Bool
 |[],_,_=>true
 | .int _::ks,x,y=>((at_ x 0).vA==(at_ y 0).vA)&&ceq ks (x.drop 1) (y.drop 1)
 | .bool::ks,x,y=>((at_ x 0).lK==(at_ y 0).lK)&&ceq ks (x.drop 1) (y.drop 1)
 | .str::ks,x,y=>((at_ x 0).mD==(at_ y 0).mD)&&ceq ks (x.drop 1) (y.drop 1)
 |_::_,_,_=>false
def bitsOf (op:BinOp) (k:IntKind) (x y:Int):Int:=
 let a:=BitVec.ofInt k.bits x
 let b:=BitVec.ofInt k.bits y
 k.wrap ((match op with | .and=>a&&&b | .or=>a |||b | .xor=>a^^^b |_=>a&&&~~~b).toNat)
def sI (kl:L) (key:Row):List (Row×Row)→Option Row
 |[]=>none
 |(k,v)::r=>if ceq kl.ks key k then some v else sI kl key r
def tQ (kl:L) (key v:Row):List (Row×Row)→List (Row×Row)
 |[]=>[(key,v)]
 |(k,u)::r=>if ceq kl.ks key k then (k,v)::r else (k,u)::tQ kl key v r
def aLC (kl:L) (key:Row):List (Row×Row)→Nat
 |[]=>0
 |(k,_)::r=>if ceq kl.ks key k then 0 else aLC kl key r+1
def yD (b:UInt8):Row:=[.int b.toNat]
def bytesOf (rows:List Row):List UInt8:=rows.map fun r=>UInt8.ofNat ((at_ r 0).vA.toNat)
def pE (c:C) (new:List Row):C:=match c,new with | .fA,[]=> .fA |_,_=> .sl (c.rows++new)
def aKG (c:C) (a b:Int):C:=match c with | .fA=> .fA |c=> .sl ((c.rows.take b.toNat).drop a.toNat)
def aKj (E:Env) (c:C) (rows:List Row):Option (List Row):=match c with
 | .fn f cs=>E.pc f (rows++cs.map fun c=>[c])
 |_=>none
def aA (rows:List Row) (i:Nat):Row:=rows.getD i []
section
variable {A:Type} (E:Env) (F:Fr) (S:St)
def rowsOf:List L→List zC→(List Row→Option A)→Option A
 |[],[],k=>k []
 |l::ls,x::xs,k=>asD (x.uI F S) fun l' r=>check (L.beq l l') (rowsOf ls xs fun rs=>k (r::rs))
 |_,_,_=>none
def aPl:List L→List Row→Nat→List AV
 |[],_,_=>[]
 |l::ls,rs,i=> .d l (nrm l (aA rs i))::aPl ls rs (i+1)
def aTw (rs:List L) (rows:List Row):AV:=match rs with
 |[l]=> .d l (nrm l (aA rows 0))
 |_=> .tup (aPl rs rows 0)
def aFQ (mx:Bool) (k:IntKind):List zC→Int→(Int→Option A)→Option A
 |[],m,c=>c m
 |x::xs,m,c=>asI (x.uI F S) fun k' n=>check (Nat.beq (IntKind.tag k) (IntKind.tag k')) (aFQ mx k xs (match mx with |true=>(if n>m then n else m)|false=>(if n<m then n else m)) c)
def uU (ks:List K):List (Nat×Nat×zC)→Row→(Row→Option A)→Option A
 |[],z,k=>k z
 |(off,m,x)::r,z,k=>asD (x.uI F S) fun l row=>check (Nat.beq l.n m&&Nat.blt 0 m&&aB7 l.ks ((ks.drop off).take m)) (uU ks r (put z off m row 0 ks.length) k)
def fU (l:L):List (Nat×zC)→List Row→(List Row→Option A)→Option A
 |[],z,k=>k z
 |(i,x)::r,z,k=>asD (x.uI F S) fun l' row=>check (L.beq l l') (fU l r (z.set i row) k)
def bnd (x:Option zC) (dflt:Int) (k:Int→Option A):Option A:=
 match x with |none=>k dflt |some x=>asI (x.uI F S) fun _ n=>k n
def j4:List K→List zC→(Row→Option A)→Option A
 |[],[],k=>k []
 |kd::ks,x::xs,k=>asD (x.uI F S) fun l r=>check (L.beq (.one kd) l) (j4 ks xs fun row=>k (at_ r 0::row))
 |_,_,_=>none
def mG:AV→Option Nat
 | .ptr id _=>some id
 | .uL id _ _ _=>some id
 | .whole id _=>some id
 | .own id _ _ _=>some id
 | .map id=>some id
 | .sw id _=>some id
 | .dF id=>some id
 | .aFf id _=>some id
 |_=>none
def tgt (op:AOp) (base:Nat):Option Nat:=
 match op with
 | .a14 id _=>some (base+id)
 | .aQC id _ _=>some (base+id)
 | .bslS id _ _ _ _ _=>some (base+id)
 | .bslO id _ _ _ _ _=>some (base+id)
 | .mkS id _ _ _ _ _ _=>some (base+id)
 | .aU2 id _=>some (base+id)
 | .aHA id _=>some (base+id)
 | .ldA _ x=>mG (x.ev F)
 | .stA _ x _=>mG (x.ev F)
 | .aTv _ _ x _=>mG (x.ev F)
 | .eU id _ _ _ x _=>(match mG (x.ev F)with |some i=>some i |none=>some (base+id))
 | .a15 id _ _=>some (base+id)
 | .a16 id _=>some (base+id)
 | .oB id _ _=>some (base+id)
 | .aU1 id=>some (base+id)
 | .mk id _ _ _ _ _ _=>some (base+id)
 | .mkm id _ _=>some (base+id)
 | .aYf _ x=>mG (x.ev F)
 | .eC x=>mG (x.ev F)
 | .aU3 _ x=>mG (x.ev F)
 | .b2s _ x=>mG (x.ev F)
 | .ld _ _ x=>mG (x.ev F)
 | .n3 x=>mG (x.ev F)
 | .st _ x _=>mG (x.ev F)
 | .stC x _=>mG (x.ev F)
 | .iad _ _ x _=>mG (x.ev F)
 | .xA _ _ _ _ x=>mG (x.ev F)
 | .qF _ _ _ _ x _=>mG (x.ev F)
 | .gE x=>mG (x.ev F)
 | .slc _ _ x _ _=>mG (x.ev F)
 | .app id _ _ _ x _=>(match mG (x.ev F)with |some i=>some i |none=>some (base+id))
 | .aPj id _ x _=>(match mG (x.ev F)with |some i=>some i |none=>some (base+id))
 | .lk _ _ _ x _ _=>mG (x.ev F)
 | .mup _ x _ _=>mG (x.ev F)
 | .ent _ _ _ x _=>mG (x.ev F)
 | .est x _ _=>mG (x.ev F)
 | .a17 _ _ x _ _ _=>mG (x.ev F)
 | .a18 _ _ x _=>mG (x.ev F)
 | .clr _ _ _ x=>mG (x.ev F)
 | .a19 x=>mG (x.ev F)
 | .ldH _ _ x=>mG (x.ev F)
 | .stH x _=>mG (x.ev F)
 | .stF _ x _=>mG (x.ev F)
 | .a2a x=>mG (x.ev F)
 |_=>none
def cellsOf:List K→Row→Nat→List AV
 |[],_,_=>[]
 |k::ks,r,i=> .d (.one k) (nrm (.one k) [at_ r i])::cellsOf ks r (i+1)
def aA0:AV→Option (List AV)
 | .agg vs=>some vs
 | .d l r=>some (cellsOf l.ks r 0)
 |v=>match AV.single v with |true=>some [v]|false=>none
def zsV:List (Option (K×C))→List AV
 |[]=>[]
 |some (k,c)::r=> .d (.one k) [c]::zsV r
 |none::r=> .undef::zsV r
def aU6 (off:Nat) (vs cs:List AV):List AV:=cs.take off++vs++cs.drop (off+vs.length)
def aKk:List (Nat×Nat×zC)→List AV→(List AV→Option A)→Option A
 |[],z,k=>k z
 |(off,m,x)::r,z,k=>match aA0 (x.ev F)with
  |some vs=>check (Nat.beq vs.length m&&Nat.ble (off+m) z.length) (aKk r (aU6 off vs z) k)
  |none=>none
def aI9 (n:Int):Nat→Nat→(Nat→Option A)→Option A
 |_,0,_=>none
 |i,m+1,k=>if n=(i:Int)then k i else aI9 n (i+1) m k
def sQ (o:Obj) (v:Nat) (k:L→C→Option A):Option A:=
 match o with | .arr v' l c=>check (Nat.beq v v') (k l c)|_=>none
def aKl (o:Obj) (k:Option A):Option A:=match o with | .var .. =>k | .cells .. =>k |_=>none
def zD (o:Obj) (k:Option A):Option A:=match o with | .fresh=>k |_=>none
def aDE (c:C) (k:List Row→Option A):Option A:=match c with | .sl rows=>k rows |_=>none
def aKH (o:Obj) (v:Nat) (k:TypeId→L→C→Option A):Option A:=
 match o with | .uA v' e l c=>check (Nat.beq v v') (k e l c)|_=>none
def aIK (o:Obj) (k:L→C→Nat→AV→Option A):Option A:=match o with | .dF l c i av=>k l c i av |_=>none
def aKm (o:Obj) (k:L→L→List (Row×Row)→Option A):Option A:=match o with | .map a b es=>k a b es |_=>none
def part (l l':L) (off:Nat) (r:Row) (k:Row→Option A):Option A:=
 match Nat.beq off 0&&L.beq l l' with
 |true=>k (nrm l r)
 |false=>check (aB7 l.ks ((l'.ks.drop off).take l.n)) (k (nrm l (sub r off l.n)))
def aA1 (l l':L) (off:Nat) (r row:Row) (k:Row→Option A):Option A:=
 match Nat.beq off 0&&L.beq l l' with
 |true=>k row
 |false=>check (aB7 l.ks ((l'.ks.drop off).take l.n)) (k (put r off l.n row 0 l'.n))
def arith (op:BinOp) (kd:IntKind) (a b:Int) (k:Int→Option A):Option A:=
 match op with
 | .add=>k (kd.wrap (a+b))
 | .sub=>k (kd.wrap (a - b))
 | .mul=>k (kd.wrap (a*b))
 | .and=>k (bitsOf .and kd a b)
 | .or=>k (bitsOf .or kd a b)
 | .xor=>k (bitsOf .xor kd a b)
 | .andNot=>k (bitsOf .andNot kd a b)
 |_=>none
def aRr (op:BinOp) (a b:Int) (k:Bool→Option A):Option A:=
 match op with
 | .eql=>k (a==b)
 | .neq=>k (a !=b)
 | .lss=>k (decide (a<b))
 | .leq=>k (decide (a≤b))
 | .gtr=>k (decide (a>b))
 | .geq=>k (decide (a≥b))
 |_=>none
def aRs (op:BinOp) (a b:List UInt8) (k:Bool→Option A):Option A:=
 match op with
 | .eql=>k (a==b)
 | .neq=>k (!(a==b))
 | .lss=>k (Op.bytesLess a b)
 | .leq=>k (Op.bytesLess a b ||a==b)
 | .gtr=>k (!(Op.bytesLess a b ||a==b))
 | .geq=>k (!Op.bytesLess a b)
 |_=>none
def aSs:Bool→Bool→Bool |true,b=> !b |false,b=>b
def aJa:List UInt8→UInt8→Int
 |[],_=> -1
 |b::l,c=>if b==c then 0 else if aJa l c== -1 then -1 else aJa l c+1
def oF:List UInt8→List UInt8→Int
 |[],[]=>0
 |[],_::_=> -1
 |_::_,[]=>1
 |a::x,b::y=>if a<b then -1 else if b<a then 1 else oF x y
def bH (o:Obj) (op:AOp) (base:Nat) (k:AV→Option Obj→Option A):Option A:=
 match op with
 | .mov x=>k (x.ev F) none
 | .eC x=>match x.ev F with
   | .d (.one (.fn t)) r=>if (at_ r 0).aYe=false then k (.d (.one (.fn t)) r) none else none
   | .d (.one (.ref t)) r=>if (at_ r 0).jB=true then k (.d (.one (.ref t)) r) none else none
   | .fn f caps=>k (.fn f caps) none
   | .ptr id off=>aKl o (k (.ptr id off) none)
   | .uL id v i off=>sQ o v fun _ _=>k (.uL id v i off) none
   |_=>none
 | .cvS x=>asS (x.uI F S) fun s=>k (vS s) none
 | .a14 id l=>zD o (k (.whole (base+id) 0) (some (.arr 0 l .fA)))
 | .aQC id e l=>zD o (k (.sw (base+id) 0) (some (.uA 0 e l .fA)))
 | .pick c a b=>asB (c.uI F S) fun t=>if t=true then k (a.ev F) none else k (b.ev F) none
 | .tB op x y=>asI (x.uI F S) fun kd a=>asI (y.uI F S) fun kd' b=>check (Nat.beq (IntKind.tag kd) (IntKind.tag kd')) (arith op kd a b fun n=>k (vI kd n) none)
 | .idiv op x y=>asI (x.uI F S) fun kd a=>asI (y.uI F S) fun kd' b=>check (Nat.beq (IntKind.tag kd) (IntKind.tag kd')) (if b=0 then none else match op with
   | .quo=>k (vI kd (kd.wrap (a.tdiv b))) none
   | .rem=>k (vI kd (a.tmod b)) none
   |_=>none)
 | .shf op x y=>asI (x.uI F S) fun kd a=>asI (y.uI F S) fun _ b=>if b<0 then none else match op with
   | .shl=>k (vI kd (kd.wrap (a*2^(min b.toNat kd.bits)))) none
   | .shr=>k (vI kd (a.fdiv (2^(min b.toNat kd.bits)))) none
   |_=>none
 | .dA op x y=>asI (x.uI F S) fun kd a=>asI (y.uI F S) fun kd' b=>check (Nat.beq (IntKind.tag kd) (IntKind.tag kd')) (aRr op a b fun t=>k (vB t) none)
 | .aU0 x y=>asS (x.uI F S) fun a=>asS (y.uI F S) fun b=>if a.length+b.length≤1099511627776 then k (vS (a++b)) none else none
 | .aEK op x y=>asS (x.uI F S) fun a=>asS (y.uI F S) fun b=>aRs op a b fun t=>k (vB t) none
 | .bad=>none
 | .aW9 _ x y=>asS (x.uI F S) fun a=>asI (y.uI F S) fun kd n=>check (Nat.beq (IntKind.tag kd) 4) (k (vI .i64 (aJa a n.toNat.toUInt8)) none)
 | .aXa _ x y=>asS (x.uI F S) fun a=>asS (y.uI F S) fun b=>k (vI .i64 (oF a b)) none
 | .a4D neg x y=>asB (x.uI F S) fun a=>asB (y.uI F S) fun b=>k (vB (aSs neg (a==b))) none
 | .aeq neg l x y=>asD (x.uI F S) fun l1 a=>asD (y.uI F S) fun l2 b=>check (L.beq l l1&&L.beq l l2) (k (vB (aSs neg (ceq l.ks a b))) none)
 | .aYf neg x=>match x.uI F S with
   | .d (.one (.sl _)) r=>k (vB (aSs neg (at_ r 0).isNil)) none
   | .whole _ v=>sQ o v fun _ c=>k (vB (aSs neg c.isNil)) none
   |_=>none
 | .not x=>asB (x.uI F S) fun a=>k (vB (!a)) none
 | .aSp x=>asI (x.uI F S) fun kd a=>k (vI kd (kd.wrap (0 - a))) none
 | .aW8 x=>asI (x.uI F S) fun kd a=>k (vI kd (bitsOf .xor kd (if kd.signed then -1 else kd.max) a)) none
 | .i2i kd x=>asI (x.uI F S) fun _ a=>k (vI kd (kd.wrap a)) none
 | .s2b e x=>asS (x.uI F S) fun s=>k (.d (.one (.sl e)) [.sl (s.map yD)]) none
 | .b2s e x=>match x.uI F S with
   | .d (.one (.sl e')) r=>check (Nat.beq e e') (k (vS (bytesOf (at_ r 0).rows)) none)
   | .whole _ v=>sQ o v fun l' c=>check (L.beq (.one (.int .u8)) l') (k (vS (bytesOf c.rows)) none)
   |_=>none
 | .vL l t x=>asD (x.uI F S) fun l' r=>check (L.beq l l') (k (.d (.one (.ref t)) [.dp r]) none)
 | .a15 id l x=>zD o (asD (x.uI F S) fun l' r=>check (L.beq l l') (k (.ptr (base+id) 0) (some (.var l r))))
 | .a16 id x=>zD o (check (AV.single (x.ev F)) (k (.ptr (base+id) 0) (some (.cells false [x.ev F]))))
 | .oB id l z=>zD o (k (.ptr (base+id) 0) (some (.var l z)))
 | .aU1 id=>zD o (k (.ptr (base+id) 0) (some (.cells false [.undef])))
 | .ld l t x=>match x.ev F with
   | .d (.one (.ref t')) r=>check (Nat.beq t t') (if (at_ r 0).jB=true then k (.d l (nrm l (at_ r 0).cA)) none else none)
   | .ptr _ off=>(match o with
     | .var l' r=>part l l' off r fun row=>k (.d l row) none
     |_=>none)
   | .uL _ nO idx off=>sQ o nO fun l' c=>if idx<c.rows.length then part l l' off (aA c.rows idx) fun row=>k (.d l row) none else none
   |_=>none
 | .st l x v=>match x.ev F with
   | .ptr _ off=>(match o with
     | .var l' r=>asD (v.uI F S) fun lv row=>check (L.beq l lv) (aA1 l l' off r row fun r'=>k .und (some (.var l' r')))
     |_=>none)
   | .uL _ nO idx off=>sQ o nO fun l' c=>asD (v.uI F S) fun lv row=>check (L.beq l lv) (if idx<c.rows.length then aA1 l l' off (aA c.rows idx) row fun r'=>k .und (some (.arr nO l' (.sl (c.rows.set idx r'))))else none)
   |_=>none
 | .n3 x=>match x.ev F with
   | .ptr _ off=>(match o with
     | .cells _ vs=>(match vs[off]? with |some v=>k v none |none=>none)
     |_=>none)
   |_=>none
 | .stC x v=>match x.ev F with
   | .ptr _ off=>(match o with
     | .cells false vs=>check (Nat.blt off vs.length&&AV.single (v.ev F)) (k .und (some (.cells false (vs.set off (v.ev F)))))
     |_=>none)
   |_=>none
 | .xA off n t u x=>match x.ev F with
   | .d (.one (.ref t')) r=>check (Nat.beq t t') (if (at_ r 0).jB=true then k (.d (.one (.ref u)) [.dp (sub (at_ r 0).cA off n)]) none else none)
   | .ptr id p=>aKl o (k (.ptr id (p+off)) none)
   | .uL id v i p=>sQ o v fun _ _=>k (.uL id v i (p+off)) none
   |_=>none
 | .fld off l x=>(match x.uI F S with
   | .d (.agg ks') r=>check (aB7 l.ks ((ks'.drop off).take l.n)) (k (.d l (nrm l (sub r off l.n))) none)
   |_=>none)
 | .bld l z parts=>uU F S l.ks parts z fun row=>k (.d l row) none
 | .bsl e l n z parts=>fU F S l parts (List.replicate n z) fun rows=>k (.d (.one (.sl e)) [.sl rows]) none
 | .bslO id e l n z parts=>zD o (fU F S l parts (List.replicate n z) fun rows=>k (.whole (base+id) 0) (some (.arr 0 l (.sl rows))))
 | .bslS id e l n z parts=>zD o (fU F S l parts (List.replicate n z) fun rows=>k (.sw (base+id) 0) (some (.uA 0 e l (.sl rows))))
 | .iad e l x i=>asI (i.uI F S) fun _ n=>match x.uI F S with
   | .d (.one (.sl e')) r=>check (Nat.beq e e') (if 0≤n∧n<((at_ r 0).rows.length:Int)then k (.d (.one (.ref e)) [.dp (aA (at_ r 0).rows n.toNat)]) none else none)
   | .whole id v=>sQ o v fun l' c=>check (L.beq l l') (if 0≤n∧n<(c.rows.length:Int)then k (.uL id v n.toNat 0) none else none)
   | .own id v off len=>sQ o v fun l' _=>check (L.beq l l') (if 0≤n∧n<(len:Int)then k (.uL id v (off+n.toNat) 0) none else none)
   | .dF id=>aIK o fun l' c _ _=>check (L.beq l l') (if 0≤n∧n<(c.rows.length:Int)then k (.aFf id n.toNat) none else none)
   |_=>none
 | .qF m t e l x i=>asI (i.uI F S) fun _ n=>match x.ev F with
   | .d (.one (.ref t')) r=>check (Nat.beq t t') (if 0≤n∧n<(m:Int)∧(at_ r 0).jB=true then k (.d (.one (.ref e)) [.dp (sub (at_ r 0).cA (n.toNat*l.n) l.n)]) none else none)
   | .ptr id p=>aKl o (if 0≤n∧n<(m:Int)then k (.ptr id (p+n.toNat*l.n)) none else none)
   | .uL id v j p=>sQ o v fun _ _=>if 0≤n∧n<(m:Int)then k (.uL id v j (p+n.toNat*l.n)) none else none
   |_=>none
 | .aB2 x i=>asI (i.uI F S) fun _ n=>asS (x.uI F S) fun s=>if 0≤n∧n<(s.length:Int)then k (vI .u8 (s.getD n.toNat 0).toNat) none else none
 | .aSq m l x i=>asI (i.uI F S) fun _ n=>(match x.uI F S with
   | .d (.agg ks') r=>check (aB7 ks' (List.replicate m l.ks).flatten) (if 0≤n∧n<(m:Int)then k (.d l (nrm l (sub r (n.toNat*l.n) l.n))) none else none)
   |_=>none)
 | .aB3 x=>asS (x.uI F S) fun s=>k (vI .i64 s.length) none
 | .gE x=>match x.uI F S with
   | .d (.one (.sl _)) r=>k (vI .i64 (at_ r 0).rows.length) none
   | .whole _ v=>sQ o v fun _ c=>k (vI .i64 c.rows.length) none
   | .own _ v _ len=>sQ o v fun _ _=>k (vI .i64 len) none
   | .dF _=>aIK o fun _ c _ _=>k (vI .i64 c.rows.length) none
   |_=>none
 | .imin mx xs=>match xs with
   |x::r=>asI (x.uI F S) fun kd n=>aFQ F S mx kd r n fun m=>k (vI kd m) none
   |[]=>none
 | .app id e l bytes x y=>aU4 (y.uI F S) fun e' c'=>check (Nat.beq e e') (match x.ev F with
   | .d (.one (.sl e2)) r=>check (Nat.beq e e2) (match at_ r 0 with
     | .fA=>zD o (if c'.rows.length*bytes≤140737488355328 then k (.whole (base+id) 0) (some (.arr 0 l (pE .fA c'.rows)))else none)
     |_=>none)
   | .whole i v=>sQ o v fun l' c=>check (L.beq l l') (if (c.rows.length+c'.rows.length)*bytes≤140737488355328 then k (.whole i (v+1)) (some (.arr (v+1) l (pE c c'.rows)))else none)
   |_=>none)
 | .eU id e l bytes x y=>aU4 (y.uI F S) fun e' c'=>check (Nat.beq e e') (match x.ev F with
   | .d (.one (.sl e2)) r=>check (Nat.beq e e2) (match at_ r 0 with
     | .fA=>zD o (if c'.rows.length*bytes≤140737488355328 then k (.sw (base+id) 0) (some (.uA 0 e l (pE .fA c'.rows)))else none)
     |_=>none)
   | .sw i v=>aKH o v fun e2 l' c=>check (Nat.beq e e2&&L.beq l l') (if (c.rows.length+c'.rows.length)*bytes≤140737488355328 then k (.sw i (v+1)) (some (.uA (v+1) e l (pE c c'.rows)))else none)
   |_=>none)
 | .aPj id e x y=>asS (y.uI F S) fun s=>match x.ev F with
   | .d (.one (.sl e2)) r=>check (Nat.beq e e2) (match at_ r 0 with
     | .fA=>zD o (if s.length≤1099511627776 then k (.sw (base+id) 0) (some (.uA 0 e (.one (.int .u8)) (pE .fA (s.map yD))))else none)
     |_=>none)
   | .sw i v=>aKH o v fun e2 l' c=>check (Nat.beq e e2&&L.beq (.one (.int .u8)) l') (if c.rows.length+s.length≤1099511627776 then k (.sw i (v+1)) (some (.uA (v+1) e (.one (.int .u8)) (pE c (s.map yD))))else none)
   |_=>none
 | .mk id _ l z bytes n c=>zD o (asI (n.uI F S) fun _ a=>asI (c.uI F S) fun _ b=>if 0≤a∧a≤b∧b*bytes≤140737488355328∧b≤1099511627776 then k (.whole (base+id) 0) (some (.arr 0 l (.sl (List.replicate a.toNat z))))else none)
 | .mkS id e l z bytes n c=>zD o (asI (n.uI F S) fun _ a=>asI (c.uI F S) fun _ b=>if 0≤a∧a≤b∧b*bytes≤140737488355328∧b≤1099511627776 then k (.sw (base+id) 0) (some (.uA 0 e l (.sl (List.replicate a.toNat z))))else none)
 | .slc e l x lo hi=>match x.uI F S with
   | .d (.one (.sl e')) r=>check (Nat.beq e e') (bnd F S lo 0 fun a=>bnd F S hi (at_ r 0).rows.length fun b=>
       if 0≤a∧a≤b∧b≤((at_ r 0).rows.length:Int)then k (.d (.one (.sl e)) [aKG (at_ r 0) a b]) none else none)
   | .whole id v=>sQ o v fun l' c=>check (L.beq l l') (match c with
     | .sl rows=>(bnd F S lo 0 fun a=>bnd F S hi rows.length fun b=>if 0≤a∧a≤b∧b≤(rows.length:Int)then k (.own id v a.toNat (b.toNat - a.toNat)) none else none)
     |_=>none)
   | .own id v off len=>sQ o v fun l' c=>check (L.beq l l') (aDE c fun rows=>bnd F S lo 0 fun a=>bnd F S hi len fun b=>
       if 0≤a∧a≤b∧(b≤(len:Int)∨off=0∧b≤(rows.length:Int))then k (.own id v (off+a.toNat) (b.toNat - a.toNat)) none else none)
   |_=>none
 | .slcS x lo hi=>asS (x.uI F S) fun s=>bnd F S lo 0 fun a=>bnd F S hi s.length fun b=>if 0≤a∧a≤b∧b≤(s.length:Int)then k (vS ((s.take b.toNat).drop a.toNat)) none else none
 | .call f ps rs args=>rowsOf F S ps args fun rows=>(E.pc f rows).bind fun out=>k (aTw rs out) none
 | .callv t ps rs x args=>match x.ev F with
   | .d (.one (.fn t')) r=>check (Nat.beq t t') (rowsOf F S ps args fun rows=>(aKj E (at_ r 0) rows).bind fun out=>k (aTw rs out) none)
   |_=>none
 | .mkf f t ks caps=>j4 F S ks caps fun row=>k (.d (.one (.fn t)) [.fn f row]) none
 | .mkfO f caps=>k (.fn f (caps.map (·.ev F))) none
 | .ext i x=>match x.ev F with
   | .tup vs=>(match vs[i]? with |some v=>k v none |none=>none)
   |_=>none
 | .mkm id kl vl=>zD o (k (.map (base+id)) (some (.map kl vl [])))
 | .lk kl vl z x key ok=>asD (key.uI F S) fun l kr=>check (L.beq kl l) (match x.ev F with
   | .map _=>aKm o fun kl' vl' es=>check (L.beq kl kl'&&L.beq vl vl') (match ok with
       |true=>k (.tup [.d vl (nrm vl ((sI kl kr es).getD z)),vB (sI kl kr es).isSome]) none
       |false=>k (.d vl (nrm vl ((sI kl kr es).getD z))) none)
   |_=>none)
 | .mup kl x key v=>asD (key.uI F S) fun l kr=>asD (v.uI F S) fun lv vr=>match x.ev F with
   | .map _=>aKm o fun kl' vl es=>check (L.beq kl kl'&&L.beq kl' l&&L.beq vl lv) (k .und (some (.map kl' vl (tQ kl' kr vr es))))
   |_=>none
 | .ent kl vl z x key=>asD (key.uI F S) fun l kr=>match x.ev F with
   | .map _=>aKm o fun kl' vl' es=>check (L.beq kl kl'&&L.beq kl' l&&L.beq vl vl') (k (.tup [.d vl' (nrm vl' ((sI kl' kr es).getD z)),vI .i64 (aLC kl' kr es)]) (some (.map kl' vl' (tQ kl' kr ((sI kl' kr es).getD z) es))))
   |_=>none
 | .est x s v=>asI (s.uI F S) fun _ n=>asD (v.uI F S) fun lv vr=>match x.ev F with
   | .map _=>aKm o fun kl vl es=>check (L.beq vl lv) (if 0≤n∧n<(es.length:Int)then k .und (some (.map kl vl (es.modify n.toNat fun e=>(e.1,vr))))else none)
   |_=>none
 | .aSr m t e l x lo=>asI (lo.uI F S) fun _ n=>match x.ev F with
   | .d (.one (.ref t')) r=>check (Nat.beq t t') (if 0≤n∧n≤(m:Int)∧(at_ r 0).jB=true then k (.d (.one (.sl e)) [.sl (((at_ r 0).cA.drop n.toNat).map fun c=>[c])]) none else none)
   |_=>none
 | .a17 e l x lo hi mx=>match x.ev F with
   | .whole _ v=>sQ o v fun l' c=>check (L.beq l l') (aDE c fun rows=>asI (lo.uI F S) fun _ a=>asI (hi.uI F S) fun _ b=>asI (mx.uI F S) fun _ m=>if 0≤a∧a≤b∧b≤m∧m≤(rows.length:Int)then k .undef none else none)
   |_=>none
 | .a18 e l x y=>match x.ev F,y.ev F with
   | .own id v off len, .own id2 v2 off2 aXc=>sQ o v fun l' c=>check (Nat.beq id id2&&Nat.beq v v2&&L.beq l l') (aDE c fun rows=>if off=0∧len≤off2 then k (.own id v 0 (len+aXc)) (some (.arr v l (.sl (rows.take len++(rows.drop off2).take aXc++rows.drop (len+aXc)))))else none)
   |_,_=>none
 | .clr e l z x=>match x.ev F with
   | .own _ v off len=>sQ o v fun l' c=>check (L.beq l l') (aDE c fun rows=>k .undef (some (.arr v l (.sl (rows.take off++List.replicate len z++rows.drop (off+len))))))
   |_=>none
 | .a19 x=>match x.ev F with
   | .own id v off len=>sQ o v fun l' c=>aDE c fun rows=>if off=0 then k (.whole id (v+1)) (some (.arr (v+1) l' (.sl (rows.take len))))else none
   |_=>none
 | .ldH h l x=>match x.ev F with
   | .aFf _ idx=>aIK o fun l' c i av=>check (L.beq l l') (match h with
     |true=>if idx<c.rows.length∧idx=i then k av none else none
     |false=>if idx<c.rows.length∧idx≠i then k (.d l (nrm l (aA c.rows idx))) none else none)
   |_=>none
 | .stH x v=>match x.ev F with
   | .aFf _ idx=>aIK o fun l' c i _=>check (AV.single (v.ev F)&&Nat.beq l'.n 1) (if c.rows.length≤i∧idx<c.rows.length then k .und (some (.dF l' c idx (v.ev F)))else none)
   |_=>none
 | .stF l x v=>match x.ev F with
   | .aFf _ idx=>aIK o fun l' c i av=>asD (v.uI F S) fun lv row=>check (L.beq l lv&&L.beq l l') (if c.rows.length≤i∧idx<c.rows.length then k .und (some (.dF l' (.sl (c.rows.set idx row)) i av))else none)
   |_=>none
 | .a2a x=>match x.ev F with
   | .map _=>aKm o fun _ _ es=>k (vI .i64 es.length) none
   |_=>none
 | .nB .. =>none
 | .aU2 id x=>zD o (match aA0 (x.ev F)with |some vs=>k (.ptr (base+id) 0) (some (.cells false vs))|none=>none)
 | .aHA id zs=>zD o (k (.ptr (base+id) 0) (some (.cells false (zsV zs))))
 | .ldA n x=>match x.ev F with
   | .ptr _ off=>(match o with
     | .cells _ vs=>check (Nat.ble (off+n) vs.length) (k (.agg ((vs.drop off).take n)) none)
     |_=>none)
   |_=>none
 | .stA n x v=>match x.ev F with
   | .ptr _ off=>(match o with
     | .cells false vs=>(match aA0 (v.ev F)with
       |some us=>check (Nat.beq us.length n&&Nat.ble (off+us.length) vs.length) (k .und (some (.cells false (aU6 off us vs))))
       |none=>none)
     |_=>none)
   |_=>none
 | .a4E off n x=>match x.ev F with
   | .agg vs=>check (Nat.ble (off+n) vs.length) (match n with
     |1=>(match vs[off]? with |some v=>check (AV.single v) (k v none)|none=>none)
     |n=>k (.agg ((vs.drop off).take n)) none)
   |_=>none
 | .bldA zs parts=>aKk F parts (zsV zs) fun vs=>k (.agg vs) none
 | .aTv m n x i=>asI (i.uI F S) fun _ j=>match x.ev F with
   | .ptr id p=>aKl o (aI9 j 0 m fun i=>k (.ptr id (p+i*n)) none)
   |_=>none
 | .aU3 neg x=>match x.ev F with
   | .d (.one (.ref _)) r=>k (vB (aSs neg (at_ r 0).a11)) none
   | .ptr _ _=>aKl o (k (vB (aSs neg false)) none)
   |_=>none
 | .a1p neg x=>match x.ev F with
   | .d (.one .ifc) r=>k (vB (aSs neg (at_ r 0).a13)) none
   |_=>none
 | .a4F=>k .undef none
end
mutual
def kF (S:St) (m:Nat) (co:Bool):Sh→AV→Option (List PV)
 | .d l, .d l' row=>match L.beq l l' with |true=>some [.r (nrm l row)]|false=>none
 | .ptr i o, .ptr i' o'=>match Nat.beq i i'&&Nat.beq o o'&&Nat.blt i m with |true=>some []|false=>none
 | .whole i, .whole i' v=>match S[i']? with
   |some (.arr v' _ _)=>(match Nat.beq i i'&&Nat.beq v v'&&Nat.blt i m with |true=>some []|false=>none)
   |_=>none
 | .fn f cs, .fn f' vs=>match Nat.beq f f' with |true=>qW S m co cs vs |false=>none
 | .map i, .map i'=>match Nat.beq i i'&&Nat.blt i m with |true=>some []|false=>none
 | .sw i, .sw i' v=>match S[i']? with
   |some (.uA v' _ _ _)=>(match Nat.beq i i'&&Nat.beq v v'&&Nat.blt i m with |true=>some []|false=>none)
   |_=>none
 | .d l, .sw i' v=>match co,AV.dat S (.sw i' v)with
   |true, .d l' row=>(match L.beq l l' with |true=>some [.r (nrm l row)]|false=>none)
   |_,_=>none
 | .agg ss, .agg vs=>qW S m co ss vs
 | .d l, .agg vs=>match co,AV.dat S (.agg vs)with
   |true, .d l' row=>(match L.beq l l' with |true=>some [.r (nrm l row)]|false=>none)
   |_,_=>none
 | .agg ss, .d l row=>match qW S m co ss (cellsOf l.ks row 0),l with
   |some ps, .agg _=>some ps
   |_,_=>none
 | .aOr i, .ptr i' o=>match Nat.beq i i'&&Nat.blt i m with |true=>some [.r [.int (o:Int)]]|false=>none
 | .uL i, .uL i' v idx o=>match S[i']? with
   |some (.arr v' _ _)=>(match Nat.beq i i'&&Nat.beq v v'&&Nat.blt i m with |true=>some [.r [.int (idx:Int), .int (o:Int)]]|false=>none)
   |_=>none
 | .dF i, .dF i'=>match Nat.beq i i'&&Nat.blt i m with |true=>some []|false=>none
 |_,_=>none
def qW (S:St) (m:Nat) (co:Bool):List Sh→List AV→Option (List PV)
 |[],[]=>some []
 |s::ss,v::vs=>match kF S m co s v,qW S m co ss vs with
  |some a,some b=>some (a++b)
  |_,_=>none
 |_,_=>none
end
def tY (S:St) (m:Nat):vO→Obj→Option (List PV)
 | .var l, .var l' row=>match L.beq l l' with |true=>some [.r (nrm l row)]|false=>none
 | .cells c vs, .cells c' sL=>match c==c' with |true=>qW S m false vs sL |false=>none
 | .arr l, .arr _ l' c=>match L.beq l l' with |true=>some [.r [c]]|false=>none
 | .map kl vl, .map kl' vl' es=>match L.beq kl kl'&&L.beq vl vl' with |true=>some [.m es]|false=>none
 | .uA e l, .uA _ e' l' c=>match Nat.beq e e'&&L.beq l l' with |true=>some [.r [c]]|false=>none
 | .dF l s, .dF l' c i av=>match L.beq l l' with
   |true=>(match kF S m false s av with |some ps=>some (.r [c, .int (i:Int)]::ps)|none=>none)
   |false=>none
 | .cells _ [],_=>some []
 |_,_=>none
def hd (ps:List PV):Row:=(ps.headD (.r [])).row
mutual
def unV:Sh→List PV→AV×List PV
 | .d l,ps=>(.d l (nrm l (hd ps)),ps.tail)
 | .ptr i o,ps=>(.ptr i o,ps)
 | .whole i,ps=>(.whole i 0,ps)
 | .fn f cs,ps=>match aIX cs ps with |(vs,r)=>(.fn f vs,r)
 | .map i,ps=>(.map i,ps)
 | .sw i,ps=>(.sw i 0,ps)
 | .agg cs,ps=>match aIX cs ps with |(vs,r)=>(.agg vs,r)
 | .aOr i,ps=>(.ptr i (at_ (hd ps) 0).vA.toNat,ps.tail)
 | .uL i,ps=>(.uL i 0 (at_ (hd ps) 0).vA.toNat (at_ (hd ps) 1).vA.toNat,ps.tail)
 | .dF i,ps=>(.dF i,ps)
def aIX:List Sh→List PV→List AV×List PV
 |[],ps=>([],ps)
 |s::ss,ps=>match unV s ps with
  |(v,r)=>match aIX ss r with
   |(vs,r')=>(v::vs,r')
end
def unO:vO→List PV→Obj×List PV
 | .var l,ps=>(.var l (nrm l (hd ps)),ps.tail)
 | .cells _ [],ps=>(.dead,ps)
 | .cells c vs,ps=>match aIX vs ps with |(sL,r)=>(.cells c sL,r)
 | .arr l,ps=>(.arr 0 l (at_ (hd ps) 0),ps.tail)
 | .map kl vl,ps=>(.map kl vl (ps.headD (.m [])).es,ps.tail)
 | .uA e l,ps=>(.uA 0 e l (at_ (hd ps) 0),ps.tail)
 | .dF l s,ps=>match unV s ps.tail with |(av,r)=>(.dF l (at_ (hd ps) 0) (at_ (hd ps) 1).vA.toNat av,r)
def aGL:List vO→List PV→St
 |[],_=>[]
 |s::ss,ps=>match unO s ps with |(o,r)=>o::aGL ss r
def nK:List (Nat×Sh)→List PV→Fr×List PV
 |[],ps=>([],ps)
 |(n,s)::r,ps=>match unV s ps with
  |(v,ps')=>match nK r ps' with
   |(F,a8n)=>((n,v)::F,a8n)
section
variable {A:Type} (E:Env) (F:Fr) (S:St)
mutual
def Sh.lE (ids:List Nat):Sh→Sh
 | .d l=> .d l
 | .ptr i o=> .ptr (ids.getD i 0) o
 | .whole i=> .whole (ids.getD i 0)
 | .fn f cs=> .fn f (Sh.dZ ids cs)
 | .map i=> .map (ids.getD i 0)
 | .sw i=> .sw (ids.getD i 0)
 | .agg cs=> .agg (Sh.dZ ids cs)
 | .aOr i=> .aOr (ids.getD i 0)
 | .uL i=> .uL (ids.getD i 0)
 | .dF i=> .dF (ids.getD i 0)
def Sh.dZ (ids:List Nat):List Sh→List Sh
 |[]=>[]
 |s::r=>Sh.lE ids s::Sh.dZ ids r
end
mutual
def Sh.under (n:Nat):Sh→Bool
 | .d _=>true
 | .ptr i _=>Nat.blt i n
 | .whole i=>Nat.blt i n
 | .fn _ cs=>Sh.aDF n cs
 | .map i=>Nat.blt i n
 | .sw i=>Nat.blt i n
 | .agg cs=>Sh.aDF n cs
 | .aOr i=>Nat.blt i n
 | .uL i=>Nat.blt i n
 | .dF i=>Nat.blt i n
def Sh.aDF (n:Nat):List Sh→Bool
 |[]=>true
 |s::r=>Sh.under n s&&Sh.aDF n r
end
def vO.lE (ids:List Nat):vO→vO
 | .cells c vs=> .cells c (Sh.dZ ids vs)
 | .dF l s=> .dF l (Sh.lE ids s)
 |o=>o
def vO.under (n:Nat):vO→Bool
 | .cells _ vs=>Sh.aDF n vs
 | .dF _ s=>Sh.under n s
 |_=>true
def Shape.under (n:Nat) (sh:Shape):Bool:=sh.slots.all (fun p=>Sh.under n p.2)&&sh.objs.all (vO.under n)
mutual
def AV.lE (ids iC:List Nat):AV→AV
 | .d l r=> .d l r
 | .ptr i o=> .ptr (ids.getD i 0) o
 | .whole i 0=> .whole (ids.getD i 0) (iC.getD i 0)
 | .fn f cs=> .fn f (AV.dZ ids iC cs)
 | .map i=> .map (ids.getD i 0)
 | .sw i 0=> .sw (ids.getD i 0) (iC.getD i 0)
 | .agg vs=> .agg (AV.dZ ids iC vs)
 | .uL i 0 idx off=> .uL (ids.getD i 0) (iC.getD i 0) idx off
 | .dF i=> .dF (ids.getD i 0)
 | .aFf i idx=> .aFf (ids.getD i 0) idx
 |_=> .undef
def AV.dZ (ids iC:List Nat):List AV→List AV
 |[]=>[]
 |v::r=>AV.lE ids iC v::AV.dZ ids iC r
end
def Obj.lE (ids iC:List Nat) (nO:Nat):Obj→Obj
 | .arr 0 l c=> .arr nO l c
 | .arr _ _ _=> .dead
 | .uA 0 e l c=> .uA nO e l c
 | .uA _ _ _ _=> .dead
 | .cells c vs=> .cells c (AV.dZ ids iC vs)
 | .fresh=> .dead
 | .dF l c i av=> .dF l c i (AV.lE ids iC av)
 |o=>o
def aFR (S:St) (all:List Nat):List Nat→List vO→Option (List PV)
 |[],[]=>some []
 |id::is,s::ss=>match S[id]? with
  |some o=>(match tY S S.length (s.lE all) o,aFR S all is ss with
   |some a,some b=>some (a++b)
   |_,_=>none)
  |none=>none
 |_,_=>none
def aPm (S:St) (ids:List Nat) (en:Shape) (args:List AV):Option (List PV):=
 match qW S S.length true (Sh.dZ ids (en.slots.map (·.2))) args,aFR S ids ids en.objs with
 |some a,some b=>some (a++b)
 |_,_=>none
def aIL (S:St) (id:Nat):Nat:=match S[id]? with |some (.arr v _ _)=>v+1 |some (.uA v _ _ _)=>v+1 |_=>0
def eO (ids iC:List Nat):List Nat→List Nat→List Obj→List (Nat×Obj)
 |i::is,v::vs,o::os=>(i,Obj.lE ids iC v o)::eO ids iC is vs os
 |_,_,_=>[]
def aB8 (S:St):List (Nat×Obj)→List (Nat×Obj)
 |[]=>[]
 |p::r=>match aKh S p.1&&p.2.cst with |true=>aB8 S r |false=>p::aB8 S r
def aFv (S:St):List Nat→Bool
 |[]=>true
 |i::r=>(match S[i]? with |some .fresh=>true |_=>false)&&aFv S r
def nodupB:List Nat→Bool
 |[]=>true
 |a::r=> !r.any (Nat.beq a)&&nodupB r
def eF (i:Nat):Nat→List Nat
 |0=>[]
 |n+1=>i::eF (i+1) n
def nN (F:Fr) (f:Nat) (x:Option zC) (args:List zC) (k:List AV→Option A):Option A:=
 match x with
 |none=>k (args.map (·.ev F))
 |some y=>match y.ev F with
  | .fn f' caps=>check (Nat.beq f f') (k (args.map (·.ev F)++caps))
  |_=>none
def a2c (vs:List AV):AV:=match vs with |[v]=>v |_=> .tup vs
def vO.cst:vO→Bool | .cells true (_::_)=>true |_=>false
def aGM:List vO→List vO→Bool
 |[],r=>r.all fun s=> !s.cst
 |_::_,[]=>false
 |a::r,b::r'=>(match a,b with
  |_, .cells _ []=>true
  | .var _, .var _=>true
  | .cells c (_::_), .cells c' _=> !c' ||c
  | .arr l, .arr l'=>L.beq l l'
  | .map _ _, .map _ _=>true
  | .uA e l, .uA e' l'=>Nat.beq e e'&&L.beq l l'
  | .dF l _, .dF l' _=>L.beq l l'
  |_,_=>false)&&aGM r r'
def aOt:Option zC→List zC |none=>[]|some x=>[x]
def aFh:AOp→List zC
 | .mov x=>[x]| .eC x=>[x]| .cvS x=>[x]| .a14 _ _=>[]| .aQC _ _ _=>[]
 | .pick c a b=>[c,a,b]
 | .tB _ x y=>[x,y]| .idiv _ x y=>[x,y]| .shf _ x y=>[x,y]| .dA _ x y=>[x,y]| .aU0 x y=>[x,y]| .aEK _ x y=>[x,y]| .a4D _ x y=>[x,y]
 | .aeq _ _ x y=>[x,y]| .aYf _ x=>[x]| .not x=>[x]| .aSp x=>[x]| .aW8 x=>[x]| .i2i _ x=>[x]| .s2b _ x=>[x]| .b2s _ x=>[x]
 | .vL _ _ x=>[x]| .a15 _ _ x=>[x]| .a16 _ x=>[x]| .oB _ _ _=>[]| .aU1 _=>[]
 | .ld _ _ x=>[x]| .n3 x=>[x]| .st _ x v=>[x,v]| .stC x v=>[x,v]| .xA _ _ _ _ x=>[x]| .fld _ _ x=>[x]
 | .bld _ _ ps=>ps.map fun p=>p.2.2
 | .bsl _ _ _ _ ps=>ps.map fun p=>p.2
 | .bslS _ _ _ _ _ ps=>ps.map fun p=>p.2
 | .bslO _ _ _ _ _ ps=>ps.map fun p=>p.2
 | .iad _ _ x i=>[x,i]| .qF _ _ _ _ x i=>[x,i]| .aB2 x i=>[x,i]| .aSq _ _ x i=>[x,i]| .aB3 x=>[x]| .gE x=>[x]
 | .imin _ xs=>xs
 | .app _ _ _ _ x y=>[x,y]| .eU _ _ _ _ x y=>[x,y]| .aPj _ _ x y=>[x,y]| .mk _ _ _ _ _ n c=>[n,c]| .mkS _ _ _ _ _ n c=>[n,c]
 | .slc _ _ x lo hi=>x::aOt lo++aOt hi
 | .slcS x lo hi=>x::aOt lo++aOt hi
 | .call _ _ _ xs=>xs
 | .callv _ _ _ x xs=>x::xs
 | .aXa _ x y=>[x,y]
 | .aW9 _ x y=>[x,y]
 | .bad=>[]
 | .nB _ _ _ _ _ _ x xs=>aOt x++xs
 | .mkf _ _ _ cs=>cs | .mkfO _ cs=>cs
 | .ext _ x=>[x]
 | .mkm _ _ _=>[]
 | .lk _ _ _ x key _=>[x,key]
 | .mup _ x key v=>[x,key,v]
 | .ent _ _ _ x key=>[x,key]| .est x s v=>[x,s,v]
 | .aSr _ _ _ _ x lo=>[x,lo]| .a17 _ _ x lo hi mx=>[x,lo,hi,mx]| .a18 _ _ x y=>[x,y]| .clr _ _ _ x=>[x]| .a19 x=>[x]
 | .ldH _ _ x=>[x]| .stH x v=>[x,v]| .stF _ x v=>[x,v]
 | .a2a x=>[x]
 | .aU2 _ x=>[x]| .aHA _ _=>[]| .ldA _ x=>[x]| .stA _ x v=>[x,v]| .a4E _ _ x=>[x]
 | .bldA _ ps=>ps.map fun p=>p.2.2
 | .aTv _ _ x i=>[x,i]| .aU3 _ x=>[x]| .a1p _ x=>[x]| .a4F=>[]
def aFw (F:Fr) (op:AOp):List Nat:=(aFh op).flatMap fun x=>(x.ev F).aMV
def opK (op:AOp) (base:Nat) (k:AV→List (Nat×Obj)→List Nat→Option A):Option A:=
 match op with
 | .nB i f en ex ids new x args=>nN F f x args fun vs=>
   let all:=ids++eF (base+new) (ex.objs.length - ids.length)
   let iC:=all.map (aIL S)
   check (Shape.under ids.length en&&Shape.under all.length ex&&aFv S (eF (base+new) (ex.objs.length - ids.length))&&nodupB all&&Nat.ble ids.length ex.objs.length&&aGM en.objs ex.objs)
    ((aPm S ids en vs).bind fun ps=>(E.ic i ps).bind fun ps'=>match aIX (ex.slots.map (·.2)) ps' with
      |(vs',r)=>k (a2c (AV.dZ all iC vs')) (aB8 S (eO all iC all iC (aGL ex.objs r))) (all++aFw F op))
 |op=>match tgt F op base with
  |none=>bH E F S .dead op base fun v _=>k v [] (aFw F op)
  |some id=>aEL S id fun o=>bH E F S o op base fun v no=>k v (match no with |some o'=>[(id,o')]|none=>[]) (id::aFw F op)
end
def aG:List (Nat×Obj)→St→St
 |[],S=>S
 |(i,o)::r,S=>aG r (S.set i o)
def Fr.put (F:Fr):Option Nat→AV→Fr
 |some t,v=>(t,v)::F
 |none,_=>F
abbrev aMW:=List Nat×List Nat
def meets:List Nat→List Nat→Bool
 |[],_=>false
 |a::r,l=>l.any (Nat.beq a)||meets r l
def conflict (a b:aMW):Bool:=meets a.1 b.1 ||meets a.1 b.2 ||meets a.2 b.1
def aA2 (f:aMW) (bef:List Nat):List aMW→Nat→Bool
 |[],_=>true
 |g::r,i=>(!conflict f g ||bef.any (Nat.beq i))&&aA2 f bef r (i+1)
section
variable {A:Type} (E:Env)
def aFS (draw:Bool) (base:Nat):List fN→List aMW→Fr→St→(Fr→St→Option A)→Option A
 |[],_,F,S,k=>k F S
 |o::rest,seen,F,S,k=>
  let run (F:Fr):Option A:=opK E F S o.op base fun v us rd=>
   check (!draw ||aA2 (us.map (·.1),rd) o.bef seen 0) (aFS draw base rest (match draw with |true=>seen++[(us.map (·.1),rd)]|false=>[]) (F.put o.dst v) (aG us S) k)
  let skip (F:Fr):Option A:=aFS draw base rest (match draw with |true=>seen++[([],[])]|false=>[]) (F.put o.dst .und) S k
  match o.guard with
  |none=>run F
  |some (t,w)=>match F.get t with
   | .d (.one .bool) [.bool e]=>(match w with
     |true=>if e=true then run ((t,vB true)::F)else skip ((t,vB false)::F)
     |false=>if e=true then skip ((t,vB true)::F)else run ((t,vB false)::F))
   | .und=>skip F
   |_=>none
def aHB (n:Nat) (t:TypeId) (ol:Option L) (F:Fr) (S:St) (k:Fr→St→Option A):Option A:=
 match ol with
 |some l=>(match F.get n with
  | .whole id v=>aEL S id fun o=>sQ o v fun l' c=>check (L.beq l l') (k ((n, .d (.one (.sl t)) [c])::F) (S.set id .dead))
  | .ptr id 0=>aEL S id fun o=>(match o with
    | .var l' r=>check (L.beq l l') (k ((n, .d (.one (.ref t)) [.dp r])::F) (S.set id .dead))
    |_=>none)
  |_=>none)
 |none=>(match F.get n with
  | .ptr id 0=>aEL S id fun o=>(match o with
    | .cells _ vs=>k F (S.set id (.cells true vs))
    |_=>none)
  |_=>none)
def aAu:List (Nat×TypeId×Option L)→Fr→St→(Fr→St→Option A)→Option A
 |[],F,S,k=>k F S
 |(n,t,ol)::r,F,S,k=>aHB n t ol F S fun F S=>aAu r F S k
end
def a4I (i:Nat) (ids:List Nat):List Nat:=match ids.any (Nat.beq i)with |true=>ids |false=>ids++[i]
def aSu:List Nat→List Nat→List Nat
 |[],ids=>ids
 |i::r,ids=>aSu r (a4I i ids)
mutual
def a1q:Sh→AV→List Nat
 | .ptr _ _, .ptr i _=>[i]
 | .whole _, .whole i _=>[i]
 | .sw _, .sw i _=>[i]
 | .map _, .map i=>[i]
 | .fn _ cs, .fn _ vs=>aPn cs vs
 | .agg cs, .agg vs=>aPn cs vs
 | .aOr _, .ptr i _=>[i]
 | .uL _, .uL i _ _ _=>[i]
 | .dF _, .dF i=>[i]
 |_,_=>[]
def aPn:List Sh→List AV→List Nat
 |s::ss,v::vs=>a1q s v++aPn ss vs
 |_,_=>[]
end
def collect (S:St) (objs:List vO):Nat→Nat→List Nat→List Nat
 |0,_,ids=>ids
 |n+1,k,ids=>match objs[k]?,ids[k]? with
  |some (.cells _ ss),some i=>(match S[i]? with
   |some (.cells _ vs)=>collect S objs n (k+1) (aSu (aPn ss vs) ids)
   |_=>collect S objs n (k+1) ids)
  |some (.dF _ s),some i=>(match S[i]? with
   |some (.dF _ _ _ av)=>collect S objs n (k+1) (aSu (a1q s av) ids)
   |_=>collect S objs n (k+1) ids)
  |_,_=>collect S objs n (k+1) ids
def a2d (sh:Shape) (vs:List AV) (S:St):List Nat:=collect S sh.objs sh.objs.length 0 (aSu (aPn (sh.slots.map (·.2)) vs) (eF 0 sh.m))
def aLD (sh:Shape) (vs:List AV) (S:St):Option (List PV):=
 let ids:=a2d sh vs S
 match nodupB ids&&Shape.under ids.length sh&&aRt sh.m ids 0 with
 |true=>aPm S ids sh vs
 |false=>none
 where aRt:Nat→List Nat→Nat→Bool
 |0,_,_=>true
 |n+1,a::r,i=>Nat.beq a i&&aRt n r (i+1)
 |_+1,[],_=>false
def pack (sh:Shape) (F:Fr) (S:St):Option (List PV):=aLD sh (sh.slots.map fun p=>F.get p.1) S
def unpack {A:Type} (sh:Shape) (ps:List PV) (k:Fr→St→Option A):Option A:=
 match nK sh.slots ps with
 |(F,r)=>k F (aGL sh.objs r)
def mB.beq:mB→mB→Bool
 | .normal, .normal=>true
 | .ret, .ret=>true
 | .exit a, .exit b=>Nat.beq a b
 |_,_=>false
def aCR (e:mB) (F:Fr) (S:St):List (mB×Shape)→Nat→Option (Nat×List PV)
 |[],_=>none
 |(e',sh)::r,i=>match mB.beq e e' with
  |true=>(match pack sh F S with |some ps=>some (i,ps)|none=>none)
  |false=>aCR e F S r (i+1)
def aTx {A:Type} (k:mB→Fr→St→Option A):List (mB×Shape)→Nat→List PV→Option A
 |[],_,_=>none
 |[(e,sh)],_,ps=>unpack sh ps (k e)
 |(e,sh)::r,i,ps=>match i with
  |0=>unpack sh ps (k e)
  |i+1=>aTx k r i ps
def aEM (body:Fr→St→(mB→Fr→St→Option (Nat×List PV))→Option (Nat×List PV)) (sh:Shape) (outs:List (mB×Shape)) (X:List PV→Option (Nat×List PV)) (ps:List PV):Option (Nat×List PV):=
 unpack sh ps fun F S=>body F S fun e F S=>match e with
  | .normal=>(match pack sh F S with |some ps'=>X ps' |none=>none)
  |e=>aCR e F S outs 0
def aB9 (step:(List PV→Option (Nat×List PV))→List PV→Option (Nat×List PV)):Nat→List PV→Option (Nat×List PV)
 |0,_=>none
 |n+1,ps=>step (aB9 step n) ps
def oN {A:Type} (g:aRq) (F:Fr) (S:St) (k:Fr→St→Option A):Option A:=
 match g with
 | .lft n off e l=>(match off with
   |none=>(match F.get n with
    | .d (.one (.sl e')) [.fA]=>check (Nat.beq e e') (k ((n, .sw S.length 0)::F) (S++[.uA 0 e l .fA]))
    |_=>none)
   |some off=>(match F.get n with
    | .ptr id p=>aEL S id fun o=>(match o with
      | .cells c vs=>(match vs[p+off]? with
        |some (.d (.one (.sl e')) [.fA])=>check (Nat.beq e e') (k F ((S.set id (.cells c (vs.set (p+off) (.sw S.length 0))))++[.uA 0 e l .fA]))
        |_=>none)
      |_=>none)
    |_=>none))
 | .a0q n off e l=>(match F.get n with
   | .ptr id p=>aEL S id fun o=>(match o with
     | .cells c vs=>(match vs[p+off]? with
       |some (.d (.one (.sl e')) [.fA])=>check (Nat.beq e e') (k F ((S.set id (.cells c (vs.set (p+off) (.whole S.length 0))))++[.arr 0 l .fA]))
       |_=>none)
     |_=>none)
   |_=>none)
 | .a0r n e l=>aHB n e (some l) F S k
 | .a0s n l=>(match F.get n with
   | .whole id v=>aEL S id fun o=>sQ o v fun l' c=>check (L.beq l l') (k ((n, .dF S.length)::F) (S.set id .dead++[.dF l c c.rows.length (.agg [])]))
   |_=>none)
 | .a0t n e l=>(match F.get n with
   | .dF id=>aEL S id fun o=>aIK o fun l' c0 i av=>(match l',av with
     | .one (.sl e'), .whole id' v=>aEL S id' fun o'=>sQ o' v fun l2 c=>check (Nat.beq e e'&&L.beq l l2&& !Nat.beq id' id)
         (aDE c0 fun rows=>k ((n, .whole S.length 0)::F) ((S.set id' .dead).set id .dead++[.arr 0 l' (.sl (rows.set i [c]))]))
     |_,_=>none)
   |_=>none)
 | .a0u n=>(match F.get n with
   | .dF id=>aEL S id fun o=>aIK o fun l c i _=>if c.rows.length≤i then k ((n, .whole S.length 0)::F) (S.set id .dead++[.arr 0 l c])else none
   |_=>none)
 | .frz n off e l=>(match F.get n with
   | .ptr id p=>aEL S id fun o=>(match o with
     | .cells c vs=>(match vs[p+off]? with
       |some (.whole i v)=>aEL S i fun o'=>sQ o' v fun l' d=>check (L.beq l l'&& !Nat.beq i id) (k F ((S.set i .dead).set id (.cells c (vs.set (p+off) (.d (.one (.sl e)) [d])))))
       |_=>none)
     |_=>none)
   |_=>none)
def gN (E:Env):zB→{A:Type}→Fr→St→(mB→Fr→St→Option A)→Option A
 | .skip,_,F,S,k=>k .normal F S
 | .ghost g c,_,F,S,k=>oN g F S fun F S=>gN E c F S k
 | .post g c,_,F,S,k=>gN E c F S fun e F S=>match e with
   | .normal=>oN g F S (k .normal)
   |e=>k e F S
 | .region fz ops draw n,_,F,S,k=>aAu fz F S fun F S=>aFS E draw S.length ops [] F (S++List.replicate n .fresh) (k .normal)
 | .seq a b,_,F,S,k=>gN E a F S fun e F S=>match e with
   | .normal=>gN E b F S k
   |e=>k e F S
 | .cond c a b,_,F,S,k=>match c.ev F with
   | .d (.one .bool) r=>if (at_ r 0).lK=true then gN E a F S k else gN E b F S k
   |_=>none
 | .block id c,_,F,S,k=>gN E c F S fun e F S=>match e with
   | .exit id'=>(match Nat.beq id' id with |true=>k .normal F S |false=>k (.exit id') F S)
   |e=>k e F S
 | .loop sh outs c,_,F,S,k=>match pack sh F S with
   |some ps=>(E.fix (aEM (fun F S k=>gN E c F S k) sh outs) ps).bind fun x=>aTx k outs x.1 x.2
   |none=>none
 | .join outs c,_,F,S,k=>(gN E c F S fun e F S=>aCR e F S outs 0).bind fun x=>aTx k outs x.1 x.2
 | .exit id,_,F,S,k=>k (.exit id) F S
 | .ret,_,F,S,k=>k .ret F S
 | .bad,_,_,_,_=>none
structure aD where
 ps:List L
 rs:List L
 res:List (Bool×Nat×Option L)
 body:zB
 deriving Inhabited
def toD (S:St) (l:L) (ol:Option L) (v:AV):Option Row:=
 match v with
 | .d l' r=>match L.beq l l' with |true=>some (nrm l r)|false=>none
 | .sw id v=>(match AV.dat S (.sw id v)with | .d l' r=>(match L.beq l l' with |true=>some (nrm l r)|false=>none)|_=>none)
 | .agg vs=>(match AV.dat S (.agg vs)with | .d l' r=>(match L.beq l l' with |true=>some (nrm l r)|false=>none)|_=>none)
 | .whole id v=>(match ol with
   |some le=>(match S[id]? with
    |some (.arr v' l' c)=>(match Nat.beq v v'&&L.beq le l' with |true=>some [c]|false=>none)
    |_=>none)
   |none=>none)
 | .own id v off len=>(match ol with
   |some le=>(match S[id]? with
    |some (.arr v' l' c)=>(match Nat.beq v v'&&L.beq le l' with |true=>some [.sl ((c.rows.drop off).take len)]|false=>none)
    |_=>none)
   |none=>none)
 |_=>none
def aSv (F:Fr) (S:St):List L→List (Bool×Nat×Option L)→Option (List Row)
 |[],[]=>some []
 |l::ls,(cell,t,ol)::r=>
  match (match cell with
   |false=>toD S l ol (F.get t)
   |true=>match F.get t with
    | .ptr id 0=>(match S[id]? with
      |some (.var l' row)=>(match L.beq l l' with |true=>some row |false=>none)
      |some (.cells _ vs)=>(match l,vs with
       | .agg _,vs=>toD S l none (.agg vs)
       | .one _,[v]=>toD S l ol v
       |_,_=>none)
      |_=>none)
    |_=>none),aSv F S ls r with
  |some a,some b=>some (a::b)
  |_,_=>none
 |_,_=>none
def frame:List L→List Row→Nat→Fr
 |[],_,_=>[]
 |l::ls,rows,i=>(i, .d l (nrm l (rows.headD [])))::frame ls rows.tail (i+1)
def xE (E:Env) (f:aD) (rows:List Row):Option (List Row):=
 match Nat.beq rows.length f.ps.length with
 |true=>gN E f.body (frame f.ps rows 0) [] fun e F S=>match e with
  | .exit _=> .none
  |_=>aSv F S f.rs f.res
 |false=>none
inductive aU8 where
 |tmp (t:Nat)|var (a:Nat) (l:L)|cells (a n:Nat)|aRu (a:Nat)
 deriving Inhabited
structure rZ where
 fn:Nat
 entry:Shape
 res:List aU8
 exit:Shape
 body:zB
 deriving Inhabited
def aMX (F:Fr) (S:St):aU8→Option AV
 | .tmp t=>some (F.get t)
 | .var a l=>(match F.get a with
   | .ptr id 0=>(match S[id]? with |some (.var l' row)=>(match L.beq l l' with |true=>some (.d l row)|false=>none)|_=>none)
   |_=>none)
 | .cells a n=>(match F.get a with
   | .ptr id 0=>(match S[id]? with |some (.cells _ vs)=>(match Nat.beq vs.length n with |true=>some (.agg vs)|false=>none)|_=>none)
   |_=>none)
 | .aRu a=>(match F.get a with
   | .ptr id 0=>(match S[id]? with |some (.cells _ [v])=>some v |_=>none)
   |_=>none)
def aJX (F:Fr) (S:St):List aU8→Option (List AV)
 |[]=>some []
 |x::r=>match aMX F S x,aJX F S r with
  |some a,some b=>some (a::b)
  |_,_=>none
def j9 (E:Env) (f:rZ) (ps:List PV):Option (List PV):=
 unpack f.entry ps fun F S=>gN E f.body F S fun e F S=>match e with
  | .exit _=> .none
  |_=>(aJX F S f.res).bind fun vs=>aLD f.exit vs S
inductive gG where
 |none |cmp |ixb |zL (t:TypeId) (l:L) (row:Row)|code (f:aD)|imp (f:rZ)|given (ps rs:List L) (f:List Row→Option (List Row))
def iE (T:Nat→gG):Nat→Env
 |0=>⟨fun _ _=> .none,fun _ _=> .none,fun _ _=> .none⟩
 |n+1=>
  ⟨fun f rows=>match T f with | .given _ _ g=>g rows | .code af=>xE (iE T n) af rows |_=> .none,
   fun f ps=>match T f with | .imp af=>j9 (iE T n) af ps |_=> .none,fun step=>aB9 step (n+1)⟩
end Go.Ev
