/-
  Readings of plain data: what fits a type; bulk.
-/
import Derived.Test.YtfonaepdedbhhaaGreatDoorEvZa
set_option linter.all false
set_option maxRecDepth 100000
namespace Go.Ev
variable {H:Type} {enc:TypeId×Value→H} {P:Program} {w:World}
def s9 (P:Program):Nat→TypeId→DataW H→Prop
 |0,_,_=>False
 |n+1,t,d=>match P.underlying t,d with
  |some .bool, .lit (.bool _)=>True
  |some (.int k), .lit (.int k' m)=>k'=k∧(Lit.int k m).wf=true
  |some .string, .lit (.string s)=>True
  |some (.slice _), .nil=>True
  |some (.slice e), .slice es _=>∀x∈es,s9 P n e x
  |some (.struct fs), .agg ds=>ds.length=fs.toList.length∧∀(i:Nat) (f:Field) (d:DataW H),fs.toList[i]? =some f→ds[i]? =some d→s9 P n f.type d
  |some (.array m e), .agg ds=>ds.length=m∧∀d∈ds,s9 P n e d
  |_,_=>False
theorem aYq {base:Nat} {sp:Nat→Bool} {held:Bool} {ts:List TypeId} (hp:aHH P ts=true):
 ∀(fuel:Nat) (t:TypeId) (cs:List Value) (x:DataW H×List MemPlace),t∈ts→DataW.trod enc P w base sp held fuel t cs=some x→s9 P fuel t x.1:=by
 intro fuel
 induction fuel with
 |zero=>intro t cs x _ h;simp[DataW.trod]at h
 |succ fuel ih=>
  intro t cs x ht h
  have hpt:=List.all_eq_true.1 hp t ht
  simp only[Bool.and_eq_true]at hpt
  have hpt:=hpt.2
  unfold DataW.trod at h
  simp only[s9]
  cases hu:P.underlying t with
  |none=>simp[hu]at hpt
  |some d=>
   cases d<;>simp only[hu]at hpt h<;>try (simp at hpt;done)
   case bool=>
    split at h<;>simp_all
    obtain ⟨rfl⟩:=h
    trivial
   case int k=>
    split at h<;>simp_all
    obtain ⟨⟨rfl,hw⟩,rfl⟩:=h
    exact ⟨rfl,hw⟩
   case string=>
    split at h<;>simp_all
    obtain ⟨_,rfl⟩:=h
    trivial
   case slice e=>
    simp only[Bool.and_eq_true,List.contains_iff_mem]at hpt
    split at h
    case h_7=>
     simp only[Option.some.injEq]at h
     subst h
     trivial
    case h_8=>
     rename_i e' a len cap heq
     cases heq
     split at h
     ·simp only[Option.map_eq_some_iff,Option.bind_eq_some_iff]at h
      obtain ⟨elems,he,rest,_,rfl⟩:=h
      simp only[List.mem_map]
      rintro y ⟨z,hz,rfl⟩
      obtain ⟨i,hi,hz'⟩:=List.mem_iff_getElem.1 hz
      have hlen:elems.length=len:=by simpa using mapM_some_length he
      have:=mapM_some_get he i i (by simp[show i<len by omega])
      rw[List.getElem?_eq_getElem hi,hz',Option.bind_eq_some_iff]at this
      obtain ⟨cs',_,h2⟩:=this
      exact ih _ _ _ hpt.1 h2
     ·simp at h
    all_goals first |(rename_i heq _;cases heq;done)|(rename_i heq;cases heq;done)|(simp at h;done)
   case struct fs=>
    have h':(if cs.length=P.cellsOf t then (fs.toList.mapM fun f=>DataW.trod enc P w base sp held fuel f.type ((cs.drop f.offset).take (P.cellsOf f.type))).map fun xs=>(DataW.agg (xs.map (·.1)),xs.flatMap (·.2))else none)=some x:=by
     rw[←h]
    split at h'
    ·simp only[Option.map_eq_some_iff]at h'
     obtain ⟨xs,hm,rfl⟩:=h'
     refine ⟨by simpa using mapM_some_length hm,fun i f d hf hd=> ?_⟩
     have h1:=mapM_some_get hm i f hf
     simp only[List.getElem?_map,Option.map_eq_some_iff]at hd
     obtain ⟨y,hy,rfl⟩:=hd
     rw[hy]at h1
     exact ih _ _ _ (by
      have:=List.all_eq_true.1 hpt f (List.mem_of_getElem? hf)
      simpa using this) h1
    ·simp at h'
   case array m e=>
    have h':(if cs.length=P.cellsOf t then ((List.range m).mapM fun i=>DataW.trod enc P w base sp held fuel e ((cs.drop (i*P.cellsOf e)).take (P.cellsOf e))).map fun xs=>(DataW.agg (xs.map (·.1)),xs.flatMap (·.2))else none)=some x:=by
     rw[←h]
    split at h'
    ·simp only[Option.map_eq_some_iff]at h'
     obtain ⟨xs,hm,rfl⟩:=h'
     have hlen:xs.length=m:=by simpa using mapM_some_length hm
     refine ⟨by simpa using hlen,fun d hd=> ?_⟩
     simp only[List.mem_map]at hd
     obtain ⟨z,hz,rfl⟩:=hd
     obtain ⟨i,hi,hz'⟩:=List.mem_iff_getElem.1 hz
     have:=mapM_some_get hm i i (by simp[show i<m by omega])
     rw[List.getElem?_eq_getElem hi,hz']at this
     exact ih _ _ _ (by simpa using hpt) this
    ·simp at h'
theorem aNU {base:Nat} {sp:Nat→Bool} {held:Bool} {ts:List TypeId} (hp:aHH P ts=true):
 ∀{us:List TypeId} {vs:List Value} {ds:List (DataW H)} {p:List MemPlace},(∀t∈us,t∈ts)→DataW.TrodAll enc P w base sp held us vs ds p→
  ds.length=us.length∧∀(i:Nat) t d,us[i]? =some t→ds[i]? =some d→∃n,s9 P n t d
 |[],[],[],p,_,_=>⟨rfl,fun i t d h=>by simp at h⟩
 |t::us,v::vs,d::ds,p,ht,⟨p1,q1,⟨n,h1⟩,h2,_⟩=>by
  obtain ⟨a,b⟩:=aNU hp (fun t' h=>ht t' (by simp[h])) h2
  refine ⟨by simp[a],fun i t' d' e1 e2=> ?_⟩
  cases i with
  |zero=>
   simp at e1 e2
   subst e1;subst e2
   exact ⟨n,aYq hp n _ _ _ (ht t (by simp)) h1⟩
  |succ i=>exact b i t' d' (by simpa using e1) (by simpa using e2)
 |[],_::_,_,_,_,h=>by simp[DataW.TrodAll]at h
 |[],[],_::_,_,_,h=>by simp[DataW.TrodAll]at h
 |_::_,[],_,_,_,h=>by simp[DataW.TrodAll]at h
 |_::_,_::_,[],_,_,h=>by simp[DataW.TrodAll]at h
mutual
def wS:DataW H→Nat
 | .lit (.string bytes)=>bytes.length+1
 | .slice elems _=>aA4 elems+1
 | .agg parts=>aA4 parts+1
 |_=>1
def aA4:List (DataW H)→Nat
 |[]=>0
 |d::r=>wS d+aA4 r
end
end Go.Ev
namespace Go.Ev
abbrev Bytes:=List UInt8
section a4P
@[simp] theorem oA (c:C) (r:Row):at_ (c::r) 0=c:=rfl
@[simp] theorem a7R (c:C) (r:Row) (i:Nat):at_ (c::r) (i+1)=at_ r i:=rfl
@[simp] theorem bBm (a b:C) (r:Row):at_ (a::b::r) 1=b:=rfl
@[simp] theorem yA (c:Row) (r:List Row):aA (c::r) 0=c:=rfl
@[simp] theorem a1v (c:Row) (r:List Row) (i:Nat):aA (c::r) (i+1)=aA r i:=rfl
@[simp] theorem rA (n:Int):(C.int n).vA=n:=rfl
@[simp] theorem eA (b:Bool):(C.bool b).lK=b:=rfl
@[simp] theorem zA (s:Bytes):(C.str s).mD=s:=rfl
@[simp] theorem vC (r:Row):(C.dp r).cA=r:=rfl
@[simp] theorem aE (r:Row):(C.dp r).jB=true:=rfl
@[simp] theorem aHI (r:List Row):(C.sl r).rows=r:=rfl
@[simp] theorem a4h:C.fA.rows=[]:=rfl
@[simp] theorem aI (r:Row) (x:List PV):hd (.r r::x)=r:=rfl
end a4P
def slC:Bool→List Row→C
 |true,[]=> .fA
 |_,rows=> .sl rows
@[simp] theorem sJ (b:Bool) (rows:List Row):(slC b rows).rows=rows:=by
  cases b<;>cases rows<;>rfl
theorem aXf (rows:List Row):slC false rows= .sl rows:=by cases rows<;>rfl
theorem fC {α:Type} (f:α→Row) (l:List α) (i:Nat) (h:i<l.length):aA (l.map f) i=f l[i]:=by
 simp[aA,List.getD_eq_getElem?_getD,h]
def tZ (n:Int):Prop:= -9223372036854775808≤n∧n≤9223372036854775807
theorem wrap_i64 {n:Int} (h:tZ n):IntKind.wrap .i64 n=n:=by
 obtain ⟨h1,h2⟩:=h
 simp[IntKind.wrap,IntKind.signed,IntKind.bits]
 omega
theorem aAv {n:Int} (h:(Lit.int .i64 n).wf=true):tZ n:=by
 simpa[Lit.wf,IntKind.min,IntKind.max,IntKind.signed,IntKind.bits,tZ]using h
inductive wA where |mk (k n:Int) (s:Bytes) (nil:Bool) (fs:List (Bytes×wA))
def wA.k:wA→Int | .mk k _ _ _ _=>k
def wA.n:wA→Int | .mk _ n _ _ _=>n
def wA.s:wA→Bytes | .mk _ _ s _ _=>s
def wA.nil:wA→Bool | .mk _ _ _ b _=>b
def wA.fs:wA→List (Bytes×wA)| .mk _ _ _ _ fs=>fs
mutual
def wA.fc:wA→C
 | .mk _ _ _ b fs=>slC b (wA.rowsOf fs)
def wA.rowsOf:List (Bytes×wA)→List Row
 |[]=>[]
 |(nm,v)::r=>[.str nm, .int v.k, .int v.n, .str v.s,v.fc]::wA.rowsOf r
end
def wA.row (v:wA):Row:=[.int v.k, .int v.n, .str v.s,v.fc]
def nD (p:Bytes×wA):Row:= .str p.1::p.2.row
theorem wA.u9:∀(fs:List (Bytes×wA)),wA.rowsOf fs=fs.map nD
 |[]=>by simp only[wA.rowsOf,List.map_nil]
 |(nm,v)::r=>by simp only[wA.rowsOf,List.map_cons,wA.u9 r,nD,wA.row]
theorem wA.aYr (v:wA):v.fc=slC v.nil (v.fs.map nD):=by
 cases v;simp only[wA.fc,wA.nil,wA.fs,wA.u9]
@[simp] theorem wA.wQ (v:wA):v.fc.rows=v.fs.map nD:=by rw[v.aYr,sJ]
theorem wA.oP {v:wA} {p:Bytes×wA} (h:p∈v.fs):SizeOf.sizeOf p.2<SizeOf.sizeOf v:=by
 cases v with
 |mk k n s b fs=>
  have h1:=List.sizeOf_lt_of_mem (show p∈fs from h)
  have h2:SizeOf.sizeOf p.2<SizeOf.sizeOf p:=by cases p;simp;omega
  simp only[wA.mk.sizeOf_spec]
  omega
mutual
def wA.wf:wA→Prop
 | .mk k n _ _ fs=>tZ k∧tZ n∧wA.wfs fs
def wA.wfs:List (Bytes×wA)→Prop
 |[]=>True
 |(_,v)::r=>v.wf∧wA.wfs r
end
mutual
def wA.xC:wA→Nat
 | .mk _ _ s _ fs=>s.length+wA.tG fs+1
def wA.tG:List (Bytes×wA)→Nat
 |[]=>0
 |(nm,v)::r=>nm.length+v.xC+1+wA.tG r
end
theorem wA.aLJ:∀{fs:List (Bytes×wA)} {p:Bytes×wA},wA.wfs fs→p∈fs→p.2.wf
 |(nm,v)::r,p,h,hp=>by
  simp only[wA.wfs]at h
  rcases List.mem_cons.1 hp with rfl |hp
  ·exact h.1
  ·exact wA.aLJ h.2 hp
theorem wA.aOv {v:wA} (h:v.wf):tZ v.n:=by cases v;simp only[wA.wf]at h;exact h.2.1
theorem wA.aM1 {v:wA} (h:v.wf) {p:Bytes×wA} (hp:p∈v.fs):p.2.wf:=by
 cases v;simp only[wA.wf]at h;exact wA.aLJ h.2.2 hp
theorem wA.aGO:∀{fs:List (Bytes×wA)} {p:Bytes×wA},p∈fs→p.1.length+p.2.xC+1≤wA.tG fs
 |(nm,v)::r,p,hp=>by
  simp only[wA.tG]
  rcases List.mem_cons.1 hp with rfl |hp
  ·simp
  ·have:=wA.aGO hp;omega
theorem wA.aGP:∀(fs:List (Bytes×wA)),fs.length≤wA.tG fs
 |[]=>by simp[wA.tG]
 |(nm,v)::r=>by have:=wA.aGP r;simp only[wA.tG,List.length_cons];omega
theorem wA.aM (v:wA):v.xC=v.s.length+wA.tG v.fs+1:=by cases v;simp only[wA.xC,wA.s,wA.fs]
theorem wA.aEO (v:wA):v.fs.length≤v.xC:=by have:=wA.aGP v.fs;rw[v.aM];omega
theorem wA.aA5 {v:wA} {p:Bytes×wA} (hp:p∈v.fs):p.1.length+p.2.xC<v.xC:=by have:=wA.aGO hp;rw[v.aM];omega
inductive cB where |mk (op:Int) (name to:Bytes) (nb:Bool) (names:List Bytes) (n low high sep:Int) (v:wA) (pb:Bool) (pairs:List (wA×wA)) (kb:Bool) (kids:List cB)
namespace cB
def op:cB→Int | .mk x _ _ _ _ _ _ _ _ _ _ _ _ _=>x
def name:cB→Bytes | .mk _ x _ _ _ _ _ _ _ _ _ _ _ _=>x
def to:cB→Bytes | .mk _ _ x _ _ _ _ _ _ _ _ _ _ _=>x
def nb:cB→Bool | .mk _ _ _ x _ _ _ _ _ _ _ _ _ _=>x
def names:cB→List Bytes | .mk _ _ _ _ x _ _ _ _ _ _ _ _ _=>x
def n:cB→Int | .mk _ _ _ _ _ x _ _ _ _ _ _ _ _=>x
def low:cB→Int | .mk _ _ _ _ _ _ x _ _ _ _ _ _ _=>x
def high:cB→Int | .mk _ _ _ _ _ _ _ x _ _ _ _ _ _=>x
def sep:cB→Int | .mk _ _ _ _ _ _ _ _ x _ _ _ _ _=>x
def v:cB→wA | .mk _ _ _ _ _ _ _ _ _ x _ _ _ _=>x
def pb:cB→Bool | .mk _ _ _ _ _ _ _ _ _ _ x _ _ _=>x
def pairs:cB→List (wA×wA)| .mk _ _ _ _ _ _ _ _ _ _ _ x _ _=>x
def kb:cB→Bool | .mk _ _ _ _ _ _ _ _ _ _ _ _ x _=>x
def kids:cB→List cB | .mk _ _ _ _ _ _ _ _ _ _ _ _ _ x=>x
end cB
def tA (p:wA×wA):Row:=[.int p.1.k, .int p.1.n, .str p.1.s,p.1.fc, .int p.2.k, .int p.2.n, .str p.2.s,p.2.fc]
def iB (s:Bytes):Row:=[.str s]
mutual
def cB.kc:cB→C
 | .mk _ _ _ _ _ _ _ _ _ _ _ _ kb kids=>slC kb (cB.rowsOf kids)
def cB.rowsOf:List cB→List Row
 |[]=>[]
 |l::r=>[.int l.op, .str l.name, .str l.to,slC l.nb (l.names.map iB), .int l.n, .int l.low, .int l.high, .int l.sep, .int l.v.k, .int l.v.n, .str l.v.s,l.v.fc,slC l.pb (l.pairs.map tA),l.kc]::cB.rowsOf r
end
def cB.row (l:cB):Row:=[.int l.op, .str l.name, .str l.to,slC l.nb (l.names.map iB), .int l.n, .int l.low, .int l.high, .int l.sep, .int l.v.k, .int l.v.n, .str l.v.s,l.v.fc,slC l.pb (l.pairs.map tA),l.kc]
theorem cB.u9:∀(ls:List cB),cB.rowsOf ls=ls.map cB.row
 |[]=>by simp only[cB.rowsOf,List.map_nil]
 |l::r=>by simp only[cB.rowsOf,List.map_cons,cB.u9 r,cB.row]
theorem cB.a4Q (l:cB):l.kc=slC l.kb (l.kids.map cB.row):=by
 cases l;simp only[cB.kc,cB.kb,cB.kids,cB.u9]
@[simp] theorem cB.yS (l:cB):l.kc.rows=l.kids.map cB.row:=by rw[l.a4Q,sJ]
theorem cB.oP {l k:cB} (h:k∈l.kids):SizeOf.sizeOf k<SizeOf.sizeOf l:=by
 cases l with
 |mk=>
  have h1:=List.sizeOf_lt_of_mem (show k∈_ from h)
  simp only[cB.kids]at h1
  simp only[cB.mk.sizeOf_spec]
  omega
mutual
def cB.wf:cB→Prop
 | .mk op _ _ _ _ n low high sep v _ pairs _ kids=>tZ op∧tZ n∧tZ low∧tZ high∧(0≤sep∧sep≤255)∧v.wf∧(∀p∈pairs,p.1.wf∧p.2.wf)∧cB.wfs kids
def cB.wfs:List cB→Prop
 |[]=>True
 |l::r=>l.wf∧cB.wfs r
end
def tJ:List Bytes→Nat
 |[]=>0
 |s::r=>s.length+1+tJ r
def jN:List (wA×wA)→Nat
 |[]=>0
 |p::r=>p.1.xC+p.2.xC+1+jN r
mutual
def cB.xC:cB→Nat
 | .mk _ name to _ names _ _ _ _ v _ pairs _ kids=>name.length+to.length+tJ names+v.xC+jN pairs+cB.tG kids+1
def cB.tG:List cB→Nat
 |[]=>0
 |l::r=>l.xC+cB.tG r
end
theorem cB.aM (l:cB):l.xC=l.name.length+l.to.length+tJ l.names+l.v.xC+jN l.pairs+cB.tG l.kids+1:=by
 cases l;simp only[cB.xC,cB.name,cB.to,cB.names,cB.v,cB.pairs,cB.kids]
theorem cB.aYs (l:cB):1≤l.xC:=by rw[l.aM];omega
theorem aD5:∀(l:List Bytes),l.length≤tJ l
 |[]=>by simp[tJ]
 |s::r=>by have:=aD5 r;simp only[tJ,List.length_cons];omega
theorem aHJ:∀{l:List Bytes} {s:Bytes},s∈l→s.length<tJ l
 |x::r,s,h=>by
  simp only[tJ]
  rcases List.mem_cons.1 h with rfl |h
  ·omega
  ·have:=aHJ h;omega
theorem aKp:∀(l:List (wA×wA)),l.length≤jN l
 |[]=>by simp[jN]
 |s::r=>by have:=aKp r;simp only[jN,List.length_cons];omega
theorem aKq:∀{l:List (wA×wA)} {p:wA×wA},p∈l→p.1.xC+p.2.xC<jN l
 |x::r,s,h=>by
  simp only[jN]
  rcases List.mem_cons.1 h with rfl |h
  ·omega
  ·have:=aKq h;omega
theorem cB.aGP:∀(l:List cB),l.length≤cB.tG l
 |[]=>by simp[cB.tG]
 |s::r=>by have:=cB.aGP r;have:=s.aYs;simp only[cB.tG,List.length_cons];omega
theorem cB.aGO:∀{l:List cB} {k:cB},k∈l→k.xC≤cB.tG l
 |x::r,k,h=>by
  simp only[cB.tG]
  rcases List.mem_cons.1 h with rfl |h
  ·omega
  ·have:=cB.aGO h;omega
theorem cB.aYt {l k:cB} (h:k∈l.kids):k.xC<l.xC:=by have:=cB.aGO h;rw[l.aM];omega
theorem cB.aLJ:∀{ls:List cB} {k:cB},cB.wfs ls→k∈ls→k.wf
 |l::r,k,h,hk=>by
  simp only[cB.wfs]at h
  rcases List.mem_cons.1 hk with rfl |hk
  ·exact h.1
  ·exact cB.aLJ h.2 hk
theorem cB.a2t {l k:cB} (h:l.wf) (hk:k∈l.kids):k.wf:=by
 cases l;simp only[cB.wf]at h;exact cB.aLJ h.2.2.2.2.2.2.2 hk
theorem cB.a2u {l:cB} (h:l.wf):l.v.wf:=by cases l;simp only[cB.wf]at h;exact h.2.2.2.2.2.1
theorem cB.aSz {l:cB} (h:l.wf) {p:wA×wA} (hp:p∈l.pairs):p.1.wf∧p.2.wf:=by cases l;simp only[cB.wf]at h;exact h.2.2.2.2.2.2.1 p hp
variable {H:Type} {P:Program}
def isStruct (P:Program) (t:TypeId) (us:List TypeId):Bool:=match P.underlying t with
 |some (.struct fs)=>decide (fs.toList.map (·.type)=us)
 |_=>false
theorem aKK {n:Nat} {t:TypeId} {us:List TypeId} {d:DataW H} (ht:isStruct P t us=true) (h:s9 P (n+1) t d):
 ∃ds,d= .agg ds∧ds.length=us.length∧∀(i:Nat) u x,us[i]? =some u→ds[i]? =some x→s9 P n u x:=by
 unfold isStruct at ht
 simp only[s9]at h
 cases hu:P.underlying t with
 |none=>simp[hu]at ht
 |some dd=>
  cases dd<;>simp only[hu]at ht h<;>try (simp at ht;done)
  rename_i fs
  have ht:=of_decide_eq_true ht
  cases d<;>(try simp only at h)<;>try (exact h.elim)
  rename_i ds
  subst ht
  refine ⟨ds,rfl,by simp[h.1],fun i u x hi hx=> ?_⟩
  simp only[List.getElem?_map,Option.map_eq_some_iff]at hi
  obtain ⟨f,hf,rfl⟩:=hi
  exact h.2 i f x hf hx
theorem aHK {n:Nat} {t:TypeId} {k:IntKind} {d:DataW H} (ht:P.underlying t=some (.int k)) (h:s9 P n t d):∃m,d= .lit (.int k m)∧(Lit.int k m).wf=true:=by
 cases n with
 |zero=>simp[s9]at h
 |succ n=>
  simp only[s9,ht]at h
  cases d<;>(try simp only at h)<;>try (exact h.elim)
  rename_i l
  cases l<;>(try simp only at h)<;>try (exact h.elim)
  obtain ⟨rfl,hw⟩:=h
  exact ⟨_,rfl,hw⟩
theorem aLK {n:Nat} {t:TypeId} {d:DataW H} (ht:P.underlying t=some .string) (h:s9 P n t d):∃s,d= .lit (.string s):=by
 cases n with
 |zero=>simp[s9]at h
 |succ n=>
  simp only[s9,ht]at h
  cases d<;>(try simp only at h)<;>try (exact h.elim)
  rename_i l
  cases l<;>(try simp only at h)<;>try (exact h.elim)
  exact ⟨_,rfl⟩
theorem aJ0 {n:Nat} {t e:TypeId} {d:DataW H} (ht:P.underlying t=some (.slice e)) (h:s9 P n t d):∃(b:Bool) (es:List (DataW H)),(∀x∈es,s9 P (n - 1) e x)∧uZ d=[slC b (es.map uZ)]∧wS d=aA4 es+1:=by
 cases n with
 |zero=>simp[s9]at h
 |succ n=>
  simp only[s9,ht]at h
  cases d<;>(try simp only at h)<;>try (exact h.elim)
  ·exact ⟨true,[],by simp,rfl,by simp only[wS,aA4]⟩
  ·rename_i es sp
   exact ⟨false,es,h,by simp only[uZ,aM2,aXf],by simp only[wS]⟩
theorem aXg {n m:Nat} {t e:TypeId} {d:DataW H} (ht:P.underlying t=some (.array m e)) (h:s9 P (n+1) t d):∃ds,d= .agg ds∧ds.length=m∧∀x∈ds,s9 P n e x:=by
 simp only[s9,ht]at h
 cases d<;>(try simp only at h)<;>try (exact h.elim)
 exact ⟨_,rfl,h.1,h.2⟩
theorem aJd {α:Type} {n:Nat} {e:TypeId} (row:α→Row) (good:α→Prop) (xC:α→Nat) (tG:List α→Nat) (c:Nat) (h0:tG []=0) (h1:∀a r,tG (a::r)≤xC a+c+tG r)
 (one:∀d:DataW H,s9 P n e d→∃a,uZ d=row a∧good a∧xC a+c≤wS d):
 ∀(es:List (DataW H)),(∀x∈es,s9 P n e x)→∃as:List α,es.map uZ=as.map row∧(∀a∈as,good a)∧tG as≤aA4 es
 |[],_=>⟨[],rfl,by simp,by rw[h0];omega⟩
 |d::r,h=>by
  obtain ⟨a,e1,g1,b1⟩:=one d (h d (by simp))
  obtain ⟨as,e2,g2,b2⟩:=aJd row good xC tG c h0 h1 one r (fun x hx=>h x (by simp[hx]))
  refine ⟨a::as,by simp[e1,e2], ?_, ?_⟩
  ·intro x hx
   rcases List.mem_cons.1 hx with rfl |hx
   ·exact g1
   ·exact g2 x hx
  ·have:=h1 a as
   simp only[aA4]
   omega
theorem aYu:∀{fs:List (Bytes×wA)},(∀p∈fs,p.2.wf)→wA.wfs fs
 |[],_=>by simp only[wA.wfs]
 |(nm,v)::r,h=>by simp only[wA.wfs];exact ⟨h (nm,v) (by simp),aYu (fun p hp=>h p (by simp[hp]))⟩
theorem aV3:∀{ls:List cB},(∀l∈ls,l.wf)→cB.wfs ls
 |[],_=>by simp only[cB.wfs]
 |l::r,h=>by simp only[cB.wfs];exact ⟨h l (by simp),aV3 (fun p hp=>h p (by simp[hp]))⟩
structure a2v (P:Program) (tI tU tS tV tFs tF:TypeId):Prop where
 int:P.underlying tI=some (.int .i64)
 u8:P.underlying tU=some (.int .u8)
 str:P.underlying tS=some .string
 val:isStruct P tV [tI,tI,tS,tFs]=true
 a8s:P.underlying tFs=some (.slice tF)
 fld:isStruct P tF [tS,tV]=true
theorem a4R {α:Type} {l:List α} (h:l.length=4):∃a b c d,l=[a,b,c,d]:=by
 match l,h with
 |[a,b,c,d],_=>exact ⟨a,b,c,d,rfl⟩
theorem a1w {α:Type} {l:List α} (h:l.length=2):∃a b,l=[a,b]:=by
 match l,h with
 |[a,b],_=>exact ⟨a,b,rfl⟩
theorem a2w {α:Type} {l:List α} (h:l.length=11):∃a b c d e f g i j k m,l=[a,b,c,d,e,f,g,i,j,k,m]:=by
 match l,h with
 |[a,b,c,d,e,f,g,i,j,k,m],_=>exact ⟨a,b,c,d,e,f,g,i,j,k,m,rfl⟩
theorem aSA {tI tU tS tV tFs tF:TypeId} (A:a2v P tI tU tS tV tFs tF):∀(n:Nat) (d:DataW H),s9 P n tV d→∃v:wA,uZ d=v.row∧v.wf∧v.xC≤wS d:=by
 intro n
 induction n using Nat.strongRecOn with
 |ind n ih=>
  intro d h
  cases n with
  |zero=>simp[s9]at h
  |succ n=>
   obtain ⟨ds,rfl,hl,hf⟩:=aKK A.val h
   obtain ⟨d0,d1,d2,d3,rfl⟩:=a4R hl
   obtain ⟨k,rfl,wk⟩:=aHK A.int (hf 0 _ _ rfl rfl)
   obtain ⟨m,rfl,wm⟩:=aHK A.int (hf 1 _ _ rfl rfl)
   obtain ⟨s,rfl⟩:=aLK A.str (hf 2 _ _ rfl rfl)
   obtain ⟨b,es,hes,hrow,aV4⟩:=aJ0 A.a8s (hf 3 _ _ rfl rfl)
   obtain ⟨fs,e1,e2,e3⟩:=aJd (α:=Bytes×wA) nD (fun p=>p.2.wf) (fun p=>p.1.length+p.2.xC) wA.tG 1 (by simp only[wA.tG]) (fun p r=>by obtain ⟨nm,v⟩:=p;simp only[wA.tG];omega) (by
    intro d hd
    cases hn:n - 1 with
    |zero=>rw[hn]at hd;simp[s9]at hd
    |succ q=>
     rw[hn]at hd
     obtain ⟨ds,rfl,hl,hf⟩:=aKK A.fld hd
     obtain ⟨d0,d1,rfl⟩:=a1w hl
     obtain ⟨nm,rfl⟩:=aLK A.str (hf 0 _ _ rfl rfl)
     obtain ⟨v,h1,h2,h3⟩:=ih q (by omega) d1 (hf 1 _ _ rfl rfl)
     refine ⟨(nm,v), ?_,h2, ?_⟩
     ·simp only[uZ,aKd,h1,nD,List.append_nil,List.singleton_append]
     ·simp only[wS,aA4];omega) es hes
   refine ⟨.mk k m s b fs, ?_, ?_, ?_⟩
   ·simp only[uZ,aKd,hrow,wA.row,wA.k,wA.n,wA.s,wA.fc,wA.u9,e1,List.append_nil,List.cons_append,List.nil_append]
   ·simp only[wA.wf];exact ⟨aAv wk,aAv wm,aYu e2⟩
   ·simp only[wA.xC,wS,aA4,aV4];omega
structure a1x (P:Program) (tI tU tS tV tL tSs tP tPs tLs:TypeId):Prop where
 lens:isStruct P tL [tI,tS,tS,tSs,tI,tI,tI,tU,tV,tPs,tLs]=true
 strs:P.underlying tSs=some (.slice tS)
 pairs:P.underlying tPs=some (.slice tP)
 pair:P.underlying tP=some (.array 2 tV)
 kids:P.underlying tLs=some (.slice tL)
theorem aYv {tS tSs:TypeId} (hs:P.underlying tS=some .string) (hss:P.underlying tSs=some (.slice tS)) {n:Nat} {d:DataW H} (h:s9 P n tSs d):
 ∃(b:Bool) (l:List Bytes),uZ d=[slC b (l.map iB)]∧tJ l+1≤wS d:=by
 obtain ⟨b,es,hes,hrow,aV4⟩:=aJ0 hss h
 obtain ⟨l,e1,_,e3⟩:=aJd (α:=Bytes) iB (fun _=>True) (fun s=>s.length) tJ 1 (by simp only[tJ]) (fun p r=>by simp only[tJ];omega) (by
  intro d hd
  obtain ⟨s,rfl⟩:=aLK hs hd
  exact ⟨s,by simp only[uZ,iB],trivial,by simp only[wS];omega⟩) es hes
 exact ⟨b,l,by rw[hrow,e1],by omega⟩
theorem aYw {tI tU tS tV tFs tF tL tSs tP tPs tLs:TypeId} (A:a2v P tI tU tS tV tFs tF) (B:a1x P tI tU tS tV tL tSs tP tPs tLs):
 ∀(n:Nat) (d:DataW H),s9 P n tL d→∃l:cB,uZ d=l.row∧l.wf∧l.xC≤wS d:=by
 intro n
 induction n using Nat.strongRecOn with
 |ind n ih=>
  intro d h
  cases n with
  |zero=>simp[s9]at h
  |succ n=>
   obtain ⟨ds,rfl,hl,hf⟩:=aKK B.lens h
   obtain ⟨d0,d1,d2,d3,d4,d5,d6,d7,d8,d9,d10,rfl⟩:=a2w hl
   obtain ⟨op,rfl,w0⟩:=aHK A.int (hf 0 _ _ rfl rfl)
   obtain ⟨nm,rfl⟩:=aLK A.str (hf 1 _ _ rfl rfl)
   obtain ⟨to,rfl⟩:=aLK A.str (hf 2 _ _ rfl rfl)
   obtain ⟨nb,names,r3,k3⟩:=aYv A.str B.strs (hf 3 _ _ rfl rfl)
   obtain ⟨nn,rfl,w4⟩:=aHK A.int (hf 4 _ _ rfl rfl)
   obtain ⟨lo,rfl,w5⟩:=aHK A.int (hf 5 _ _ rfl rfl)
   obtain ⟨hi,rfl,w6⟩:=aHK A.int (hf 6 _ _ rfl rfl)
   obtain ⟨se,rfl,w7⟩:=aHK A.u8 (hf 7 _ _ rfl rfl)
   obtain ⟨v,r8,w8,k8⟩:=aSA A _ _ (hf 8 _ _ rfl rfl)
   obtain ⟨pb,ps,hps,r9,k9⟩:=aJ0 B.pairs (hf 9 _ _ rfl rfl)
   obtain ⟨kb,ks,hks,r10,k10⟩:=aJ0 B.kids (hf 10 _ _ rfl rfl)
   obtain ⟨pairs,e1,e2,e3⟩:=aJd (α:=wA×wA) tA (fun p=>p.1.wf∧p.2.wf) (fun p=>p.1.xC+p.2.xC) jN 1 (by simp only[jN]) (fun p r=>by simp only[jN];omega) (by
    intro d hd
    cases hn:n - 1 with
    |zero=>rw[hn]at hd;simp[s9]at hd
    |succ q=>
     rw[hn]at hd
     obtain ⟨ds,rfl,hl,hf⟩:=aXg B.pair hd
     obtain ⟨d0,d1,rfl⟩:=a1w hl
     obtain ⟨v,a1,a2,a3⟩:=aSA A _ _ (hf d0 (by simp))
     obtain ⟨v',b1,b2,b3⟩:=aSA A _ _ (hf d1 (by simp))
     refine ⟨(v,v'), ?_,⟨a2,b2⟩, ?_⟩
     ·simp only[uZ,aKd,a1,b1,wA.row,tA,List.append_nil,List.cons_append,List.nil_append]
     ·simp only[wS,aA4];omega) ps hps
   obtain ⟨kids,f1,f2,f3⟩:=aJd (α:=cB) cB.row cB.wf cB.xC cB.tG 0 (by simp only[cB.tG]) (fun p r=>by simp only[cB.tG];omega) (fun d hd=>by
    obtain ⟨l,g1,g2,g3⟩:=ih (n - 1) (by omega) d hd
    exact ⟨l,g1,g2,by omega⟩) ks hks
   refine ⟨.mk op nm to nb names nn lo hi se v pb pairs kb kids, ?_, ?_, ?_⟩
   ·simp only[uZ,aKd,r3,r8,r9,r10,wA.row,cB.row,cB.op,cB.name,cB.to,cB.nb,cB.names,cB.n,cB.low,cB.high,cB.sep,cB.v,cB.pb,cB.pairs,cB.kc,cB.u9,e1,f1,List.append_nil,List.cons_append,List.nil_append]
   ·simp only[cB.wf]
    have h7:0≤se∧se≤255:=by simpa[Lit.wf,IntKind.min,IntKind.max,IntKind.signed,IntKind.bits]using w7
    exact ⟨aAv w0,aAv w4,aAv w5,aAv w6,h7,w8,e2,aV3 f2⟩
   ·simp only[cB.xC,wS,aA4,k9,k10];omega
end Go.Ev
namespace Go.Ev
@[simp] theorem aLL (v:wA):at_ v.row 0= .int v.k:=rfl
@[simp] theorem aOX (v:wA):at_ v.row 1= .int v.n:=rfl
@[simp] theorem aOY (v:wA):at_ v.row 2= .str v.s:=rfl
@[simp] theorem aA6 (v:wA):at_ v.row 3=v.fc:=rfl
@[simp] theorem aV5 (p:Bytes×wA):at_ (nD p) 0= .str p.1:=rfl
@[simp] theorem aV6 (p:Bytes×wA):at_ (nD p) 1= .int p.2.k:=rfl
@[simp] theorem aV7 (p:Bytes×wA):at_ (nD p) 2= .int p.2.n:=rfl
@[simp] theorem aV8 (p:Bytes×wA):at_ (nD p) 3= .str p.2.s:=rfl
@[simp] theorem aV9 (p:Bytes×wA):at_ (nD p) 4=p.2.fc:=rfl
@[simp] theorem a4T (p:wA×wA):at_ (tA p) 0= .int p.1.k:=rfl
@[simp] theorem a4U (p:wA×wA):at_ (tA p) 1= .int p.1.n:=rfl
@[simp] theorem a4V (p:wA×wA):at_ (tA p) 2= .str p.1.s:=rfl
@[simp] theorem a4W (p:wA×wA):at_ (tA p) 3=p.1.fc:=rfl
@[simp] theorem a4X (p:wA×wA):at_ (tA p) 4= .int p.2.k:=rfl
@[simp] theorem a4Y (p:wA×wA):at_ (tA p) 5= .int p.2.n:=rfl
@[simp] theorem a4Z (p:wA×wA):at_ (tA p) 6= .str p.2.s:=rfl
@[simp] theorem a41 (p:wA×wA):at_ (tA p) 7=p.2.fc:=rfl
@[simp] theorem a7U (s:Bytes):at_ (iB s) 0= .str s:=rfl
@[simp] theorem aCT (l:cB):at_ l.row 0= .int l.op:=rfl
@[simp] theorem aOZ (l:cB):at_ l.row 1= .str l.name:=rfl
@[simp] theorem aO0 (l:cB):at_ l.row 2= .str l.to:=rfl
@[simp] theorem aO1 (l:cB):at_ l.row 3=slC l.nb (l.names.map iB):=rfl
@[simp] theorem aWa (l:cB):at_ l.row 4= .int l.n:=rfl
@[simp] theorem aO2 (l:cB):at_ l.row 5= .int l.low:=rfl
@[simp] theorem aO3 (l:cB):at_ l.row 6= .int l.high:=rfl
@[simp] theorem aWb (l:cB):at_ l.row 7= .int l.sep:=rfl
@[simp] theorem aSB (l:cB):at_ l.row 8= .int l.v.k:=rfl
@[simp] theorem a7V (l:cB):at_ l.row 9= .int l.v.n:=rfl
@[simp] theorem a42 (l:cB):at_ l.row 10= .str l.v.s:=rfl
@[simp] theorem a43 (l:cB):at_ l.row 11=l.v.fc:=rfl
@[simp] theorem aLM (l:cB):at_ l.row 12=slC l.pb (l.pairs.map tA):=rfl
@[simp] theorem aA7 (l:cB):at_ l.row 13=l.kc:=rfl
@[simp] theorem aTz (v:wA):([.int v.k, .int v.n, .str v.s,v.fc]:Row)=v.row:=rfl
@[simp] theorem mE (c:C) (new:List Row):(pE c new).rows=c.rows++new:=by
  unfold pE
  split<;>simp
def vZ {α:Type} (f:α→α→Bool):List α→List α→Bool
 |[],[]=>true
 |a::r,b::s=>f a b&&vZ f r s
 |_,_=>false
theorem aTA {α:Type} {f:α→α→Bool}:∀{l r:List α},vZ f l r=true→l.length=r.length
 |[],[],_=>rfl
 |a::l,b::r,h=>by
  simp only[vZ,Bool.and_eq_true]at h
  simp[aTA h.2]
 |[],_::_,h=>by simp[vZ]at h
 |_::_,[],h=>by simp[vZ]at h
mutual
def wA.eqv:wA→wA→Bool
 | .mk k n s _ fs, .mk k' n' s' _ fs'=>k==k'&&(n==n'&&(s==s'&&wA.aKL fs fs'))
def wA.aKL:List (Bytes×wA)→List (Bytes×wA)→Bool
 |[],[]=>true
 |(a,v)::r,(b,w)::r'=>a==b&&v.eqv w&&wA.aKL r r'
 |_,_=>false
end
def aKr (p q:Bytes×wA):Bool:=p.1==q.1&&p.2.eqv q.2
theorem aRz:∀(a b:List (Bytes×wA)),wA.aKL a b=vZ aKr a b
 |[],[]=>by simp only[wA.aKL,vZ]
 |(a,v)::r,(b,w)::r'=>by simp only[wA.aKL,vZ,aKr,aRz r r']
 |[],_::_=>by simp only[wA.aKL,vZ]
 |_::_,[]=>by simp only[wA.aKL,vZ]
theorem wA.aSC (v w:wA):v.eqv w=(v.k==w.k&&(v.n==w.n&&(v.s==w.s&&vZ aKr v.fs w.fs))):=by
 cases v;cases w;simp only[wA.eqv,wA.k,wA.n,wA.s,wA.fs,aRz]
def aYx (p q:wA×wA):Bool:=p.1.eqv q.1&&p.2.eqv q.2
mutual
def cB.eqv:cB→cB→Bool
 | .mk op nm to _ ns n lo hi se v _ ps _ ks, .mk op' nm' to' _ ns' n' lo' hi' se' v' _ ps' _ ks'=>
   op==op'&&nm==nm'&&to==to'&&n==n'&&lo==lo'&&hi==hi'&&se==se'&&v.eqv v'&&decide (ns=ns')&&vZ aYx ps ps'&&cB.aKL ks ks'
def cB.aKL:List cB→List cB→Bool
 |[],[]=>true
 |a::r,b::r'=>a.eqv b&&cB.aKL r r'
 |_,_=>false
end
theorem aPt:∀(a b:List cB),cB.aKL a b=vZ cB.eqv a b
 |[],[]=>by simp only[cB.aKL,vZ]
 |a::r,b::r'=>by simp only[cB.aKL,vZ,aPt r r']
 |[],_::_=>by simp only[cB.aKL,vZ]
 |_::_,[]=>by simp only[cB.aKL,vZ]
theorem cB.aSC (a b:cB):a.eqv b=(a.op==b.op&&a.name==b.name&&a.to==b.to&&a.n==b.n&&a.low==b.low&&a.high==b.high&&a.sep==b.sep&&a.v.eqv b.v&&decide (a.names=b.names)&&vZ aYx a.pairs b.pairs&&vZ cB.eqv a.kids b.kids):=by
 cases a;cases b;simp only[cB.eqv,cB.op,cB.name,cB.to,cB.n,cB.low,cB.high,cB.sep,cB.v,cB.names,cB.pairs,cB.kids,aPt]
 try rfl
mutual
def cB.norm:cB→cB
 | .mk op nm to _ ns n lo hi se v _ ps _ ks=> .mk op nm to true ns n lo hi se v true ps true (cB.a1y ks)
def cB.a1y:List cB→List cB
 |[]=>[]
 |l::r=>l.norm::cB.a1y r
end
def aKe (a b:Int):Int:=if a<b then -1 else if a>b then 1 else 0
def orI:List Int→Int
 |[]=>0
 |a::r=>if a=0 then orI r else a
def aJe (n:Int):Int:=if n<0 then -1 - (n+9223372036854775808)else n
theorem aXh {a b:Int}:aKe a b=0↔a=b:=by
 unfold aKe
 split
 ·omega
 ·split<;>omega
theorem aYy {a b:Int} (ha:tZ a) (hb:tZ b):aJe a=aJe b↔a=b:=by
 obtain ⟨_,_⟩:=ha
 obtain ⟨_,_⟩:=hb
 unfold aJe
 split<;>split<;>omega
theorem aFU:∀{a b:Bytes},oF a b=0↔a=b
 |[],[]=>by simp[oF]
 |[],_::_=>by simp[oF]
 |_::_,[]=>by simp[oF]
 |a::x,b::y=>by
  simp only[oF,List.cons.injEq]
  split
  ·rename_i h
   constructor
   ·intro h';simp at h'
   ·rintro ⟨rfl,_⟩;exact absurd h (UInt8.lt_irrefl _)
  ·split
   ·rename_i h
    constructor
    ·intro h';simp at h'
    ·rintro ⟨rfl,_⟩;exact absurd h (UInt8.lt_irrefl _)
   ·rename_i h1 h2
    have:a=b:=UInt8.le_antisymm (UInt8.not_lt.1 h2) (UInt8.not_lt.1 h1)
    rw[aFU]
    simp[this]
theorem a0A {n:Int} (h:tZ n) (hn:n<0):bitsOf .and .i64 n 9223372036854775807=n+9223372036854775808:=by
 obtain ⟨h1,h2⟩:=h
 have e:((BitVec.ofInt 64 n)&&&(BitVec.ofInt 64 9223372036854775807)).toNat=(n+9223372036854775808).toNat:=by
  rw[BitVec.toNat_and,BitVec.toNat_ofInt,BitVec.toNat_ofInt]
  have e2:((9223372036854775807:Int)%((2^64:Nat):Int)).toNat=2^63 - 1:=by decide
  rw[e2,Nat.and_two_pow_sub_one_eq_mod]
  omega
 show IntKind.wrap .i64 (((BitVec.ofInt 64 n)&&&(BitVec.ofInt 64 9223372036854775807)).toNat:Int)=_
 rw[e,show (((n+9223372036854775808).toNat:Nat):Int)=n+9223372036854775808 by omega]
 exact wrap_i64 ⟨by omega,by omega⟩
mutual
def wA.cmp:wA→wA→Int
 | .mk k n s _ fs, .mk k' n' s' _ fs'=>
   let c:=orI [aKe k k',aKe (if k=3 then aJe n else n) (if k=3 then aJe n' else n'),oF s s']
   if c=0 then wA.aVa fs fs' else c
def wA.aVa:List (Bytes×wA)→List (Bytes×wA)→Int
 |[],[]=>0
 |[],_::_=> -1
 |_::_,[]=>1
 |(a,v)::r,(b,w)::r'=>let c:=orI [oF a b,v.cmp w];if c=0 then wA.aVa r r' else c
end
def w9 (p q:Bytes×wA):Int:=orI [oF p.1 q.1,p.2.cmp q.2]
def aHL {α:Type} (f:α→α→Int):List α→List α→Int
 |[],[]=>0
 |[],_::_=> -1
 |_::_,[]=>1
 |a::r,b::s=>if f a b=0 then aHL f r s else f a b
theorem aTB:∀(a b:List (Bytes×wA)),wA.aVa a b=aHL w9 a b
 |[],[]=>by simp only[wA.aVa,aHL]
 |(a,v)::r,(b,w)::r'=>by simp only[wA.aVa,aHL,w9,aTB r r'];rfl
 |[],_::_=>by simp only[wA.aVa,aHL]
 |_::_,[]=>by simp only[wA.aVa,aHL]
theorem wA.cmp_eq (v w:wA):v.cmp w=if orI [aKe v.k w.k,aKe (if v.k=3 then aJe v.n else v.n) (if v.k=3 then aJe w.n else w.n),oF v.s w.s]=0 then aHL w9 v.fs w.fs else
 orI [aKe v.k w.k,aKe (if v.k=3 then aJe v.n else v.n) (if v.k=3 then aJe w.n else w.n),oF v.s w.s]:=by
 cases v;cases w;simp only[wA.cmp,wA.k,wA.n,wA.s,wA.fs,aTB];rfl
theorem aPu:∀{l:List Int},orI l=0↔∀a∈l,a=0
 |[]=>by simp[orI]
 |a::r=>by
  simp only[orI,List.mem_cons,forall_eq_or_imp]
  split
  ·rename_i h;rw[aPu];simp[h]
  ·rename_i h;simp[h]
theorem aRA {α:Type} {f:α→α→Int} {g:α→α→Bool}:∀{l r:List α},(∀a∈l,∀b∈r,f a b=0↔g a b=true)→(aHL f l r=0↔vZ g l r=true)
 |[],[],_=>by simp[aHL,vZ]
 |a::l,b::r,h=>by
  have h1:=h a (by simp) b (by simp)
  have h2:=aRA (l:=l) (r:=r) (fun x hx y hy=>h x (by simp[hx]) y (by simp[hy]))
  simp only[aHL,vZ,Bool.and_eq_true]
  split
  ·rename_i e;rw[h2];simp[h1.1 e]
  ·rename_i e
   constructor
   ·intro e';exact absurd e' e
   ·rintro ⟨e',_⟩;exact absurd (h1.2 e') e
 |[],_::_,_=>by simp[aHL,vZ]
 |_::_,[],_=>by simp[aHL,vZ]
theorem wA.aTC (v w:wA) (hv:v.wf) (hw:w.wf):v.cmp w=0↔v.eqv w=true:=by
 have hl:aHL w9 v.fs w.fs=0↔vZ aKr v.fs w.fs=true:=aRA fun p hp q hq=>by
  have:=wA.oP hp
  have ih:=wA.aTC p.2 q.2 (wA.aM1 hv hp) (wA.aM1 hw hq)
  simp only[w9,aKr,aPu,List.mem_cons,List.not_mem_nil,or_false,forall_eq_or_imp,forall_eq,ih,aFU,Bool.and_eq_true,beq_iff_eq]
 have hk:=wA.aOv hv
 have hn:=wA.aOv hw
 have key:orI [aKe v.k w.k,aKe (if v.k=3 then aJe v.n else v.n) (if v.k=3 then aJe w.n else w.n),oF v.s w.s]=0↔v.k=w.k∧v.n=w.n∧v.s=w.s:=by
  simp only[aPu,List.mem_cons,List.not_mem_nil,or_false,forall_eq_or_imp,forall_eq,aXh,aFU]
  by_cases k3:v.k=3
  ·simp only[k3,if_true,aYy hk hn]
  ·simp only[k3,if_false]
 rw[v.cmp_eq,v.aSC]
 simp only[Bool.and_eq_true,beq_iff_eq]
 by_cases e:orI [aKe v.k w.k,aKe (if v.k=3 then aJe v.n else v.n) (if v.k=3 then aJe w.n else w.n),oF v.s w.s]=0
 ·rw[if_pos e,hl]
  obtain ⟨e1,e2,e3⟩:=key.1 e
  simp[e1,e2,e3]
 ·rw[if_neg e]
  constructor
  ·intro e';exact absurd e' e
  ·rintro ⟨e1,e2,e3,_⟩
   exact absurd (key.2 ⟨e1,e2,e3⟩) e
 termination_by SizeOf.sizeOf v
def aM3 {α:Type} (f:α→α→Int):List α→List α→Int
 |[],_=>0
 |_::_,[]=>1
 |a::r,b::s=>if f a b=0 then aM3 f r s else f a b
theorem aRB {α:Type} {f:α→α→Int}:∀(l r:List α),aHL f l r=if aM3 f l r=0 then (if l.length<r.length then -1 else 0)else aM3 f l r
 |[],[]=>by simp[aHL,aM3]
 |a::l,b::r=>by
  simp only[aHL,aM3,aRB l r,List.length_cons,Nat.add_lt_add_iff_right]
  split
  ·rfl
  ·rename_i h;simp[h]
 |[],_::_=>by simp[aHL,aM3]
 |_::_,[]=>by simp[aHL,aM3]
end Go.Ev
