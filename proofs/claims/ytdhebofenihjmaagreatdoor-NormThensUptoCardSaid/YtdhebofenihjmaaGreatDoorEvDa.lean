/-
  Readings of plain data: what fits a type; bulk.
-/
import Derived.Test.YtdhebofenihjmaaGreatDoorEvZa
set_option linter.all false
set_option maxRecDepth 100000
namespace Go.Ev
variable {H:Type} {enc:TypeId×Value→H} {P:Program} {w:World}
def aA0 (P:Program):Nat→TypeId→DataW H→Prop
 |0,_,_=>False
 |n+1,t,d=>match P.underlying t,d with
  |some .bool,.lit (.bool _)=>True
  |some (.int k),.lit (.int k' m)=>k'=k∧(Lit.int k m).wf=true
  |some .string,.lit (.string s)=>True
  |some (.slice _),.nil=>True
  |some (.slice e),.slice es _=>∀x∈es,aA0 P n e x
  |some (.struct fs),.agg ds=>ds.length=fs.toList.length∧∀(i:Nat) (f:Field) (d:DataW H),fs.toList[i]? =some f→ds[i]? =some d→aA0 P n f.type d
  |some (.array m e),.agg ds=>ds.length=m∧∀d∈ds,aA0 P n e d
  |_,_=>False
theorem a6s {base:Nat} {sp:Nat→Bool} {held:Bool} {ts:List TypeId} (hp:aK3 P ts=true):
 ∀(fuel:Nat) (t:TypeId) (cs:List Value) (x:DataW H×List MemPlace),t∈ts→DataW.trod enc P w base sp held fuel t cs=some x→aA0 P fuel t x.1:=by
 intro fuel
 induction fuel with
 |zero=>intro t cs x _ h;simp[DataW.trod]at h
 |succ fuel ih=>
  intro t cs x ht h
  have hpt:=List.all_eq_true.1 hp t ht
  simp only[Bool.and_eq_true]at hpt
  have hpt:=hpt.2
  unfold DataW.trod at h
  simp only[aA0]
  cases hu:P.underlying t with
  |none=>simp[hu]at hpt
  |some d=>
   cases d<;>simp only[hu]at hpt h<;>try (simp at hpt;done)
   case bool=>
    split at h<;>simp_all
    obtain ⟨rfl⟩:=h
    trivial
   case int k=>
    split at h<;>simp_all
    obtain ⟨⟨rfl,hw⟩,rfl⟩:=h
    exact ⟨rfl,hw⟩
   case string=>
    split at h<;>simp_all
    obtain ⟨_,rfl⟩:=h
    trivial
   case slice e=>
    simp only[Bool.and_eq_true,List.contains_iff_mem]at hpt
    split at h
    case h_7=>
     simp only[Option.some.injEq]at h
     subst h
     trivial
    case h_8=>
     rename_i e' a len cap heq
     cases heq
     split at h
     ·simp only[Option.map_eq_some_iff,Option.bind_eq_some_iff]at h
      obtain ⟨elems,he,rest,_,rfl⟩:=h
      simp only[List.mem_map]
      rintro y ⟨z,hz,rfl⟩
      obtain ⟨i,hi,hz'⟩:=List.mem_iff_getElem.1 hz
      have hlen:elems.length=len:=by simpa using mapM_some_length he
      have:=mapM_some_get he i i (by simp[show i<len by omega])
      rw[List.getElem?_eq_getElem hi,hz',Option.bind_eq_some_iff]at this
      obtain ⟨cs',_,h2⟩:=this
      exact ih _ _ _ hpt.1 h2
     ·simp at h
    all_goals first |(rename_i heq _;cases heq;done)|(rename_i heq;cases heq;done)|(simp at h;done)
   case struct fs=>
    have h':(if cs.length=P.cellsOf t then (fs.toList.mapM fun f=>DataW.trod enc P w base sp held fuel f.type ((cs.drop f.offset).take (P.cellsOf f.type))).map fun xs=>(DataW.agg (xs.map (·.1)),xs.flatMap (·.2))else none)=some x:=by
     rw[←h]
    split at h'
    ·simp only[Option.map_eq_some_iff]at h'
     obtain ⟨xs,hm,rfl⟩:=h'
     refine ⟨by simpa using mapM_some_length hm,fun i f d hf hd=> ?_⟩
     have h1:=mapM_some_get hm i f hf
     simp only[List.getElem?_map,Option.map_eq_some_iff]at hd
     obtain ⟨y,hy,rfl⟩:=hd
     rw[hy]at h1
     exact ih _ _ _ (by
      have:=List.all_eq_true.1 hpt f (List.mem_of_getElem? hf)
      simpa using this) h1
    ·simp at h'
   case array m e=>
    have h':(if cs.length=P.cellsOf t then ((List.range m).mapM fun i=>DataW.trod enc P w base sp held fuel e ((cs.drop (i*P.cellsOf e)).take (P.cellsOf e))).map fun xs=>(DataW.agg (xs.map (·.1)),xs.flatMap (·.2))else none)=some x:=by
     rw[←h]
    split at h'
    ·simp only[Option.map_eq_some_iff]at h'
     obtain ⟨xs,hm,rfl⟩:=h'
     have hlen:xs.length=m:=by simpa using mapM_some_length hm
     refine ⟨by simpa using hlen,fun d hd=> ?_⟩
     simp only[List.mem_map]at hd
     obtain ⟨z,hz,rfl⟩:=hd
     obtain ⟨i,hi,hz'⟩:=List.mem_iff_getElem.1 hz
     have:=mapM_some_get hm i i (by simp[show i<m by omega])
     rw[List.getElem?_eq_getElem hi,hz']at this
     exact ih _ _ _ (by simpa using hpt) this
    ·simp at h'
theorem aSF {base:Nat} {sp:Nat→Bool} {held:Bool} {ts:List TypeId} (hp:aK3 P ts=true):
 ∀{us:List TypeId} {vs:List Value} {ds:List (DataW H)} {p:List MemPlace},(∀t∈us,t∈ts)→DataW.TrodAll enc P w base sp held us vs ds p→
  ds.length=us.length∧∀(i:Nat) t d,us[i]? =some t→ds[i]? =some d→∃n,aA0 P n t d
 |[],[],[],p,_,_=>⟨rfl,fun i t d h=>by simp at h⟩
 |t::us,v::vs,d::ds,p,ht,⟨p1,q1,⟨n,h1⟩,h2,_⟩=>by
  obtain ⟨a,b⟩:=aSF hp (fun t' h=>ht t' (by simp[h])) h2
  refine ⟨by simp[a],fun i t' d' e1 e2=> ?_⟩
  cases i with
  |zero=>
   simp at e1 e2
   subst e1;subst e2
   exact ⟨n,a6s hp n _ _ _ (ht t (by simp)) h1⟩
  |succ i=>exact b i t' d' (by simpa using e1) (by simpa using e2)
 |[],_::_,_,_,_,h=>by simp[DataW.TrodAll]at h
 |[],[],_::_,_,_,h=>by simp[DataW.TrodAll]at h
 |_::_,[],_,_,_,h=>by simp[DataW.TrodAll]at h
 |_::_,_::_,[],_,_,h=>by simp[DataW.TrodAll]at h
mutual
def iR:DataW H→Nat
 | .lit (.string bytes)=>bytes.length+1
 | .slice elems _=>aB3 elems+1
 | .agg parts=>aB3 parts+1
 |_=>1
def aB3:List (DataW H)→Nat
 |[]=>0
 |d::r=>iR d+aB3 r
end
end Go.Ev
namespace Go.Ev
abbrev Bytes:=List UInt8
section bFP
@[simp] theorem gA (c:C) (r:Row):at_ (c::r) 0=c:=rfl
@[simp] theorem bH1 (c:C) (r:Row) (i:Nat):at_ (c::r) (i+1)=at_ r i:=rfl
@[simp] theorem bM4 (a b:C) (r:Row):at_ (a::b::r) 1=b:=rfl
@[simp] theorem cA (c:Row) (r:List Row):aA (c::r) 0=c:=rfl
@[simp] theorem aD (c:Row) (r:List Row) (i:Nat):aA (c::r) (i+1)=aA r i:=rfl
@[simp] theorem iA (n:Int):(C.int n).uA=n:=rfl
@[simp] theorem jA (b:Bool):(C.bool b).rJ=b:=rfl
@[simp] theorem rA (s:Bytes):(C.str s).qE=s:=rfl
@[simp] theorem sA (r:Row):(C.dp r).fA=r:=rfl
@[simp] theorem dB (r:Row):(C.dp r).xA=true:=rfl
@[simp] theorem aB4 (r:List Row):(C.sl r).rows=r:=rfl
@[simp] theorem a4S:C.bA.rows=[]:=rfl
@[simp] theorem wH (r:Row) (x:List PV):hd (.r r::x)=r:=rfl
end bFP
def nK:Bool→List Row→C
 |true,[]=> .bA
 |_,rows=> .sl rows
@[simp] theorem kC (b:Bool) (rows:List Row):(nK b rows).rows=rows:=by
  cases b<;>cases rows<;>rfl
theorem aXh (rows:List Row):nK false rows= .sl rows:=by cases rows<;>rfl
theorem aYy:nK true []= .bA:=rfl
theorem iC {α:Type} (f:α→Row) (l:List α) (i:Nat) (h:i<l.length):aA (l.map f) i=f l[i]:=by
 simp[aA,List.getD_eq_getElem?_getD,h]
def aB5 (n:Int):Prop:= -9223372036854775808≤n∧n≤9223372036854775807
theorem wrap_i64 {n:Int} (h:aB5 n):IntKind.wrap .i64 n=n:=by
 obtain ⟨h1,h2⟩:=h
 simp[IntKind.wrap,IntKind.signed,IntKind.bits]
 omega
theorem aBn {n:Int} (h:(Lit.int .i64 n).wf=true):aB5 n:=by
 simpa[Lit.wf,IntKind.min,IntKind.max,IntKind.signed,IntKind.bits,aB5]using h
inductive aB where |mk (k n:Int) (s:Bytes) (nil:Bool) (fs:List (Bytes×aB))
def aB.k:aB→Int | .mk k _ _ _ _=>k
def aB.n:aB→Int | .mk _ n _ _ _=>n
def aB.s:aB→Bytes | .mk _ _ s _ _=>s
def aB.nil:aB→Bool | .mk _ _ _ b _=>b
def aB.fs:aB→List (Bytes×aB)| .mk _ _ _ _ fs=>fs
mutual
def aB.fc:aB→C
 | .mk _ _ _ b fs=>nK b (aB.rowsOf fs)
def aB.rowsOf:List (Bytes×aB)→List Row
 |[]=>[]
 |(nm,v)::r=>[.str nm,.int v.k,.int v.n,.str v.s,v.fc]::aB.rowsOf r
end
def aB.row (v:aB):Row:=[.int v.k,.int v.n,.str v.s,v.fc]
def vD (p:Bytes×aB):Row:= .str p.1::p.2.row
theorem aB.tR:∀(fs:List (Bytes×aB)),aB.rowsOf fs=fs.map vD
 |[]=>by simp only[aB.rowsOf,List.map_nil]
 |(nm,v)::r=>by simp only[aB.rowsOf,List.map_cons,aB.tR r,vD,aB.row]
theorem aB.aZW (v:aB):v.fc=nK v.nil (v.fs.map vD):=by
 cases v;simp only[aB.fc,aB.nil,aB.fs,aB.tR]
@[simp] theorem aB.xX (v:aB):v.fc.rows=v.fs.map vD:=by rw[v.aZW,kC]
theorem aB.sD {v:aB} {p:Bytes×aB} (h:p∈v.fs):SizeOf.sizeOf p.2<SizeOf.sizeOf v:=by
 cases v with
 |mk k n s b fs=>
  have h1:=List.sizeOf_lt_of_mem (show p∈fs from h)
  have h2:SizeOf.sizeOf p.2<SizeOf.sizeOf p:=by cases p;simp;omega
  simp only[aB.mk.sizeOf_spec]
  omega
mutual
def aB.wf:aB→Prop
 | .mk k n _ _ fs=>aB5 k∧aB5 n∧aB.wfs fs
def aB.wfs:List (Bytes×aB)→Prop
 |[]=>True
 |(_,v)::r=>v.wf∧aB.wfs r
end
mutual
def aB.fB:aB→Nat
 | .mk _ _ s _ fs=>s.length+aB.oF fs+1
def aB.oF:List (Bytes×aB)→Nat
 |[]=>0
 |(nm,v)::r=>nm.length+v.fB+1+aB.oF r
end
theorem aB.aQa:∀{fs:List (Bytes×aB)} {p:Bytes×aB},aB.wfs fs→p∈fs→p.2.wf
 |(nm,v)::r,p,h,hp=>by
  simp only[aB.wfs]at h
  rcases List.mem_cons.1 hp with rfl |hp
  ·exact h.1
  ·exact aB.aQa h.2 hp
theorem aB.aWd {v:aB} (h:v.wf):aB5 v.n:=by cases v;simp only[aB.wf]at h;exact h.2.1
theorem aB.aYz {v:aB} (h:v.wf) {p:Bytes×aB} (hp:p∈v.fs):p.2.wf:=by
 cases v;simp only[aB.wf]at h;exact aB.aQa h.2.2 hp
theorem aB.aJ4:∀{fs:List (Bytes×aB)} {p:Bytes×aB},p∈fs→p.1.length+p.2.fB+1≤aB.oF fs
 |(nm,v)::r,p,hp=>by
  simp only[aB.oF]
  rcases List.mem_cons.1 hp with rfl |hp
  ·simp
  ·have:=aB.aJ4 hp;omega
theorem aB.aBo:∀(fs:List (Bytes×aB)),fs.length≤aB.oF fs
 |[]=>by simp[aB.oF]
 |(nm,v)::r=>by have:=aB.aBo r;simp only[aB.oF,List.length_cons];omega
theorem aB.eG (v:aB):v.fB=v.s.length+aB.oF v.fs+1:=by cases v;simp only[aB.fB,aB.s,aB.fs]
theorem aB.aHd (v:aB):v.fs.length≤v.fB:=by have:=aB.aBo v.fs;rw[v.eG];omega
theorem aB.aJ5 {v:aB} {p:Bytes×aB} (hp:p∈v.fs):p.1.length+p.2.fB<v.fB:=by have:=aB.aJ4 hp;rw[v.eG];omega
inductive dA where |mk (op:Int) (name to:Bytes) (nb:Bool) (names:List Bytes) (n low high sep:Int) (v:aB) (pb:Bool) (pairs:List (aB×aB)) (kb:Bool) (kids:List dA)
namespace dA
def op:dA→Int | .mk x _ _ _ _ _ _ _ _ _ _ _ _ _=>x
def name:dA→Bytes | .mk _ x _ _ _ _ _ _ _ _ _ _ _ _=>x
def to:dA→Bytes | .mk _ _ x _ _ _ _ _ _ _ _ _ _ _=>x
def nb:dA→Bool | .mk _ _ _ x _ _ _ _ _ _ _ _ _ _=>x
def names:dA→List Bytes | .mk _ _ _ _ x _ _ _ _ _ _ _ _ _=>x
def n:dA→Int | .mk _ _ _ _ _ x _ _ _ _ _ _ _ _=>x
def low:dA→Int | .mk _ _ _ _ _ _ x _ _ _ _ _ _ _=>x
def high:dA→Int | .mk _ _ _ _ _ _ _ x _ _ _ _ _ _=>x
def sep:dA→Int | .mk _ _ _ _ _ _ _ _ x _ _ _ _ _=>x
def v:dA→aB | .mk _ _ _ _ _ _ _ _ _ x _ _ _ _=>x
def pb:dA→Bool | .mk _ _ _ _ _ _ _ _ _ _ x _ _ _=>x
def pairs:dA→List (aB×aB)| .mk _ _ _ _ _ _ _ _ _ _ _ x _ _=>x
def kb:dA→Bool | .mk _ _ _ _ _ _ _ _ _ _ _ _ x _=>x
def kids:dA→List dA | .mk _ _ _ _ _ _ _ _ _ _ _ _ _ x=>x
end dA
def tA (p:aB×aB):Row:=[.int p.1.k,.int p.1.n,.str p.1.s,p.1.fc,.int p.2.k,.int p.2.n,.str p.2.s,p.2.fc]
def fF (s:Bytes):Row:=[.str s]
mutual
def dA.kc:dA→C
 | .mk _ _ _ _ _ _ _ _ _ _ _ _ kb kids=>nK kb (dA.rowsOf kids)
def dA.rowsOf:List dA→List Row
 |[]=>[]
 |l::r=>[.int l.op,.str l.name,.str l.to,nK l.nb (l.names.map fF),.int l.n,.int l.low,.int l.high,.int l.sep,.int l.v.k,.int l.v.n,.str l.v.s,l.v.fc,nK l.pb (l.pairs.map tA),l.kc]::dA.rowsOf r
end
def dA.row (l:dA):Row:=[.int l.op,.str l.name,.str l.to,nK l.nb (l.names.map fF),.int l.n,.int l.low,.int l.high,.int l.sep,.int l.v.k,.int l.v.n,.str l.v.s,l.v.fc,nK l.pb (l.pairs.map tA),l.kc]
theorem dA.tR:∀(ls:List dA),dA.rowsOf ls=ls.map dA.row
 |[]=>by simp only[dA.rowsOf,List.map_nil]
 |l::r=>by simp only[dA.rowsOf,List.map_cons,dA.tR r,dA.row]
theorem dA.aZX (l:dA):l.kc=nK l.kb (l.kids.map dA.row):=by
 cases l;simp only[dA.kc,dA.kb,dA.kids,dA.tR]
@[simp] theorem dA.gD (l:dA):l.kc.rows=l.kids.map dA.row:=by rw[l.aZX,kC]
theorem dA.sD {l k:dA} (h:k∈l.kids):SizeOf.sizeOf k<SizeOf.sizeOf l:=by
 cases l with
 |mk=>
  have h1:=List.sizeOf_lt_of_mem (show k∈_ from h)
  simp only[dA.kids]at h1
  simp only[dA.mk.sizeOf_spec]
  omega
mutual
def dA.wf:dA→Prop
 | .mk op _ _ _ _ n low high sep v _ pairs _ kids=>aB5 op∧aB5 n∧aB5 low∧aB5 high∧(0≤sep∧sep≤255)∧v.wf∧(∀p∈pairs,p.1.wf∧p.2.wf)∧dA.wfs kids
def dA.wfs:List dA→Prop
 |[]=>True
 |l::r=>l.wf∧dA.wfs r
end
def uJ:List Bytes→Nat
 |[]=>0
 |s::r=>s.length+1+uJ r
def uH:List (aB×aB)→Nat
 |[]=>0
 |p::r=>p.1.fB+p.2.fB+1+uH r
mutual
def dA.fB:dA→Nat
 | .mk _ name to _ names _ _ _ _ v _ pairs _ kids=>name.length+to.length+uJ names+v.fB+uH pairs+dA.oF kids+1
def dA.oF:List dA→Nat
 |[]=>0
 |l::r=>l.fB+dA.oF r
end
theorem dA.eG (l:dA):l.fB=l.name.length+l.to.length+uJ l.names+l.v.fB+uH l.pairs+dA.oF l.kids+1:=by
 cases l;simp only[dA.fB,dA.name,dA.to,dA.names,dA.v,dA.pairs,dA.kids]
theorem dA.aNe (l:dA):1≤l.fB:=by rw[l.eG];omega
theorem uR:∀(l:List Bytes),l.length≤uJ l
 |[]=>by simp[uJ]
 |s::r=>by have:=uR r;simp only[uJ,List.length_cons];omega
theorem s9:∀(l:List (aB×aB)),l.length≤uH l
 |[]=>by simp[uH]
 |s::r=>by have:=s9 r;simp only[uH,List.length_cons];omega
theorem u9:∀{l:List (aB×aB)} {p:aB×aB},p∈l→p.1.fB+p.2.fB<uH l
 |x::r,s,h=>by
  simp only[uH]
  rcases List.mem_cons.1 h with rfl |h
  ·omega
  ·have:=u9 h;omega
theorem dA.aBo:∀(l:List dA),l.length≤dA.oF l
 |[]=>by simp[dA.oF]
 |s::r=>by have:=dA.aBo r;have:=s.aNe;simp only[dA.oF,List.length_cons];omega
theorem dA.aJ4:∀{l:List dA} {k:dA},k∈l→k.fB≤dA.oF l
 |x::r,k,h=>by
  simp only[dA.oF]
  rcases List.mem_cons.1 h with rfl |h
  ·omega
  ·have:=dA.aJ4 h;omega
theorem dA.aEP {l k:dA} (h:k∈l.kids):k.fB<l.fB:=by have:=dA.aJ4 h;rw[l.eG];omega
theorem dA.aQa:∀{ls:List dA} {k:dA},dA.wfs ls→k∈ls→k.wf
 |l::r,k,h,hk=>by
  simp only[dA.wfs]at h
  rcases List.mem_cons.1 hk with rfl |hk
  ·exact h.1
  ·exact dA.aQa h.2 hk
theorem dA.a2i {l k:dA} (h:l.wf) (hk:k∈l.kids):k.wf:=by
 cases l;simp only[dA.wf]at h;exact dA.aQa h.2.2.2.2.2.2.2 hk
theorem dA.bDp {l:dA} (h:l.wf):l.v.wf:=by cases l;simp only[dA.wf]at h;exact h.2.2.2.2.2.1
theorem dA.a9A {l:dA} (h:l.wf) {p:aB×aB} (hp:p∈l.pairs):p.1.wf∧p.2.wf:=by cases l;simp only[dA.wf]at h;exact h.2.2.2.2.2.2.1 p hp
variable {H:Type} {P:Program}
def isStruct (P:Program) (t:TypeId) (us:List TypeId):Bool:=match P.underlying t with
 |some (.struct fs)=>decide (fs.toList.map (·.type)=us)
 |_=>false
theorem aPa {n:Nat} {t:TypeId} {us:List TypeId} {d:DataW H} (ht:isStruct P t us=true) (h:aA0 P (n+1) t d):
 ∃ds,d= .agg ds∧ds.length=us.length∧∀(i:Nat) u x,us[i]? =some u→ds[i]? =some x→aA0 P n u x:=by
 unfold isStruct at ht
 simp only[aA0]at h
 cases hu:P.underlying t with
 |none=>simp[hu]at ht
 |some dd=>
  cases dd<;>simp only[hu]at ht h<;>try (simp at ht;done)
  rename_i fs
  have ht:=of_decide_eq_true ht
  cases d<;>(try simp only at h)<;>try (exact h.elim)
  rename_i ds
  subst ht
  refine ⟨ds,rfl,by simp[h.1],fun i u x hi hx=> ?_⟩
  simp only[List.getElem?_map,Option.map_eq_some_iff]at hi
  obtain ⟨f,hf,rfl⟩:=hi
  exact h.2 i f x hf hx
theorem aK4 {n:Nat} {t:TypeId} {k:IntKind} {d:DataW H} (ht:P.underlying t=some (.int k)) (h:aA0 P n t d):∃m,d= .lit (.int k m)∧(Lit.int k m).wf=true:=by
 cases n with
 |zero=>simp[aA0]at h
 |succ n=>
  simp only[aA0,ht]at h
  cases d<;>(try simp only at h)<;>try (exact h.elim)
  rename_i l
  cases l<;>(try simp only at h)<;>try (exact h.elim)
  obtain ⟨rfl,hw⟩:=h
  exact ⟨_,rfl,hw⟩
theorem aQb {n:Nat} {t:TypeId} {d:DataW H} (ht:P.underlying t=some .string) (h:aA0 P n t d):∃s,d= .lit (.string s):=by
 cases n with
 |zero=>simp[aA0]at h
 |succ n=>
  simp only[aA0,ht]at h
  cases d<;>(try simp only at h)<;>try (exact h.elim)
  rename_i l
  cases l<;>(try simp only at h)<;>try (exact h.elim)
  exact ⟨_,rfl⟩
theorem aOc {n:Nat} {t e:TypeId} {d:DataW H} (ht:P.underlying t=some (.slice e)) (h:aA0 P n t d):∃(b:Bool) (es:List (DataW H)),(∀x∈es,aA0 P (n - 1) e x)∧w9 d=[nK b (es.map w9)]∧iR d=aB3 es+1:=by
 cases n with
 |zero=>simp[aA0]at h
 |succ n=>
  simp only[aA0,ht]at h
  cases d<;>(try simp only at h)<;>try (exact h.elim)
  ·exact ⟨true,[],by simp,rfl,by simp only[iR,aB3]⟩
  ·rename_i es sp
   exact ⟨false,es,h,by simp only[w9,aRy,aXh],by simp only[iR]⟩
theorem a4T {n m:Nat} {t e:TypeId} {d:DataW H} (ht:P.underlying t=some (.array m e)) (h:aA0 P (n+1) t d):∃ds,d= .agg ds∧ds.length=m∧∀x∈ds,aA0 P n e x:=by
 simp only[aA0,ht]at h
 cases d<;>(try simp only at h)<;>try (exact h.elim)
 exact ⟨_,rfl,h.1,h.2⟩
theorem aNf {α:Type} {n:Nat} {e:TypeId} (row:α→Row) (good:α→Prop) (fB:α→Nat) (oF:List α→Nat) (c:Nat) (h0:oF []=0) (h1:∀a r,oF (a::r)≤fB a+c+oF r)
 (one:∀d:DataW H,aA0 P n e d→∃a,w9 d=row a∧good a∧fB a+c≤iR d):
 ∀(es:List (DataW H)),(∀x∈es,aA0 P n e x)→∃as:List α,es.map w9=as.map row∧(∀a∈as,good a)∧oF as≤aB3 es
 |[],_=>⟨[],rfl,by simp,by rw[h0];omega⟩
 |d::r,h=>by
  obtain ⟨a,e1,g1,b1⟩:=one d (h d (by simp))
  obtain ⟨as,e2,g2,b2⟩:=aNf row good fB oF c h0 h1 one r (fun x hx=>h x (by simp[hx]))
  refine ⟨a::as,by simp[e1,e2], ?_, ?_⟩
  ·intro x hx
   rcases List.mem_cons.1 hx with rfl |hx
   ·exact g1
   ·exact g2 x hx
  ·have:=h1 a as
   simp only[aB3]
   omega
theorem a6t:∀{fs:List (Bytes×aB)},(∀p∈fs,p.2.wf)→aB.wfs fs
 |[],_=>by simp only[aB.wfs]
 |(nm,v)::r,h=>by simp only[aB.wfs];exact ⟨h (nm,v) (by simp),a6t (fun p hp=>h p (by simp[hp]))⟩
theorem aQc:∀{ls:List dA},(∀l∈ls,l.wf)→dA.wfs ls
 |[],_=>by simp only[dA.wfs]
 |l::r,h=>by simp only[dA.wfs];exact ⟨h l (by simp),aQc (fun p hp=>h p (by simp[hp]))⟩
structure bDq (P:Program) (tI tU tS tV tFs tF:TypeId):Prop where
 int:P.underlying tI=some (.int .i64)
 u8:P.underlying tU=some (.int .u8)
 str:P.underlying tS=some .string
 val:isStruct P tV [tI,tI,tS,tFs]=true
 bIM:P.underlying tFs=some (.slice tF)
 fld:isStruct P tF [tS,tV]=true
theorem aXj {α:Type} {l:List α} (h:l.length=4):∃a b c d,l=[a,b,c,d]:=by
 match l,h with
 |[a,b,c,d],_=>exact ⟨a,b,c,d,rfl⟩
theorem bAO {α:Type} {l:List α} (h:l.length=2):∃a b,l=[a,b]:=by
 match l,h with
 |[a,b],_=>exact ⟨a,b,rfl⟩
theorem bDr {α:Type} {l:List α} (h:l.length=11):∃a b c d e f g i j k m,l=[a,b,c,d,e,f,g,i,j,k,m]:=by
 match l,h with
 |[a,b,c,d,e,f,g,i,j,k,m],_=>exact ⟨a,b,c,d,e,f,g,i,j,k,m,rfl⟩
theorem aYA {tI tU tS tV tFs tF:TypeId} (A:bDq P tI tU tS tV tFs tF):∀(n:Nat) (d:DataW H),aA0 P n tV d→∃v:aB,w9 d=v.row∧v.wf∧v.fB≤iR d:=by
 intro n
 induction n using Nat.strongRecOn with
 |ind n ih=>
  intro d h
  cases n with
  |zero=>simp[aA0]at h
  |succ n=>
   obtain ⟨ds,rfl,hl,hf⟩:=aPa A.val h
   obtain ⟨d0,d1,d2,d3,rfl⟩:=aXj hl
   obtain ⟨k,rfl,wk⟩:=aK4 A.int (hf 0 _ _ rfl rfl)
   obtain ⟨m,rfl,wm⟩:=aK4 A.int (hf 1 _ _ rfl rfl)
   obtain ⟨s,rfl⟩:=aQb A.str (hf 2 _ _ rfl rfl)
   obtain ⟨b,es,hes,hrow,a3t⟩:=aOc A.bIM (hf 3 _ _ rfl rfl)
   obtain ⟨fs,e1,e2,e3⟩:=aNf (α:=Bytes×aB) vD (fun p=>p.2.wf) (fun p=>p.1.length+p.2.fB) aB.oF 1 (by simp only[aB.oF]) (fun p r=>by obtain ⟨nm,v⟩:=p;simp only[aB.oF];omega) (by
    intro d hd
    cases hn:n - 1 with
    |zero=>rw[hn]at hd;simp[aA0]at hd
    |succ q=>
     rw[hn]at hd
     obtain ⟨ds,rfl,hl,hf⟩:=aPa A.fld hd
     obtain ⟨d0,d1,rfl⟩:=bAO hl
     obtain ⟨nm,rfl⟩:=aQb A.str (hf 0 _ _ rfl rfl)
     obtain ⟨v,h1,h2,h3⟩:=ih q (by omega) d1 (hf 1 _ _ rfl rfl)
     refine ⟨(nm,v), ?_,h2, ?_⟩
     ·simp only[w9,aOv,h1,vD,List.append_nil,List.singleton_append]
     ·simp only[iR,aB3];omega) es hes
   refine ⟨.mk k m s b fs, ?_, ?_, ?_⟩
   ·simp only[w9,aOv,hrow,aB.row,aB.k,aB.n,aB.s,aB.fc,aB.tR,e1,List.append_nil,List.cons_append,List.nil_append]
   ·simp only[aB.wf];exact ⟨aBn wk,aBn wm,a6t e2⟩
   ·simp only[aB.fB,iR,aB3,a3t];omega
structure bAP (P:Program) (tI tU tS tV tL tSs tP tPs tLs:TypeId):Prop where
 lens:isStruct P tL [tI,tS,tS,tSs,tI,tI,tI,tU,tV,tPs,tLs]=true
 strs:P.underlying tSs=some (.slice tS)
 pairs:P.underlying tPs=some (.slice tP)
 pair:P.underlying tP=some (.array 2 tV)
 kids:P.underlying tLs=some (.slice tL)
theorem a6u {tS tSs:TypeId} (hs:P.underlying tS=some .string) (hss:P.underlying tSs=some (.slice tS)) {n:Nat} {d:DataW H} (h:aA0 P n tSs d):
 ∃(b:Bool) (l:List Bytes),w9 d=[nK b (l.map fF)]∧uJ l+1≤iR d:=by
 obtain ⟨b,es,hes,hrow,a3t⟩:=aOc hss h
 obtain ⟨l,e1,_,e3⟩:=aNf (α:=Bytes) fF (fun _=>True) (fun s=>s.length) uJ 1 (by simp only[uJ]) (fun p r=>by simp only[uJ];omega) (by
  intro d hd
  obtain ⟨s,rfl⟩:=aQb hs hd
  exact ⟨s,by simp only[w9,fF],trivial,by simp only[iR];omega⟩) es hes
 exact ⟨b,l,by rw[hrow,e1],by omega⟩
theorem aZY {tI tU tS tV tFs tF tL tSs tP tPs tLs:TypeId} (A:bDq P tI tU tS tV tFs tF) (B:bAP P tI tU tS tV tL tSs tP tPs tLs):
 ∀(n:Nat) (d:DataW H),aA0 P n tL d→∃l:dA,w9 d=l.row∧l.wf∧l.fB≤iR d:=by
 intro n
 induction n using Nat.strongRecOn with
 |ind n ih=>
  intro d h
  cases n with
  |zero=>simp[aA0]at h
  |succ n=>
   obtain ⟨ds,rfl,hl,hf⟩:=aPa B.lens h
   obtain ⟨d0,d1,d2,d3,d4,d5,d6,d7,d8,d9,d10,rfl⟩:=bDr hl
   obtain ⟨op,rfl,w0⟩:=aK4 A.int (hf 0 _ _ rfl rfl)
   obtain ⟨nm,rfl⟩:=aQb A.str (hf 1 _ _ rfl rfl)
   obtain ⟨to,rfl⟩:=aQb A.str (hf 2 _ _ rfl rfl)
   obtain ⟨nb,names,r3,k3⟩:=a6u A.str B.strs (hf 3 _ _ rfl rfl)
   obtain ⟨nn,rfl,w4⟩:=aK4 A.int (hf 4 _ _ rfl rfl)
   obtain ⟨lo,rfl,w5⟩:=aK4 A.int (hf 5 _ _ rfl rfl)
   obtain ⟨hi,rfl,w6⟩:=aK4 A.int (hf 6 _ _ rfl rfl)
   obtain ⟨se,rfl,w7⟩:=aK4 A.u8 (hf 7 _ _ rfl rfl)
   obtain ⟨v,r8,w8,k8⟩:=aYA A _ _ (hf 8 _ _ rfl rfl)
   obtain ⟨pb,ps,hps,r9,k9⟩:=aOc B.pairs (hf 9 _ _ rfl rfl)
   obtain ⟨kb,ks,hks,r10,k10⟩:=aOc B.kids (hf 10 _ _ rfl rfl)
   obtain ⟨pairs,e1,e2,e3⟩:=aNf (α:=aB×aB) tA (fun p=>p.1.wf∧p.2.wf) (fun p=>p.1.fB+p.2.fB) uH 1 (by simp only[uH]) (fun p r=>by simp only[uH];omega) (by
    intro d hd
    cases hn:n - 1 with
    |zero=>rw[hn]at hd;simp[aA0]at hd
    |succ q=>
     rw[hn]at hd
     obtain ⟨ds,rfl,hl,hf⟩:=a4T B.pair hd
     obtain ⟨d0,d1,rfl⟩:=bAO hl
     obtain ⟨v,a1,a2,a3⟩:=aYA A _ _ (hf d0 (by simp))
     obtain ⟨v',b1,b2,b3⟩:=aYA A _ _ (hf d1 (by simp))
     refine ⟨(v,v'), ?_,⟨a2,b2⟩, ?_⟩
     ·simp only[w9,aOv,a1,b1,aB.row,tA,List.append_nil,List.cons_append,List.nil_append]
     ·simp only[iR,aB3];omega) ps hps
   obtain ⟨kids,f1,f2,f3⟩:=aNf (α:=dA) dA.row dA.wf dA.fB dA.oF 0 (by simp only[dA.oF]) (fun p r=>by simp only[dA.oF];omega) (fun d hd=>by
    obtain ⟨l,g1,g2,g3⟩:=ih (n - 1) (by omega) d hd
    exact ⟨l,g1,g2,by omega⟩) ks hks
   refine ⟨.mk op nm to nb names nn lo hi se v pb pairs kb kids, ?_, ?_, ?_⟩
   ·simp only[w9,aOv,r3,r8,r9,r10,aB.row,dA.row,dA.op,dA.name,dA.to,dA.nb,dA.names,dA.n,dA.low,dA.high,dA.sep,dA.v,dA.pb,dA.pairs,dA.kc,dA.tR,e1,f1,List.append_nil,List.cons_append,List.nil_append]
   ·simp only[dA.wf]
    have h7:0≤se∧se≤255:=by simpa[Lit.wf,IntKind.min,IntKind.max,IntKind.signed,IntKind.bits]using w7
    exact ⟨aBn w0,aBn w4,aBn w5,aBn w6,h7,w8,e2,aQc f2⟩
   ·simp only[dA.fB,iR,aB3,k9,k10];omega
end Go.Ev
namespace Go.Ev
@[simp] theorem aIh (v:aB):at_ v.row 0= .int v.k:=rfl
@[simp] theorem aK5 (v:aB):at_ v.row 1= .int v.n:=rfl
@[simp] theorem aK6 (v:aB):at_ v.row 2= .str v.s:=rfl
@[simp] theorem yX (v:aB):at_ v.row 3=v.fc:=rfl
@[simp] theorem a3u (p:Bytes×aB):at_ (vD p) 0= .str p.1:=rfl
@[simp] theorem aYB (p:Bytes×aB):at_ (vD p) 1= .int p.2.k:=rfl
@[simp] theorem aYC (p:Bytes×aB):at_ (vD p) 2= .int p.2.n:=rfl
@[simp] theorem aYD (p:Bytes×aB):at_ (vD p) 3= .str p.2.s:=rfl
@[simp] theorem aYE (p:Bytes×aB):at_ (vD p) 4=p.2.fc:=rfl
@[simp] theorem aZZ (p:aB×aB):at_ (tA p) 0= .int p.1.k:=rfl
@[simp] theorem aZ0 (p:aB×aB):at_ (tA p) 1= .int p.1.n:=rfl
@[simp] theorem aZ1 (p:aB×aB):at_ (tA p) 2= .str p.1.s:=rfl
@[simp] theorem aZ2 (p:aB×aB):at_ (tA p) 3=p.1.fc:=rfl
@[simp] theorem aZ3 (p:aB×aB):at_ (tA p) 4= .int p.2.k:=rfl
@[simp] theorem aZ4 (p:aB×aB):at_ (tA p) 5= .int p.2.n:=rfl
@[simp] theorem aZ5 (p:aB×aB):at_ (tA p) 6= .str p.2.s:=rfl
@[simp] theorem aZ6 (p:aB×aB):at_ (tA p) 7=p.2.fc:=rfl
@[simp] theorem a9B (s:Bytes):at_ (fF s) 0= .str s:=rfl
@[simp] theorem xC (l:dA):at_ l.row 0= .int l.op:=rfl
@[simp] theorem sG (l:dA):at_ l.row 1= .str l.name:=rfl
@[simp] theorem vR (l:dA):at_ l.row 2= .str l.to:=rfl
@[simp] theorem aF6 (l:dA):at_ l.row 3=nK l.nb (l.names.map fF):=rfl
@[simp] theorem aT9 (l:dA):at_ l.row 4= .int l.n:=rfl
@[simp] theorem aOd (l:dA):at_ l.row 5= .int l.low:=rfl
@[simp] theorem aOe (l:dA):at_ l.row 6= .int l.high:=rfl
@[simp] theorem aK7 (l:dA):at_ l.row 7= .int l.sep:=rfl
@[simp] theorem aIi (l:dA):at_ l.row 8= .int l.v.k:=rfl
@[simp] theorem aQd (l:dA):at_ l.row 9= .int l.v.n:=rfl
@[simp] theorem aNg (l:dA):at_ l.row 10= .str l.v.s:=rfl
@[simp] theorem aNh (l:dA):at_ l.row 11=l.v.fc:=rfl
@[simp] theorem aEQ (l:dA):at_ l.row 12=nK l.pb (l.pairs.map tA):=rfl
@[simp] theorem vC (l:dA):at_ l.row 13=l.kc:=rfl
@[simp] theorem aHe (v:aB):([.int v.k,.int v.n,.str v.s,v.fc]:Row)=v.row:=rfl
theorem a4U (p:aB×aB):([.int p.1.k,.int p.1.n,.str p.1.s,p.1.fc,.int p.2.k,.int p.2.n,.str p.2.s,p.2.fc]:Row)=tA p:=rfl
@[simp] theorem bE6 (c:C) (new:List Row):(wE c new).rows=c.rows++new:=by
  unfold wE
  split<;>simp
def nL {α:Type} (f:α→α→Bool):List α→List α→Bool
 |[],[]=>true
 |a::r,b::s=>f a b&&nL f r s
 |_,_=>false
theorem aUD {α:Type} {f:α→α→Bool}:∀{l r:List α},nL f l r=true→l.length=r.length
 |[],[],_=>rfl
 |a::l,b::r,h=>by
  simp only[nL,Bool.and_eq_true]at h
  simp[aUD h.2]
 |[],_::_,h=>by simp[nL]at h
 |_::_,[],h=>by simp[nL]at h
theorem aRz {α:Type} {f:α→α→Bool}:∀{l:List α},(∀a∈l,f a a=true)→nL f l l=true
 |[],_=>rfl
 |a::l,h=>by simp only[nL,h a (by simp),aRz (l:=l) (fun x hx=>h x (by simp[hx])),Bool.and_self]
theorem aZ7:∀(l r:List Bytes),nL (fun a b=>a==b) l r=decide (l=r)
 |[],[]=>rfl
 |a::l,b::r=>by
  rw[Bool.eq_iff_iff]
  simp[nL,aZ7 l r]
 |[],_::_=>rfl
 |_::_,[]=>rfl
mutual
def aB.eqv:aB→aB→Bool
 | .mk k n s _ fs,.mk k' n' s' _ fs'=>k==k'&&(n==n'&&(s==s'&&aB.aPb fs fs'))
def aB.aPb:List (Bytes×aB)→List (Bytes×aB)→Bool
 |[],[]=>true
 |(a,v)::r,(b,w)::r'=>a==b&&v.eqv w&&aB.aPb r r'
 |_,_=>false
end
def aNi (p q:Bytes×aB):Bool:=p.1==q.1&&p.2.eqv q.2
theorem aXk:∀(a b:List (Bytes×aB)),aB.aPb a b=nL aNi a b
 |[],[]=>by simp only[aB.aPb,nL]
 |(a,v)::r,(b,w)::r'=>by simp only[aB.aPb,nL,aNi,aXk r r']
 |[],_::_=>by simp only[aB.aPb,nL]
 |_::_,[]=>by simp only[aB.aPb,nL]
theorem aB.aPc (v w:aB):v.eqv w=(v.k==w.k&&(v.n==w.n&&(v.s==w.s&&nL aNi v.fs w.fs))):=by
 cases v;cases w;simp only[aB.eqv,aB.k,aB.n,aB.s,aB.fs,aXk]
theorem aB.aUE (v:aB):v.eqv v=true:=by
 rw[v.aPc,aRz (fun p hp=> ?_)]
 ·simp
 ·have:=aB.sD hp
  simp only[aNi,aB.aUE p.2,Bool.and_true,beq_self_eq_true]
 termination_by SizeOf.sizeOf v
def aRA (p q:aB×aB):Bool:=p.1.eqv q.1&&p.2.eqv q.2
mutual
def dA.eqv:dA→dA→Bool
 | .mk op nm to _ ns n lo hi se v _ ps _ ks,.mk op' nm' to' _ ns' n' lo' hi' se' v' _ ps' _ ks'=>
   op==op'&&nm==nm'&&to==to'&&n==n'&&lo==lo'&&hi==hi'&&se==se'&&v.eqv v'&&decide (ns=ns')&&nL aRA ps ps'&&dA.aPb ks ks'
def dA.aPb:List dA→List dA→Bool
 |[],[]=>true
 |a::r,b::r'=>a.eqv b&&dA.aPb r r'
 |_,_=>false
end
theorem aUF:∀(a b:List dA),dA.aPb a b=nL dA.eqv a b
 |[],[]=>by simp only[dA.aPb,nL]
 |a::r,b::r'=>by simp only[dA.aPb,nL,aUF r r']
 |[],_::_=>by simp only[dA.aPb,nL]
 |_::_,[]=>by simp only[dA.aPb,nL]
theorem dA.aPc (a b:dA):a.eqv b=(a.op==b.op&&a.name==b.name&&a.to==b.to&&a.n==b.n&&a.low==b.low&&a.high==b.high&&a.sep==b.sep&&a.v.eqv b.v&&decide (a.names=b.names)&&nL aRA a.pairs b.pairs&&nL dA.eqv a.kids b.kids):=by
 cases a;cases b;simp only[dA.eqv,dA.op,dA.name,dA.to,dA.n,dA.low,dA.high,dA.sep,dA.v,dA.names,dA.pairs,dA.kids,aUF]
 try rfl
mutual
def dA.norm:dA→dA
 | .mk op nm to _ ns n lo hi se v _ ps _ ks=> .mk op nm to true ns n lo hi se v true ps true (dA.aZ8 ks)
def dA.aZ8:List dA→List dA
 |[]=>[]
 |l::r=>l.norm::dA.aZ8 r
end
theorem dA.aJ6:∀(l:List dA),dA.aZ8 l=l.map dA.norm
 |[]=>by simp only[dA.aZ8,List.map_nil]
 |a::r=>by simp only[dA.aZ8,List.map_cons,dA.aJ6 r]
theorem aSG:∀(ls:List dA),(∀l∈ls,l.norm.fB=l.fB)→dA.oF (ls.map dA.norm)=dA.oF ls
 |[],_=>by simp only[List.map_nil]
 |l::r,h=>by simp only[List.map_cons,dA.oF,h l (by simp),aSG r (fun x hx=>h x (by simp[hx]))]
theorem aRB (l:dA):l.norm.fB=l.fB:=by
 have h:∀k∈l.kids,k.norm.fB=k.fB:=fun k hk=>aRB k
 cases l with
 |mk op nm to nb ns n lo hi se v pb ps kb ks=>
  simp only[dA.norm,dA.fB,dA.aJ6]
  rw[aSG ks h]
 termination_by SizeOf.sizeOf l
 decreasing_by exact dA.sD hk
def aOw (a b:Int):Int:=if a<b then -1 else if a>b then 1 else 0
def orI:List Int→Int
 |[]=>0
 |a::r=>if a=0 then orI r else a
def aNj (n:Int):Int:=if n<0 then -1 - (n+9223372036854775808)else n
theorem a4V {a b:Int}:aOw a b=0↔a=b:=by
 unfold aOw
 split
 ·omega
 ·split<;>omega
theorem a6v {a b:Int} (ha:aB5 a) (hb:aB5 b):aNj a=aNj b↔a=b:=by
 obtain ⟨_,_⟩:=ha
 obtain ⟨_,_⟩:=hb
 unfold aNj
 split<;>split<;>omega
theorem aIO:∀{a b:Bytes},nF a b=0↔a=b
 |[],[]=>by simp[nF]
 |[],_::_=>by simp[nF]
 |_::_,[]=>by simp[nF]
 |a::x,b::y=>by
  simp only[nF,List.cons.injEq]
  split
  ·rename_i h
   constructor
   ·intro h';simp at h'
   ·rintro ⟨rfl,_⟩;exact absurd h (UInt8.lt_irrefl _)
  ·split
   ·rename_i h
    constructor
    ·intro h';simp at h'
    ·rintro ⟨rfl,_⟩;exact absurd h (UInt8.lt_irrefl _)
   ·rename_i h1 h2
    have:a=b:=UInt8.le_antisymm (UInt8.not_lt.1 h2) (UInt8.not_lt.1 h1)
    rw[aIO]
    simp[this]
theorem a9C {n:Int} (h:aB5 n) (hn:n<0):bitsOf .and .i64 n 9223372036854775807=n+9223372036854775808:=by
 obtain ⟨h1,h2⟩:=h
 have e:((BitVec.ofInt 64 n)&&&(BitVec.ofInt 64 9223372036854775807)).toNat=(n+9223372036854775808).toNat:=by
  rw[BitVec.toNat_and,BitVec.toNat_ofInt,BitVec.toNat_ofInt]
  have e2:((9223372036854775807:Int)%((2^64:Nat):Int)).toNat=2^63 - 1:=by decide
  rw[e2,Nat.and_two_pow_sub_one_eq_mod]
  omega
 show IntKind.wrap .i64 (((BitVec.ofInt 64 n)&&&(BitVec.ofInt 64 9223372036854775807)).toNat:Int)=_
 rw[e,show (((n+9223372036854775808).toNat:Nat):Int)=n+9223372036854775808 by omega]
 exact wrap_i64 ⟨by omega,by omega⟩
mutual
def aB.cmp:aB→aB→Int
 | .mk k n s _ fs,.mk k' n' s' _ fs'=>
   let c:=orI [aOw k k',aOw (if k=3 then aNj n else n) (if k=3 then aNj n' else n'),nF s s']
   if c=0 then aB.a2j fs fs' else c
def aB.a2j:List (Bytes×aB)→List (Bytes×aB)→Int
 |[],[]=>0
 |[],_::_=> -1
 |_::_,[]=>1
 |(a,v)::r,(b,w)::r'=>let c:=orI [nF a b,v.cmp w];if c=0 then aB.a2j r r' else c
end
def aA1 (p q:Bytes×aB):Int:=orI [nF p.1 q.1,p.2.cmp q.2]
def aK8 {α:Type} (f:α→α→Int):List α→List α→Int
 |[],[]=>0
 |[],_::_=> -1
 |_::_,[]=>1
 |a::r,b::s=>if f a b=0 then aK8 f r s else f a b
theorem aZ9:∀(a b:List (Bytes×aB)),aB.a2j a b=aK8 aA1 a b
 |[],[]=>by simp only[aB.a2j,aK8]
 |(a,v)::r,(b,w)::r'=>by simp only[aB.a2j,aK8,aA1,aZ9 r r'];rfl
 |[],_::_=>by simp only[aB.a2j,aK8]
 |_::_,[]=>by simp only[aB.a2j,aK8]
theorem aB.cmp_eq (v w:aB):v.cmp w=if orI [aOw v.k w.k,aOw (if v.k=3 then aNj v.n else v.n) (if v.k=3 then aNj w.n else w.n),nF v.s w.s]=0 then aK8 aA1 v.fs w.fs else
 orI [aOw v.k w.k,aOw (if v.k=3 then aNj v.n else v.n) (if v.k=3 then aNj w.n else w.n),nF v.s w.s]:=by
 cases v;cases w;simp only[aB.cmp,aB.k,aB.n,aB.s,aB.fs,aZ9];rfl
theorem aUG:∀{l:List Int},orI l=0↔∀a∈l,a=0
 |[]=>by simp[orI]
 |a::r=>by
  simp only[orI,List.mem_cons,forall_eq_or_imp]
  split
  ·rename_i h;rw[aUG];simp[h]
  ·rename_i h;simp[h]
theorem aXl {α:Type} {f:α→α→Int} {g:α→α→Bool}:∀{l r:List α},(∀a∈l,∀b∈r,f a b=0↔g a b=true)→(aK8 f l r=0↔nL g l r=true)
 |[],[],_=>by simp[aK8,nL]
 |a::l,b::r,h=>by
  have h1:=h a (by simp) b (by simp)
  have h2:=aXl (l:=l) (r:=r) (fun x hx y hy=>h x (by simp[hx]) y (by simp[hy]))
  simp only[aK8,nL,Bool.and_eq_true]
  split
  ·rename_i e;rw[h2];simp[h1.1 e]
  ·rename_i e
   constructor
   ·intro e';exact absurd e' e
   ·rintro ⟨e',_⟩;exact absurd (h1.2 e') e
 |[],_::_,_=>by simp[aK8,nL]
 |_::_,[],_=>by simp[aK8,nL]
theorem aB.a0a (v w:aB) (hv:v.wf) (hw:w.wf):v.cmp w=0↔v.eqv w=true:=by
 have hl:aK8 aA1 v.fs w.fs=0↔nL aNi v.fs w.fs=true:=aXl fun p hp q hq=>by
  have:=aB.sD hp
  have ih:=aB.a0a p.2 q.2 (aB.aYz hv hp) (aB.aYz hw hq)
  simp only[aA1,aNi,aUG,List.mem_cons,List.not_mem_nil,or_false,forall_eq_or_imp,forall_eq,ih,aIO,Bool.and_eq_true,beq_iff_eq]
 have hk:=aB.aWd hv
 have hn:=aB.aWd hw
 have key:orI [aOw v.k w.k,aOw (if v.k=3 then aNj v.n else v.n) (if v.k=3 then aNj w.n else w.n),nF v.s w.s]=0↔v.k=w.k∧v.n=w.n∧v.s=w.s:=by
  simp only[aUG,List.mem_cons,List.not_mem_nil,or_false,forall_eq_or_imp,forall_eq,a4V,aIO]
  by_cases k3:v.k=3
  ·simp only[k3,if_true,a6v hk hn]
  ·simp only[k3,if_false]
 rw[v.cmp_eq,v.aPc]
 simp only[Bool.and_eq_true,beq_iff_eq]
 by_cases e:orI [aOw v.k w.k,aOw (if v.k=3 then aNj v.n else v.n) (if v.k=3 then aNj w.n else w.n),nF v.s w.s]=0
 ·rw[if_pos e,hl]
  obtain ⟨e1,e2,e3⟩:=key.1 e
  simp[e1,e2,e3]
 ·rw[if_neg e]
  constructor
  ·intro e';exact absurd e' e
  ·rintro ⟨e1,e2,e3,_⟩
   exact absurd (key.2 ⟨e1,e2,e3⟩) e
 termination_by SizeOf.sizeOf v
def aRC {α:Type} (f:α→α→Int):List α→List α→Int
 |[],_=>0
 |_::_,[]=>1
 |a::r,b::s=>if f a b=0 then aRC f r s else f a b
theorem aXm {α:Type} {f:α→α→Int}:∀(l r:List α),aK8 f l r=if aRC f l r=0 then (if l.length<r.length then -1 else 0)else aRC f l r
 |[],[]=>by simp[aK8,aRC]
 |a::l,b::r=>by
  simp only[aK8,aRC,aXm l r,List.length_cons,Nat.add_lt_add_iff_right]
  split
  ·rfl
  ·rename_i h;simp[h]
 |[],_::_=>by simp[aK8,aRC]
 |_::_,[]=>by simp[aK8,aRC]
end Go.Ev
