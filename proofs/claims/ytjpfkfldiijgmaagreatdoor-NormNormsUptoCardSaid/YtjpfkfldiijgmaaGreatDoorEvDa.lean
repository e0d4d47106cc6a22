/-
  Readings of plain data: what fits a type; bulk.
-/
import Derived.Test.YtjpfkfldiijgmaaGreatDoorEvZa
set_option linter.all false
set_option maxRecDepth 100000
namespace Go.Ev
variable {H:Type} {enc:TypeId×Value→H} {P:Program} {w:World}
def aBc (P:Program):Nat→TypeId→DataW H→Prop
 |0,_,_=>False
 |n+1,t,d=>match P.underlying t,d with
  |some .bool,.lit (.bool _)=>True
  |some (.int k),.lit (.int k' m)=>k'=k∧(Lit.int k m).wf=true
  |some .string,.lit (.string s)=>True
  |some (.slice _),.nil=>True
  |some (.slice e),.slice es _=>∀x∈es,aBc P n e x
  |some (.struct fs),.agg ds=>ds.length=fs.toList.length∧∀(i:Nat) (f:Field) (d:DataW H),fs.toList[i]? =some f→ds[i]? =some d→aBc P n f.type d
  |some (.array m e),.agg ds=>ds.length=m∧∀d∈ds,aBc P n e d
  |_,_=>False
theorem a6E {base:Nat} {sp:Nat→Bool} {held:Bool} {ts:List TypeId} (hp:aLe P ts=true):
 ∀(fuel:Nat) (t:TypeId) (cs:List Value) (x:DataW H×List MemPlace),t∈ts→DataW.trod enc P w base sp held fuel t cs=some x→aBc P fuel t x.1:=by
 intro fuel
 induction fuel with
 |zero=>intro t cs x _ h;simp[DataW.trod]at h
 |succ fuel ih=>
  intro t cs x ht h
  have hpt:=List.all_eq_true.1 hp t ht
  simp only[Bool.and_eq_true]at hpt
  have hpt:=hpt.2
  unfold DataW.trod at h
  simp only[aBc]
  cases hu:P.underlying t with
  |none=>simp[hu]at hpt
  |some d=>
   cases d<;>simp only[hu]at hpt h<;>try (simp at hpt;done)
   case bool=>
    split at h<;>simp_all
    obtain ⟨rfl⟩:=h
    trivial
   case int k=>
    split at h<;>simp_all
    obtain ⟨⟨rfl,hw⟩,rfl⟩:=h
    exact ⟨rfl,hw⟩
   case string=>
    split at h<;>simp_all
    obtain ⟨_,rfl⟩:=h
    trivial
   case slice e=>
    simp only[Bool.and_eq_true,List.contains_iff_mem]at hpt
    split at h
    case h_7=>
     simp only[Option.some.injEq]at h
     subst h
     trivial
    case h_8=>
     rename_i e' a len cap heq
     cases heq
     split at h
     ·simp only[Option.map_eq_some_iff,Option.bind_eq_some_iff]at h
      obtain ⟨elems,he,rest,_,rfl⟩:=h
      simp only[List.mem_map]
      rintro y ⟨z,hz,rfl⟩
      obtain ⟨i,hi,hz'⟩:=List.mem_iff_getElem.1 hz
      have hlen:elems.length=len:=by simpa using mapM_some_length he
      have:=mapM_some_get he i i (by simp[show i<len by omega])
      rw[List.getElem?_eq_getElem hi,hz',Option.bind_eq_some_iff]at this
      obtain ⟨cs',_,h2⟩:=this
      exact ih _ _ _ hpt.1 h2
     ·simp at h
    all_goals first |(rename_i heq _;cases heq;done)|(rename_i heq;cases heq;done)|(simp at h;done)
   case struct fs=>
    have h':(if cs.length=P.cellsOf t then (fs.toList.mapM fun f=>DataW.trod enc P w base sp held fuel f.type ((cs.drop f.offset).take (P.cellsOf f.type))).map fun xs=>(DataW.agg (xs.map (·.1)),xs.flatMap (·.2))else none)=some x:=by
     rw[←h]
    split at h'
    ·simp only[Option.map_eq_some_iff]at h'
     obtain ⟨xs,hm,rfl⟩:=h'
     refine ⟨by simpa using mapM_some_length hm,fun i f d hf hd=> ?_⟩
     have h1:=mapM_some_get hm i f hf
     simp only[List.getElem?_map,Option.map_eq_some_iff]at hd
     obtain ⟨y,hy,rfl⟩:=hd
     rw[hy]at h1
     exact ih _ _ _ (by
      have:=List.all_eq_true.1 hpt f (List.mem_of_getElem? hf)
      simpa using this) h1
    ·simp at h'
   case array m e=>
    have h':(if cs.length=P.cellsOf t then ((List.range m).mapM fun i=>DataW.trod enc P w base sp held fuel e ((cs.drop (i*P.cellsOf e)).take (P.cellsOf e))).map fun xs=>(DataW.agg (xs.map (·.1)),xs.flatMap (·.2))else none)=some x:=by
     rw[←h]
    split at h'
    ·simp only[Option.map_eq_some_iff]at h'
     obtain ⟨xs,hm,rfl⟩:=h'
     have hlen:xs.length=m:=by simpa using mapM_some_length hm
     refine ⟨by simpa using hlen,fun d hd=> ?_⟩
     simp only[List.mem_map]at hd
     obtain ⟨z,hz,rfl⟩:=hd
     obtain ⟨i,hi,hz'⟩:=List.mem_iff_getElem.1 hz
     have:=mapM_some_get hm i i (by simp[show i<m by omega])
     rw[List.getElem?_eq_getElem hi,hz']at this
     exact ih _ _ _ (by simpa using hpt) this
    ·simp at h'
theorem aSL {base:Nat} {sp:Nat→Bool} {held:Bool} {ts:List TypeId} (hp:aLe P ts=true):
 ∀{us:List TypeId} {vs:List Value} {ds:List (DataW H)} {p:List MemPlace},(∀t∈us,t∈ts)→DataW.TrodAll enc P w base sp held us vs ds p→
  ds.length=us.length∧∀(i:Nat) t d,us[i]? =some t→ds[i]? =some d→∃n,aBc P n t d
 |[],[],[],p,_,_=>⟨rfl,fun i t d h=>by simp at h⟩
 |t::us,v::vs,d::ds,p,ht,⟨p1,q1,⟨n,h1⟩,h2,_⟩=>by
  obtain ⟨a,b⟩:=aSL hp (fun t' h=>ht t' (by simp[h])) h2
  refine ⟨by simp[a],fun i t' d' e1 e2=> ?_⟩
  cases i with
  |zero=>
   simp at e1 e2
   subst e1;subst e2
   exact ⟨n,a6E hp n _ _ _ (ht t (by simp)) h1⟩
  |succ i=>exact b i t' d' (by simpa using e1) (by simpa using e2)
 |[],_::_,_,_,_,h=>by simp[DataW.TrodAll]at h
 |[],[],_::_,_,_,h=>by simp[DataW.TrodAll]at h
 |_::_,[],_,_,_,h=>by simp[DataW.TrodAll]at h
 |_::_,_::_,[],_,_,h=>by simp[DataW.TrodAll]at h
mutual
def tR:DataW H→Nat
 | .lit (.string bytes)=>bytes.length+1
 | .slice elems _=>aCh elems+1
 | .agg parts=>aCh parts+1
 |_=>1
def aCh:List (DataW H)→Nat
 |[]=>0
 |d::r=>tR d+aCh r
end
end Go.Ev
namespace Go.Ev
abbrev Bytes:=List UInt8
section bFY
@[simp] theorem gA (c:C) (r:Row):at_ (c::r) 0=c:=rfl
@[simp] theorem bIb (c:C) (r:Row) (i:Nat):at_ (c::r) (i+1)=at_ r i:=rfl
@[simp] theorem bNf (a b:C) (r:Row):at_ (a::b::r) 1=b:=rfl
@[simp] theorem fA (c:Row) (r:List Row):aA (c::r) 0=c:=rfl
@[simp] theorem iD (c:Row) (r:List Row) (i:Nat):aA (c::r) (i+1)=aA r i:=rfl
@[simp] theorem jA (n:Int):(C.int n).tA=n:=rfl
@[simp] theorem iA (b:Bool):(C.bool b).wJ=b:=rfl
@[simp] theorem rA (s:Bytes):(C.str s).mE=s:=rfl
@[simp] theorem wA (r:Row):(C.dp r).eA=r:=rfl
@[simp] theorem fB (r:Row):(C.dp r).yA=true:=rfl
@[simp] theorem aCi (r:List Row):(C.sl r).rows=r:=rfl
@[simp] theorem a48:C.bA.rows=[]:=rfl
@[simp] theorem bI (r:Row) (x:List PV):hd (.r r::x)=r:=rfl
end bFY
def iJ:Bool→List Row→C
 |true,[]=> .bA
 |_,rows=> .sl rows
@[simp] theorem jC (b:Bool) (rows:List Row):(iJ b rows).rows=rows:=by
  cases b<;>cases rows<;>rfl
theorem aXp (rows:List Row):iJ false rows= .sl rows:=by cases rows<;>rfl
theorem aYI:iJ true []= .bA:=rfl
theorem fC {α:Type} (f:α→Row) (l:List α) (i:Nat) (h:i<l.length):aA (l.map f) i=f l[i]:=by
 simp[aA,List.getD_eq_getElem?_getD,h]
def aCj (n:Int):Prop:= -9223372036854775808≤n∧n≤9223372036854775807
theorem wrap_i64 {n:Int} (h:aCj n):IntKind.wrap .i64 n=n:=by
 obtain ⟨h1,h2⟩:=h
 simp[IntKind.wrap,IntKind.signed,IntKind.bits]
 omega
theorem aBz {n:Int} (h:(Lit.int .i64 n).wf=true):aCj n:=by
 simpa[Lit.wf,IntKind.min,IntKind.max,IntKind.signed,IntKind.bits,aCj]using h
inductive aB where |mk (k n:Int) (s:Bytes) (nil:Bool) (fs:List (Bytes×aB))
def aB.k:aB→Int | .mk k _ _ _ _=>k
def aB.n:aB→Int | .mk _ n _ _ _=>n
def aB.s:aB→Bytes | .mk _ _ s _ _=>s
def aB.nil:aB→Bool | .mk _ _ _ b _=>b
def aB.fs:aB→List (Bytes×aB)| .mk _ _ _ _ fs=>fs
mutual
def aB.fc:aB→C
 | .mk _ _ _ b fs=>iJ b (aB.rowsOf fs)
def aB.rowsOf:List (Bytes×aB)→List Row
 |[]=>[]
 |(nm,v)::r=>[.str nm,.int v.k,.int v.n,.str v.s,v.fc]::aB.rowsOf r
end
def aB.row (v:aB):Row:=[.int v.k,.int v.n,.str v.s,v.fc]
def qD (p:Bytes×aB):Row:= .str p.1::p.2.row
theorem aB.bS:∀(fs:List (Bytes×aB)),aB.rowsOf fs=fs.map qD
 |[]=>by simp only[aB.rowsOf,List.map_nil]
 |(nm,v)::r=>by simp only[aB.rowsOf,List.map_cons,aB.bS r,qD,aB.row]
theorem aB.aZ5 (v:aB):v.fc=iJ v.nil (v.fs.map qD):=by
 cases v;simp only[aB.fc,aB.nil,aB.fs,aB.bS]
@[simp] theorem aB.fY (v:aB):v.fc.rows=v.fs.map qD:=by rw[v.aZ5,jC]
theorem aB.lD {v:aB} {p:Bytes×aB} (h:p∈v.fs):SizeOf.sizeOf p.2<SizeOf.sizeOf v:=by
 cases v with
 |mk k n s b fs=>
  have h1:=List.sizeOf_lt_of_mem (show p∈fs from h)
  have h2:SizeOf.sizeOf p.2<SizeOf.sizeOf p:=by cases p;simp;omega
  simp only[aB.mk.sizeOf_spec]
  omega
mutual
def aB.wf:aB→Prop
 | .mk k n _ _ fs=>aCj k∧aCj n∧aB.wfs fs
def aB.wfs:List (Bytes×aB)→Prop
 |[]=>True
 |(_,v)::r=>v.wf∧aB.wfs r
end
mutual
def aB.mB:aB→Nat
 | .mk _ _ s _ fs=>s.length+aB.lF fs+1
def aB.lF:List (Bytes×aB)→Nat
 |[]=>0
 |(nm,v)::r=>nm.length+v.mB+1+aB.lF r
end
theorem aB.aQg:∀{fs:List (Bytes×aB)} {p:Bytes×aB},aB.wfs fs→p∈fs→p.2.wf
 |(nm,v)::r,p,h,hp=>by
  simp only[aB.wfs]at h
  rcases List.mem_cons.1 hp with rfl |hp
  ·exact h.1
  ·exact aB.aQg h.2 hp
theorem aB.aWk {v:aB} (h:v.wf):aCj v.n:=by cases v;simp only[aB.wf]at h;exact h.2.1
theorem aB.aYJ {v:aB} (h:v.wf) {p:Bytes×aB} (hp:p∈v.fs):p.2.wf:=by
 cases v;simp only[aB.wf]at h;exact aB.aQg h.2.2 hp
theorem aB.aKd:∀{fs:List (Bytes×aB)} {p:Bytes×aB},p∈fs→p.1.length+p.2.mB+1≤aB.lF fs
 |(nm,v)::r,p,hp=>by
  simp only[aB.lF]
  rcases List.mem_cons.1 hp with rfl |hp
  ·simp
  ·have:=aB.aKd hp;omega
theorem aB.aBA:∀(fs:List (Bytes×aB)),fs.length≤aB.lF fs
 |[]=>by simp[aB.lF]
 |(nm,v)::r=>by have:=aB.aBA r;simp only[aB.lF,List.length_cons];omega
theorem aB.eG (v:aB):v.mB=v.s.length+aB.lF v.fs+1:=by cases v;simp only[aB.mB,aB.s,aB.fs]
theorem aB.aHr (v:aB):v.fs.length≤v.mB:=by have:=aB.aBA v.fs;rw[v.eG];omega
theorem aB.aKe {v:aB} {p:Bytes×aB} (hp:p∈v.fs):p.1.length+p.2.mB<v.mB:=by have:=aB.aKd hp;rw[v.eG];omega
inductive dA where |mk (op:Int) (name to:Bytes) (nb:Bool) (names:List Bytes) (n low high sep:Int) (v:aB) (pb:Bool) (pairs:List (aB×aB)) (kb:Bool) (kids:List dA)
namespace dA
def op:dA→Int | .mk x _ _ _ _ _ _ _ _ _ _ _ _ _=>x
def name:dA→Bytes | .mk _ x _ _ _ _ _ _ _ _ _ _ _ _=>x
def to:dA→Bytes | .mk _ _ x _ _ _ _ _ _ _ _ _ _ _=>x
def nb:dA→Bool | .mk _ _ _ x _ _ _ _ _ _ _ _ _ _=>x
def names:dA→List Bytes | .mk _ _ _ _ x _ _ _ _ _ _ _ _ _=>x
def n:dA→Int | .mk _ _ _ _ _ x _ _ _ _ _ _ _ _=>x
def low:dA→Int | .mk _ _ _ _ _ _ x _ _ _ _ _ _ _=>x
def high:dA→Int | .mk _ _ _ _ _ _ _ x _ _ _ _ _ _=>x
def sep:dA→Int | .mk _ _ _ _ _ _ _ _ x _ _ _ _ _=>x
def v:dA→aB | .mk _ _ _ _ _ _ _ _ _ x _ _ _ _=>x
def pb:dA→Bool | .mk _ _ _ _ _ _ _ _ _ _ x _ _ _=>x
def pairs:dA→List (aB×aB)| .mk _ _ _ _ _ _ _ _ _ _ _ x _ _=>x
def kb:dA→Bool | .mk _ _ _ _ _ _ _ _ _ _ _ _ x _=>x
def kids:dA→List dA | .mk _ _ _ _ _ _ _ _ _ _ _ _ _ x=>x
end dA
def sA (p:aB×aB):Row:=[.int p.1.k,.int p.1.n,.str p.1.s,p.1.fc,.int p.2.k,.int p.2.n,.str p.2.s,p.2.fc]
def cF (s:Bytes):Row:=[.str s]
mutual
def dA.kc:dA→C
 | .mk _ _ _ _ _ _ _ _ _ _ _ _ kb kids=>iJ kb (dA.rowsOf kids)
def dA.rowsOf:List dA→List Row
 |[]=>[]
 |l::r=>[.int l.op,.str l.name,.str l.to,iJ l.nb (l.names.map cF),.int l.n,.int l.low,.int l.high,.int l.sep,.int l.v.k,.int l.v.n,.str l.v.s,l.v.fc,iJ l.pb (l.pairs.map sA),l.kc]::dA.rowsOf r
end
def dA.row (l:dA):Row:=[.int l.op,.str l.name,.str l.to,iJ l.nb (l.names.map cF),.int l.n,.int l.low,.int l.high,.int l.sep,.int l.v.k,.int l.v.n,.str l.v.s,l.v.fc,iJ l.pb (l.pairs.map sA),l.kc]
theorem dA.bS:∀(ls:List dA),dA.rowsOf ls=ls.map dA.row
 |[]=>by simp only[dA.rowsOf,List.map_nil]
 |l::r=>by simp only[dA.rowsOf,List.map_cons,dA.bS r,dA.row]
theorem dA.aZ6 (l:dA):l.kc=iJ l.kb (l.kids.map dA.row):=by
 cases l;simp only[dA.kc,dA.kb,dA.kids,dA.bS]
@[simp] theorem dA.cD (l:dA):l.kc.rows=l.kids.map dA.row:=by rw[l.aZ6,jC]
theorem dA.lD {l k:dA} (h:k∈l.kids):SizeOf.sizeOf k<SizeOf.sizeOf l:=by
 cases l with
 |mk=>
  have h1:=List.sizeOf_lt_of_mem (show k∈_ from h)
  simp only[dA.kids]at h1
  simp only[dA.mk.sizeOf_spec]
  omega
mutual
def dA.wf:dA→Prop
 | .mk op _ _ _ _ n low high sep v _ pairs _ kids=>aCj op∧aCj n∧aCj low∧aCj high∧(0≤sep∧sep≤255)∧v.wf∧(∀p∈pairs,p.1.wf∧p.2.wf)∧dA.wfs kids
def dA.wfs:List dA→Prop
 |[]=>True
 |l::r=>l.wf∧dA.wfs r
end
def zJ:List Bytes→Nat
 |[]=>0
 |s::r=>s.length+1+zJ r
def zH:List (aB×aB)→Nat
 |[]=>0
 |p::r=>p.1.mB+p.2.mB+1+zH r
mutual
def dA.mB:dA→Nat
 | .mk _ name to _ names _ _ _ _ v _ pairs _ kids=>name.length+to.length+zJ names+v.mB+zH pairs+dA.lF kids+1
def dA.lF:List dA→Nat
 |[]=>0
 |l::r=>l.mB+dA.lF r
end
theorem dA.eG (l:dA):l.mB=l.name.length+l.to.length+zJ l.names+l.v.mB+zH l.pairs+dA.lF l.kids+1:=by
 cases l;simp only[dA.mB,dA.name,dA.to,dA.names,dA.v,dA.pairs,dA.kids]
theorem dA.aNm (l:dA):1≤l.mB:=by rw[l.eG];omega
theorem cS:∀(l:List Bytes),l.length≤zJ l
 |[]=>by simp[zJ]
 |s::r=>by have:=cS r;simp only[zJ,List.length_cons];omega
theorem aAj:∀(l:List (aB×aB)),l.length≤zH l
 |[]=>by simp[zH]
 |s::r=>by have:=aAj r;simp only[zH,List.length_cons];omega
theorem aAk:∀{l:List (aB×aB)} {p:aB×aB},p∈l→p.1.mB+p.2.mB<zH l
 |x::r,s,h=>by
  simp only[zH]
  rcases List.mem_cons.1 h with rfl |h
  ·omega
  ·have:=aAk h;omega
theorem dA.aBA:∀(l:List dA),l.length≤dA.lF l
 |[]=>by simp[dA.lF]
 |s::r=>by have:=dA.aBA r;have:=s.aNm;simp only[dA.lF,List.length_cons];omega
theorem dA.aKd:∀{l:List dA} {k:dA},k∈l→k.mB≤dA.lF l
 |x::r,k,h=>by
  simp only[dA.lF]
  rcases List.mem_cons.1 h with rfl |h
  ·omega
  ·have:=dA.aKd h;omega
theorem dA.aE4 {l k:dA} (h:k∈l.kids):k.mB<l.mB:=by have:=dA.aKd h;rw[l.eG];omega
theorem dA.aQg:∀{ls:List dA} {k:dA},dA.wfs ls→k∈ls→k.wf
 |l::r,k,h,hk=>by
  simp only[dA.wfs]at h
  rcases List.mem_cons.1 hk with rfl |hk
  ·exact h.1
  ·exact dA.aQg h.2 hk
theorem dA.a2u {l k:dA} (h:l.wf) (hk:k∈l.kids):k.wf:=by
 cases l;simp only[dA.wf]at h;exact dA.aQg h.2.2.2.2.2.2.2 hk
theorem dA.bDz {l:dA} (h:l.wf):l.v.wf:=by cases l;simp only[dA.wf]at h;exact h.2.2.2.2.2.1
theorem dA.a9O {l:dA} (h:l.wf) {p:aB×aB} (hp:p∈l.pairs):p.1.wf∧p.2.wf:=by cases l;simp only[dA.wf]at h;exact h.2.2.2.2.2.2.1 p hp
variable {H:Type} {P:Program}
def isStruct (P:Program) (t:TypeId) (us:List TypeId):Bool:=match P.underlying t with
 |some (.struct fs)=>decide (fs.toList.map (·.type)=us)
 |_=>false
theorem aPi {n:Nat} {t:TypeId} {us:List TypeId} {d:DataW H} (ht:isStruct P t us=true) (h:aBc P (n+1) t d):
 ∃ds,d= .agg ds∧ds.length=us.length∧∀(i:Nat) u x,us[i]? =some u→ds[i]? =some x→aBc P n u x:=by
 unfold isStruct at ht
 simp only[aBc]at h
 cases hu:P.underlying t with
 |none=>simp[hu]at ht
 |some dd=>
  cases dd<;>simp only[hu]at ht h<;>try (simp at ht;done)
  rename_i fs
  have ht:=of_decide_eq_true ht
  cases d<;>(try simp only at h)<;>try (exact h.elim)
  rename_i ds
  subst ht
  refine ⟨ds,rfl,by simp[h.1],fun i u x hi hx=> ?_⟩
  simp only[List.getElem?_map,Option.map_eq_some_iff]at hi
  obtain ⟨f,hf,rfl⟩:=hi
  exact h.2 i f x hf hx
theorem aLf {n:Nat} {t:TypeId} {k:IntKind} {d:DataW H} (ht:P.underlying t=some (.int k)) (h:aBc P n t d):∃m,d= .lit (.int k m)∧(Lit.int k m).wf=true:=by
 cases n with
 |zero=>simp[aBc]at h
 |succ n=>
  simp only[aBc,ht]at h
  cases d<;>(try simp only at h)<;>try (exact h.elim)
  rename_i l
  cases l<;>(try simp only at h)<;>try (exact h.elim)
  obtain ⟨rfl,hw⟩:=h
  exact ⟨_,rfl,hw⟩
theorem aQh {n:Nat} {t:TypeId} {d:DataW H} (ht:P.underlying t=some .string) (h:aBc P n t d):∃s,d= .lit (.string s):=by
 cases n with
 |zero=>simp[aBc]at h
 |succ n=>
  simp only[aBc,ht]at h
  cases d<;>(try simp only at h)<;>try (exact h.elim)
  rename_i l
  cases l<;>(try simp only at h)<;>try (exact h.elim)
  exact ⟨_,rfl⟩
theorem aOj {n:Nat} {t e:TypeId} {d:DataW H} (ht:P.underlying t=some (.slice e)) (h:aBc P n t d):∃(b:Bool) (es:List (DataW H)),(∀x∈es,aBc P (n - 1) e x)∧aAl d=[iJ b (es.map aAl)]∧tR d=aCh es+1:=by
 cases n with
 |zero=>simp[aBc]at h
 |succ n=>
  simp only[aBc,ht]at h
  cases d<;>(try simp only at h)<;>try (exact h.elim)
  ·exact ⟨true,[],by simp,rfl,by simp only[tR,aCh]⟩
  ·rename_i es sp
   exact ⟨false,es,h,by simp only[aAl,aRF,aXp],by simp only[tR]⟩
theorem a5a {n m:Nat} {t e:TypeId} {d:DataW H} (ht:P.underlying t=some (.array m e)) (h:aBc P (n+1) t d):∃ds,d= .agg ds∧ds.length=m∧∀x∈ds,aBc P n e x:=by
 simp only[aBc,ht]at h
 cases d<;>(try simp only at h)<;>try (exact h.elim)
 exact ⟨_,rfl,h.1,h.2⟩
theorem aNn {α:Type} {n:Nat} {e:TypeId} (row:α→Row) (good:α→Prop) (mB:α→Nat) (lF:List α→Nat) (c:Nat) (h0:lF []=0) (h1:∀a r,lF (a::r)≤mB a+c+lF r)
 (one:∀d:DataW H,aBc P n e d→∃a,aAl d=row a∧good a∧mB a+c≤tR d):
 ∀(es:List (DataW H)),(∀x∈es,aBc P n e x)→∃as:List α,es.map aAl=as.map row∧(∀a∈as,good a)∧lF as≤aCh es
 |[],_=>⟨[],rfl,by simp,by rw[h0];omega⟩
 |d::r,h=>by
  obtain ⟨a,e1,g1,b1⟩:=one d (h d (by simp))
  obtain ⟨as,e2,g2,b2⟩:=aNn row good mB lF c h0 h1 one r (fun x hx=>h x (by simp[hx]))
  refine ⟨a::as,by simp[e1,e2], ?_, ?_⟩
  ·intro x hx
   rcases List.mem_cons.1 hx with rfl |hx
   ·exact g1
   ·exact g2 x hx
  ·have:=h1 a as
   simp only[aCh]
   omega
theorem a6F:∀{fs:List (Bytes×aB)},(∀p∈fs,p.2.wf)→aB.wfs fs
 |[],_=>by simp only[aB.wfs]
 |(nm,v)::r,h=>by simp only[aB.wfs];exact ⟨h (nm,v) (by simp),a6F (fun p hp=>h p (by simp[hp]))⟩
theorem aQi:∀{ls:List dA},(∀l∈ls,l.wf)→dA.wfs ls
 |[],_=>by simp only[dA.wfs]
 |l::r,h=>by simp only[dA.wfs];exact ⟨h l (by simp),aQi (fun p hp=>h p (by simp[hp]))⟩
structure bDA (P:Program) (tI tU tS tV tFs tF:TypeId):Prop where
 int:P.underlying tI=some (.int .i64)
 u8:P.underlying tU=some (.int .u8)
 str:P.underlying tS=some .string
 val:isStruct P tV [tI,tI,tS,tFs]=true
 bIV:P.underlying tFs=some (.slice tF)
 fld:isStruct P tF [tS,tV]=true
theorem aXr {α:Type} {l:List α} (h:l.length=4):∃a b c d,l=[a,b,c,d]:=by
 match l,h with
 |[a,b,c,d],_=>exact ⟨a,b,c,d,rfl⟩
theorem bA2 {α:Type} {l:List α} (h:l.length=2):∃a b,l=[a,b]:=by
 match l,h with
 |[a,b],_=>exact ⟨a,b,rfl⟩
theorem bDB {α:Type} {l:List α} (h:l.length=11):∃a b c d e f g i j k m,l=[a,b,c,d,e,f,g,i,j,k,m]:=by
 match l,h with
 |[a,b,c,d,e,f,g,i,j,k,m],_=>exact ⟨a,b,c,d,e,f,g,i,j,k,m,rfl⟩
theorem aYK {tI tU tS tV tFs tF:TypeId} (A:bDA P tI tU tS tV tFs tF):∀(n:Nat) (d:DataW H),aBc P n tV d→∃v:aB,aAl d=v.row∧v.wf∧v.mB≤tR d:=by
 intro n
 induction n using Nat.strongRecOn with
 |ind n ih=>
  intro d h
  cases n with
  |zero=>simp[aBc]at h
  |succ n=>
   obtain ⟨ds,rfl,hl,hf⟩:=aPi A.val h
   obtain ⟨d0,d1,d2,d3,rfl⟩:=aXr hl
   obtain ⟨k,rfl,wk⟩:=aLf A.int (hf 0 _ _ rfl rfl)
   obtain ⟨m,rfl,wm⟩:=aLf A.int (hf 1 _ _ rfl rfl)
   obtain ⟨s,rfl⟩:=aQh A.str (hf 2 _ _ rfl rfl)
   obtain ⟨b,es,hes,hrow,a3G⟩:=aOj A.bIV (hf 3 _ _ rfl rfl)
   obtain ⟨fs,e1,e2,e3⟩:=aNn (α:=Bytes×aB) qD (fun p=>p.2.wf) (fun p=>p.1.length+p.2.mB) aB.lF 1 (by simp only[aB.lF]) (fun p r=>by obtain ⟨nm,v⟩:=p;simp only[aB.lF];omega) (by
    intro d hd
    cases hn:n - 1 with
    |zero=>rw[hn]at hd;simp[aBc]at hd
    |succ q=>
     rw[hn]at hd
     obtain ⟨ds,rfl,hl,hf⟩:=aPi A.fld hd
     obtain ⟨d0,d1,rfl⟩:=bA2 hl
     obtain ⟨nm,rfl⟩:=aQh A.str (hf 0 _ _ rfl rfl)
     obtain ⟨v,h1,h2,h3⟩:=ih q (by omega) d1 (hf 1 _ _ rfl rfl)
     refine ⟨(nm,v), ?_,h2, ?_⟩
     ·simp only[aAl,aOC,h1,qD,List.append_nil,List.singleton_append]
     ·simp only[tR,aCh];omega) es hes
   refine ⟨.mk k m s b fs, ?_, ?_, ?_⟩
   ·simp only[aAl,aOC,hrow,aB.row,aB.k,aB.n,aB.s,aB.fc,aB.bS,e1,List.append_nil,List.cons_append,List.nil_append]
   ·simp only[aB.wf];exact ⟨aBz wk,aBz wm,a6F e2⟩
   ·simp only[aB.mB,tR,aCh,a3G];omega
structure bA3 (P:Program) (tI tU tS tV tL tSs tP tPs tLs:TypeId):Prop where
 lens:isStruct P tL [tI,tS,tS,tSs,tI,tI,tI,tU,tV,tPs,tLs]=true
 strs:P.underlying tSs=some (.slice tS)
 pairs:P.underlying tPs=some (.slice tP)
 pair:P.underlying tP=some (.array 2 tV)
 kids:P.underlying tLs=some (.slice tL)
theorem a6G {tS tSs:TypeId} (hs:P.underlying tS=some .string) (hss:P.underlying tSs=some (.slice tS)) {n:Nat} {d:DataW H} (h:aBc P n tSs d):
 ∃(b:Bool) (l:List Bytes),aAl d=[iJ b (l.map cF)]∧zJ l+1≤tR d:=by
 obtain ⟨b,es,hes,hrow,a3G⟩:=aOj hss h
 obtain ⟨l,e1,_,e3⟩:=aNn (α:=Bytes) cF (fun _=>True) (fun s=>s.length) zJ 1 (by simp only[zJ]) (fun p r=>by simp only[zJ];omega) (by
  intro d hd
  obtain ⟨s,rfl⟩:=aQh hs hd
  exact ⟨s,by simp only[aAl,cF],trivial,by simp only[tR];omega⟩) es hes
 exact ⟨b,l,by rw[hrow,e1],by omega⟩
theorem a6H {tI tU tS tV tFs tF tL tSs tP tPs tLs:TypeId} (A:bDA P tI tU tS tV tFs tF) (B:bA3 P tI tU tS tV tL tSs tP tPs tLs):
 ∀(n:Nat) (d:DataW H),aBc P n tL d→∃l:dA,aAl d=l.row∧l.wf∧l.mB≤tR d:=by
 intro n
 induction n using Nat.strongRecOn with
 |ind n ih=>
  intro d h
  cases n with
  |zero=>simp[aBc]at h
  |succ n=>
   obtain ⟨ds,rfl,hl,hf⟩:=aPi B.lens h
   obtain ⟨d0,d1,d2,d3,d4,d5,d6,d7,d8,d9,d10,rfl⟩:=bDB hl
   obtain ⟨op,rfl,w0⟩:=aLf A.int (hf 0 _ _ rfl rfl)
   obtain ⟨nm,rfl⟩:=aQh A.str (hf 1 _ _ rfl rfl)
   obtain ⟨to,rfl⟩:=aQh A.str (hf 2 _ _ rfl rfl)
   obtain ⟨nb,names,r3,k3⟩:=a6G A.str B.strs (hf 3 _ _ rfl rfl)
   obtain ⟨nn,rfl,w4⟩:=aLf A.int (hf 4 _ _ rfl rfl)
   obtain ⟨lo,rfl,w5⟩:=aLf A.int (hf 5 _ _ rfl rfl)
   obtain ⟨hi,rfl,w6⟩:=aLf A.int (hf 6 _ _ rfl rfl)
   obtain ⟨se,rfl,w7⟩:=aLf A.u8 (hf 7 _ _ rfl rfl)
   obtain ⟨v,r8,w8,k8⟩:=aYK A _ _ (hf 8 _ _ rfl rfl)
   obtain ⟨pb,ps,hps,r9,k9⟩:=aOj B.pairs (hf 9 _ _ rfl rfl)
   obtain ⟨kb,ks,hks,r10,k10⟩:=aOj B.kids (hf 10 _ _ rfl rfl)
   obtain ⟨pairs,e1,e2,e3⟩:=aNn (α:=aB×aB) sA (fun p=>p.1.wf∧p.2.wf) (fun p=>p.1.mB+p.2.mB) zH 1 (by simp only[zH]) (fun p r=>by simp only[zH];omega) (by
    intro d hd
    cases hn:n - 1 with
    |zero=>rw[hn]at hd;simp[aBc]at hd
    |succ q=>
     rw[hn]at hd
     obtain ⟨ds,rfl,hl,hf⟩:=a5a B.pair hd
     obtain ⟨d0,d1,rfl⟩:=bA2 hl
     obtain ⟨v,a1,a2,a3⟩:=aYK A _ _ (hf d0 (by simp))
     obtain ⟨v',b1,b2,b3⟩:=aYK A _ _ (hf d1 (by simp))
     refine ⟨(v,v'), ?_,⟨a2,b2⟩, ?_⟩
     ·simp only[aAl,aOC,a1,b1,aB.row,sA,List.append_nil,List.cons_append,List.nil_append]
     ·simp only[tR,aCh];omega) ps hps
   obtain ⟨kids,f1,f2,f3⟩:=aNn (α:=dA) dA.row dA.wf dA.mB dA.lF 0 (by simp only[dA.lF]) (fun p r=>by simp only[dA.lF];omega) (fun d hd=>by
    obtain ⟨l,g1,g2,g3⟩:=ih (n - 1) (by omega) d hd
    exact ⟨l,g1,g2,by omega⟩) ks hks
   refine ⟨.mk op nm to nb names nn lo hi se v pb pairs kb kids, ?_, ?_, ?_⟩
   ·simp only[aAl,aOC,r3,r8,r9,r10,aB.row,dA.row,dA.op,dA.name,dA.to,dA.nb,dA.names,dA.n,dA.low,dA.high,dA.sep,dA.v,dA.pb,dA.pairs,dA.kc,dA.bS,e1,f1,List.append_nil,List.cons_append,List.nil_append]
   ·simp only[dA.wf]
    have h7:0≤se∧se≤255:=by simpa[Lit.wf,IntKind.min,IntKind.max,IntKind.signed,IntKind.bits]using w7
    exact ⟨aBz w0,aBz w4,aBz w5,aBz w6,h7,w8,e2,aQi f2⟩
   ·simp only[dA.mB,tR,aCh,k9,k10];omega
end Go.Ev
namespace Go.Ev
@[simp] theorem aIu (v:aB):at_ v.row 0= .int v.k:=rfl
@[simp] theorem aLg (v:aB):at_ v.row 1= .int v.n:=rfl
@[simp] theorem aLh (v:aB):at_ v.row 2= .str v.s:=rfl
@[simp] theorem gY (v:aB):at_ v.row 3=v.fc:=rfl
@[simp] theorem a3H (p:Bytes×aB):at_ (qD p) 0= .str p.1:=rfl
@[simp] theorem aYL (p:Bytes×aB):at_ (qD p) 1= .int p.2.k:=rfl
@[simp] theorem aYM (p:Bytes×aB):at_ (qD p) 2= .int p.2.n:=rfl
@[simp] theorem aYN (p:Bytes×aB):at_ (qD p) 3= .str p.2.s:=rfl
@[simp] theorem aYO (p:Bytes×aB):at_ (qD p) 4=p.2.fc:=rfl
@[simp] theorem aZ7 (p:aB×aB):at_ (sA p) 0= .int p.1.k:=rfl
@[simp] theorem aZ8 (p:aB×aB):at_ (sA p) 1= .int p.1.n:=rfl
@[simp] theorem aZ9 (p:aB×aB):at_ (sA p) 2= .str p.1.s:=rfl
@[simp] theorem a0a (p:aB×aB):at_ (sA p) 3=p.1.fc:=rfl
@[simp] theorem a0b (p:aB×aB):at_ (sA p) 4= .int p.2.k:=rfl
@[simp] theorem a0c (p:aB×aB):at_ (sA p) 5= .int p.2.n:=rfl
@[simp] theorem a0d (p:aB×aB):at_ (sA p) 6= .str p.2.s:=rfl
@[simp] theorem a0e (p:aB×aB):at_ (sA p) 7=p.2.fc:=rfl
@[simp] theorem a9P (s:Bytes):at_ (cF s) 0= .str s:=rfl
@[simp] theorem vC (l:dA):at_ l.row 0= .int l.op:=rfl
@[simp] theorem sG (l:dA):at_ l.row 1= .str l.name:=rfl
@[simp] theorem dS (l:dA):at_ l.row 2= .str l.to:=rfl
@[simp] theorem aGl (l:dA):at_ l.row 3=iJ l.nb (l.names.map cF):=rfl
@[simp] theorem aUi (l:dA):at_ l.row 4= .int l.n:=rfl
@[simp] theorem aOk (l:dA):at_ l.row 5= .int l.low:=rfl
@[simp] theorem aOl (l:dA):at_ l.row 6= .int l.high:=rfl
@[simp] theorem aLi (l:dA):at_ l.row 7= .int l.sep:=rfl
@[simp] theorem aIv (l:dA):at_ l.row 8= .int l.v.k:=rfl
@[simp] theorem aQj (l:dA):at_ l.row 9= .int l.v.n:=rfl
@[simp] theorem aNo (l:dA):at_ l.row 10= .str l.v.s:=rfl
@[simp] theorem aNp (l:dA):at_ l.row 11=l.v.fc:=rfl
@[simp] theorem aE5 (l:dA):at_ l.row 12=iJ l.pb (l.pairs.map sA):=rfl
@[simp] theorem uC (l:dA):at_ l.row 13=l.kc:=rfl
@[simp] theorem aHs (v:aB):([.int v.k,.int v.n,.str v.s,v.fc]:Row)=v.row:=rfl
theorem a5b (p:aB×aB):([.int p.1.k,.int p.1.n,.str p.1.s,p.1.fc,.int p.2.k,.int p.2.n,.str p.2.s,p.2.fc]:Row)=sA p:=rfl
@[simp] theorem bFf (c:C) (new:List Row):(uE c new).rows=c.rows++new:=by
  unfold uE
  split<;>simp
def uL {α:Type} (f:α→α→Bool):List α→List α→Bool
 |[],[]=>true
 |a::r,b::s=>f a b&&uL f r s
 |_,_=>false
theorem aUM {α:Type} {f:α→α→Bool}:∀{l r:List α},uL f l r=true→l.length=r.length
 |[],[],_=>rfl
 |a::l,b::r,h=>by
  simp only[uL,Bool.and_eq_true]at h
  simp[aUM h.2]
 |[],_::_,h=>by simp[uL]at h
 |_::_,[],h=>by simp[uL]at h
theorem aRG {α:Type} {f:α→α→Bool}:∀{l:List α},(∀a∈l,f a a=true)→uL f l l=true
 |[],_=>rfl
 |a::l,h=>by simp only[uL,h a (by simp),aRG (l:=l) (fun x hx=>h x (by simp[hx])),Bool.and_self]
theorem a0f:∀(l r:List Bytes),uL (fun a b=>a==b) l r=decide (l=r)
 |[],[]=>rfl
 |a::l,b::r=>by
  rw[Bool.eq_iff_iff]
  simp[uL,a0f l r]
 |[],_::_=>rfl
 |_::_,[]=>rfl
mutual
def aB.eqv:aB→aB→Bool
 | .mk k n s _ fs,.mk k' n' s' _ fs'=>k==k'&&(n==n'&&(s==s'&&aB.aPj fs fs'))
def aB.aPj:List (Bytes×aB)→List (Bytes×aB)→Bool
 |[],[]=>true
 |(a,v)::r,(b,w)::r'=>a==b&&v.eqv w&&aB.aPj r r'
 |_,_=>false
end
def aNq (p q:Bytes×aB):Bool:=p.1==q.1&&p.2.eqv q.2
theorem aXs:∀(a b:List (Bytes×aB)),aB.aPj a b=uL aNq a b
 |[],[]=>by simp only[aB.aPj,uL]
 |(a,v)::r,(b,w)::r'=>by simp only[aB.aPj,uL,aNq,aXs r r']
 |[],_::_=>by simp only[aB.aPj,uL]
 |_::_,[]=>by simp only[aB.aPj,uL]
theorem aB.aPk (v w:aB):v.eqv w=(v.k==w.k&&(v.n==w.n&&(v.s==w.s&&uL aNq v.fs w.fs))):=by
 cases v;cases w;simp only[aB.eqv,aB.k,aB.n,aB.s,aB.fs,aXs]
theorem aB.aUN (v:aB):v.eqv v=true:=by
 rw[v.aPk,aRG (fun p hp=> ?_)]
 ·simp
 ·have:=aB.lD hp
  simp only[aNq,aB.aUN p.2,Bool.and_true,beq_self_eq_true]
 termination_by SizeOf.sizeOf v
def aRH (p q:aB×aB):Bool:=p.1.eqv q.1&&p.2.eqv q.2
mutual
def dA.eqv:dA→dA→Bool
 | .mk op nm to _ ns n lo hi se v _ ps _ ks,.mk op' nm' to' _ ns' n' lo' hi' se' v' _ ps' _ ks'=>
   op==op'&&nm==nm'&&to==to'&&n==n'&&lo==lo'&&hi==hi'&&se==se'&&v.eqv v'&&decide (ns=ns')&&uL aRH ps ps'&&dA.aPj ks ks'
def dA.aPj:List dA→List dA→Bool
 |[],[]=>true
 |a::r,b::r'=>a.eqv b&&dA.aPj r r'
 |_,_=>false
end
theorem aUO:∀(a b:List dA),dA.aPj a b=uL dA.eqv a b
 |[],[]=>by simp only[dA.aPj,uL]
 |a::r,b::r'=>by simp only[dA.aPj,uL,aUO r r']
 |[],_::_=>by simp only[dA.aPj,uL]
 |_::_,[]=>by simp only[dA.aPj,uL]
theorem dA.aPk (a b:dA):a.eqv b=(a.op==b.op&&a.name==b.name&&a.to==b.to&&a.n==b.n&&a.low==b.low&&a.high==b.high&&a.sep==b.sep&&a.v.eqv b.v&&decide (a.names=b.names)&&uL aRH a.pairs b.pairs&&uL dA.eqv a.kids b.kids):=by
 cases a;cases b;simp only[dA.eqv,dA.op,dA.name,dA.to,dA.n,dA.low,dA.high,dA.sep,dA.v,dA.names,dA.pairs,dA.kids,aUO]
 try rfl
mutual
def dA.norm:dA→dA
 | .mk op nm to _ ns n lo hi se v _ ps _ ks=> .mk op nm to true ns n lo hi se v true ps true (dA.a0g ks)
def dA.a0g:List dA→List dA
 |[]=>[]
 |l::r=>l.norm::dA.a0g r
end
theorem dA.aKf:∀(l:List dA),dA.a0g l=l.map dA.norm
 |[]=>by simp only[dA.a0g,List.map_nil]
 |a::r=>by simp only[dA.a0g,List.map_cons,dA.aKf r]
theorem aSM:∀(ls:List dA),(∀l∈ls,l.norm.mB=l.mB)→dA.lF (ls.map dA.norm)=dA.lF ls
 |[],_=>by simp only[List.map_nil]
 |l::r,h=>by simp only[List.map_cons,dA.lF,h l (by simp),aSM r (fun x hx=>h x (by simp[hx]))]
theorem aRI (l:dA):l.norm.mB=l.mB:=by
 have h:∀k∈l.kids,k.norm.mB=k.mB:=fun k hk=>aRI k
 cases l with
 |mk op nm to nb ns n lo hi se v pb ps kb ks=>
  simp only[dA.norm,dA.mB,dA.aKf]
  rw[aSM ks h]
 termination_by SizeOf.sizeOf l
 decreasing_by exact dA.lD hk
def aOD (a b:Int):Int:=if a<b then -1 else if a>b then 1 else 0
def orI:List Int→Int
 |[]=>0
 |a::r=>if a=0 then orI r else a
def aNr (n:Int):Int:=if n<0 then -1 - (n+9223372036854775808)else n
theorem a5c {a b:Int}:aOD a b=0↔a=b:=by
 unfold aOD
 split
 ·omega
 ·split<;>omega
theorem a6I {a b:Int} (ha:aCj a) (hb:aCj b):aNr a=aNr b↔a=b:=by
 obtain ⟨_,_⟩:=ha
 obtain ⟨_,_⟩:=hb
 unfold aNr
 split<;>split<;>omega
theorem aI0:∀{a b:Bytes},jF a b=0↔a=b
 |[],[]=>by simp[jF]
 |[],_::_=>by simp[jF]
 |_::_,[]=>by simp[jF]
 |a::x,b::y=>by
  simp only[jF,List.cons.injEq]
  split
  ·rename_i h
   constructor
   ·intro h';simp at h'
   ·rintro ⟨rfl,_⟩;exact absurd h (UInt8.lt_irrefl _)
  ·split
   ·rename_i h
    constructor
    ·intro h';simp at h'
    ·rintro ⟨rfl,_⟩;exact absurd h (UInt8.lt_irrefl _)
   ·rename_i h1 h2
    have:a=b:=UInt8.le_antisymm (UInt8.not_lt.1 h2) (UInt8.not_lt.1 h1)
    rw[aI0]
    simp[this]
theorem a9Q {n:Int} (h:aCj n) (hn:n<0):bitsOf .and .i64 n 9223372036854775807=n+9223372036854775808:=by
 obtain ⟨h1,h2⟩:=h
 have e:((BitVec.ofInt 64 n)&&&(BitVec.ofInt 64 9223372036854775807)).toNat=(n+9223372036854775808).toNat:=by
  rw[BitVec.toNat_and,BitVec.toNat_ofInt,BitVec.toNat_ofInt]
  have e2:((9223372036854775807:Int)%((2^64:Nat):Int)).toNat=2^63 - 1:=by decide
  rw[e2,Nat.and_two_pow_sub_one_eq_mod]
  omega
 show IntKind.wrap .i64 (((BitVec.ofInt 64 n)&&&(BitVec.ofInt 64 9223372036854775807)).toNat:Int)=_
 rw[e,show (((n+9223372036854775808).toNat:Nat):Int)=n+9223372036854775808 by omega]
 exact wrap_i64 ⟨by omega,by omega⟩
mutual
def aB.cmp:aB→aB→Int
 | .mk k n s _ fs,.mk k' n' s' _ fs'=>
   let c:=orI [aOD k k',aOD (if k=3 then aNr n else n) (if k=3 then aNr n' else n'),jF s s']
   if c=0 then aB.a2v fs fs' else c
def aB.a2v:List (Bytes×aB)→List (Bytes×aB)→Int
 |[],[]=>0
 |[],_::_=> -1
 |_::_,[]=>1
 |(a,v)::r,(b,w)::r'=>let c:=orI [jF a b,v.cmp w];if c=0 then aB.a2v r r' else c
end
def aBd (p q:Bytes×aB):Int:=orI [jF p.1 q.1,p.2.cmp q.2]
def aLj {α:Type} (f:α→α→Int):List α→List α→Int
 |[],[]=>0
 |[],_::_=> -1
 |_::_,[]=>1
 |a::r,b::s=>if f a b=0 then aLj f r s else f a b
theorem a0h:∀(a b:List (Bytes×aB)),aB.a2v a b=aLj aBd a b
 |[],[]=>by simp only[aB.a2v,aLj]
 |(a,v)::r,(b,w)::r'=>by simp only[aB.a2v,aLj,aBd,a0h r r'];rfl
 |[],_::_=>by simp only[aB.a2v,aLj]
 |_::_,[]=>by simp only[aB.a2v,aLj]
theorem aB.cmp_eq (v w:aB):v.cmp w=if orI [aOD v.k w.k,aOD (if v.k=3 then aNr v.n else v.n) (if v.k=3 then aNr w.n else w.n),jF v.s w.s]=0 then aLj aBd v.fs w.fs else
 orI [aOD v.k w.k,aOD (if v.k=3 then aNr v.n else v.n) (if v.k=3 then aNr w.n else w.n),jF v.s w.s]:=by
 cases v;cases w;simp only[aB.cmp,aB.k,aB.n,aB.s,aB.fs,a0h];rfl
theorem aUP:∀{l:List Int},orI l=0↔∀a∈l,a=0
 |[]=>by simp[orI]
 |a::r=>by
  simp only[orI,List.mem_cons,forall_eq_or_imp]
  split
  ·rename_i h;rw[aUP];simp[h]
  ·rename_i h;simp[h]
theorem aXt {α:Type} {f:α→α→Int} {g:α→α→Bool}:∀{l r:List α},(∀a∈l,∀b∈r,f a b=0↔g a b=true)→(aLj f l r=0↔uL g l r=true)
 |[],[],_=>by simp[aLj,uL]
 |a::l,b::r,h=>by
  have h1:=h a (by simp) b (by simp)
  have h2:=aXt (l:=l) (r:=r) (fun x hx y hy=>h x (by simp[hx]) y (by simp[hy]))
  simp only[aLj,uL,Bool.and_eq_true]
  split
  ·rename_i e;rw[h2];simp[h1.1 e]
  ·rename_i e
   constructor
   ·intro e';exact absurd e' e
   ·rintro ⟨e',_⟩;exact absurd (h1.2 e') e
 |[],_::_,_=>by simp[aLj,uL]
 |_::_,[],_=>by simp[aLj,uL]
theorem aB.a0i (v w:aB) (hv:v.wf) (hw:w.wf):v.cmp w=0↔v.eqv w=true:=by
 have hl:aLj aBd v.fs w.fs=0↔uL aNq v.fs w.fs=true:=aXt fun p hp q hq=>by
  have:=aB.lD hp
  have ih:=aB.a0i p.2 q.2 (aB.aYJ hv hp) (aB.aYJ hw hq)
  simp only[aBd,aNq,aUP,List.mem_cons,List.not_mem_nil,or_false,forall_eq_or_imp,forall_eq,ih,aI0,Bool.and_eq_true,beq_iff_eq]
 have hk:=aB.aWk hv
 have hn:=aB.aWk hw
 have key:orI [aOD v.k w.k,aOD (if v.k=3 then aNr v.n else v.n) (if v.k=3 then aNr w.n else w.n),jF v.s w.s]=0↔v.k=w.k∧v.n=w.n∧v.s=w.s:=by
  simp only[aUP,List.mem_cons,List.not_mem_nil,or_false,forall_eq_or_imp,forall_eq,a5c,aI0]
  by_cases k3:v.k=3
  ·simp only[k3,if_true,a6I hk hn]
  ·simp only[k3,if_false]
 rw[v.cmp_eq,v.aPk]
 simp only[Bool.and_eq_true,beq_iff_eq]
 by_cases e:orI [aOD v.k w.k,aOD (if v.k=3 then aNr v.n else v.n) (if v.k=3 then aNr w.n else w.n),jF v.s w.s]=0
 ·rw[if_pos e,hl]
  obtain ⟨e1,e2,e3⟩:=key.1 e
  simp[e1,e2,e3]
 ·rw[if_neg e]
  constructor
  ·intro e';exact absurd e' e
  ·rintro ⟨e1,e2,e3,_⟩
   exact absurd (key.2 ⟨e1,e2,e3⟩) e
 termination_by SizeOf.sizeOf v
def aRJ {α:Type} (f:α→α→Int):List α→List α→Int
 |[],_=>0
 |_::_,[]=>1
 |a::r,b::s=>if f a b=0 then aRJ f r s else f a b
theorem aXu {α:Type} {f:α→α→Int}:∀(l r:List α),aLj f l r=if aRJ f l r=0 then (if l.length<r.length then -1 else 0)else aRJ f l r
 |[],[]=>by simp[aLj,aRJ]
 |a::l,b::r=>by
  simp only[aLj,aRJ,aXu l r,List.length_cons,Nat.add_lt_add_iff_right]
  split
  ·rfl
  ·rename_i h;simp[h]
 |[],_::_=>by simp[aLj,aRJ]
 |_::_,[]=>by simp[aLj,aRJ]
end Go.Ev
