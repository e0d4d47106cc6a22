/-
  Readings of plain data: what fits a type; bulk.
-/
import Derived.Test.YtgiibefjiloafaaGreatDoorEvZa
set_option linter.all false
set_option maxRecDepth 100000
namespace Go.Ev
variable {H:Type} {enc:TypeId×Value→H} {P:Program} {w:World}
def fitD (P:Program):Nat→TypeId→DataW H→Prop
 |0,_,_=>False
 |n+1,t,d=>match P.underlying t,d with
  |some .bool, .lit (.bool _)=>True
  |some (.int k), .lit (.int k' m)=>k'=k∧(Lit.int k m).wf=true
  |some .string, .lit (.string s)=>True
  |some (.slice _), .nil=>True
  |some (.slice e), .slice es _=>∀x∈es,fitD P n e x
  |some (.struct fs), .agg ds=>ds.length=fs.toList.length∧∀(i:Nat) (f:Field) (d:DataW H),fs.toList[i]? =some f→ds[i]? =some d→fitD P n f.type d
  |some (.array m e), .agg ds=>ds.length=m∧∀d∈ds,fitD P n e d
  |_,_=>False
theorem trod_fit {base:Nat} {sp:Nat→Bool} {held:Bool} {ts:List TypeId} (hp:plainT P ts=true):
 ∀(fuel:Nat) (t:TypeId) (cs:List Value) (x:DataW H×List MemPlace),t∈ts→DataW.trod enc P w base sp held fuel t cs=some x→fitD P fuel t x.1:=by
 intro fuel
 induction fuel with
 |zero=>intro t cs x _ h;simp[DataW.trod]at h
 |succ fuel ih=>
  intro t cs x ht h
  have hpt:=List.all_eq_true.1 hp t ht
  simp only[Bool.and_eq_true]at hpt
  have hpt:=hpt.2
  unfold DataW.trod at h
  simp only[fitD]
  cases hu:P.underlying t with
  |none=>simp[hu]at hpt
  |some d=>
   cases d<;>simp only[hu]at hpt h<;>try (simp at hpt;done)
   case bool=>
    split at h<;>simp_all
    obtain ⟨rfl⟩:=h
    trivial
   case int k=>
    split at h<;>simp_all
    obtain ⟨⟨rfl,hw⟩,rfl⟩:=h
    exact ⟨rfl,hw⟩
   case string=>
    split at h<;>simp_all
    obtain ⟨_,rfl⟩:=h
    trivial
   case slice e=>
    simp only[Bool.and_eq_true,List.contains_iff_mem]at hpt
    split at h
    case h_7=>
     simp only[Option.some.injEq]at h
     subst h
     trivial
    case h_8=>
     rename_i e' a len cap heq
     cases heq
     split at h
     ·simp only[Option.map_eq_some_iff,Option.bind_eq_some_iff]at h
      obtain ⟨elems,he,rest,_,rfl⟩:=h
      simp only[List.mem_map]
      rintro y ⟨z,hz,rfl⟩
      obtain ⟨i,hi,hz'⟩:=List.mem_iff_getElem.1 hz
      have hlen:elems.length=len:=by simpa using mapM_some_length he
      have:=mapM_some_get he i i (by simp[show i<len by omega])
      rw[List.getElem?_eq_getElem hi,hz',Option.bind_eq_some_iff]at this
      obtain ⟨cs',_,h2⟩:=this
      exact ih _ _ _ hpt.1 h2
     ·simp at h
    all_goals first |(rename_i heq _;cases heq;done)|(rename_i heq;cases heq;done)|(simp at h;done)
   case struct fs=>
    have h':(if cs.length=P.cellsOf t then (fs.toList.mapM fun f=>DataW.trod enc P w base sp held fuel f.type ((cs.drop f.offset).take (P.cellsOf f.type))).map fun xs=>(DataW.agg (xs.map (·.1)),xs.flatMap (·.2))else none)=some x:=by
     rw[←h]
    split at h'
    ·simp only[Option.map_eq_some_iff]at h'
     obtain ⟨xs,hm,rfl⟩:=h'
     refine ⟨by simpa using mapM_some_length hm,fun i f d hf hd=> ?_⟩
     have h1:=mapM_some_get hm i f hf
     simp only[List.getElem?_map,Option.map_eq_some_iff]at hd
     obtain ⟨y,hy,rfl⟩:=hd
     rw[hy]at h1
     exact ih _ _ _ (by
      have:=List.all_eq_true.1 hpt f (List.mem_of_getElem? hf)
      simpa using this) h1
    ·simp at h'
   case array m e=>
    have h':(if cs.length=P.cellsOf t then ((List.range m).mapM fun i=>DataW.trod enc P w base sp held fuel e ((cs.drop (i*P.cellsOf e)).take (P.cellsOf e))).map fun xs=>(DataW.agg (xs.map (·.1)),xs.flatMap (·.2))else none)=some x:=by
     rw[←h]
    split at h'
    ·simp only[Option.map_eq_some_iff]at h'
     obtain ⟨xs,hm,rfl⟩:=h'
     have hlen:xs.length=m:=by simpa using mapM_some_length hm
     refine ⟨by simpa using hlen,fun d hd=> ?_⟩
     simp only[List.mem_map]at hd
     obtain ⟨z,hz,rfl⟩:=hd
     obtain ⟨i,hi,hz'⟩:=List.mem_iff_getElem.1 hz
     have:=mapM_some_get hm i i (by simp[show i<m by omega])
     rw[List.getElem?_eq_getElem hi,hz']at this
     exact ih _ _ _ (by simpa using hpt) this
    ·simp at h'
theorem trodAll_fit {base:Nat} {sp:Nat→Bool} {held:Bool} {ts:List TypeId} (hp:plainT P ts=true):
 ∀{us:List TypeId} {vs:List Value} {ds:List (DataW H)} {p:List MemPlace},(∀t∈us,t∈ts)→DataW.TrodAll enc P w base sp held us vs ds p→
  ds.length=us.length∧∀(i:Nat) t d,us[i]? =some t→ds[i]? =some d→∃n,fitD P n t d
 |[],[],[],p,_,_=>⟨rfl,fun i t d h=>by simp at h⟩
 |t::us,v::vs,d::ds,p,ht,⟨p1,q1,⟨n,h1⟩,h2,_⟩=>by
  obtain ⟨a,b⟩:=trodAll_fit hp (fun t' h=>ht t' (by simp[h])) h2
  refine ⟨by simp[a],fun i t' d' e1 e2=> ?_⟩
  cases i with
  |zero=>
   simp at e1 e2
   subst e1;subst e2
   exact ⟨n,trod_fit hp n _ _ _ (ht t (by simp)) h1⟩
  |succ i=>exact b i t' d' (by simpa using e1) (by simpa using e2)
 |[],_::_,_,_,_,h=>by simp[DataW.TrodAll]at h
 |[],[],_::_,_,_,h=>by simp[DataW.TrodAll]at h
 |_::_,[],_,_,_,h=>by simp[DataW.TrodAll]at h
 |_::_,_::_,[],_,_,h=>by simp[DataW.TrodAll]at h
mutual
def bulkD:DataW H→Nat
 | .lit (.string bytes)=>bytes.length+1
 | .slice elems _=>bulksD elems+1
 | .agg parts=>bulksD parts+1
 |_=>1
def bulksD:List (DataW H)→Nat
 |[]=>0
 |d::r=>bulkD d+bulksD r
end
end Go.Ev
namespace Go.Ev
abbrev Bytes:=List UInt8
section simps
@[simp] theorem at_zero (c:C) (r:Row):at_ (c::r) 0=c:=rfl
@[simp] theorem at_succ (c:C) (r:Row) (i:Nat):at_ (c::r) (i+1)=at_ r i:=rfl
@[simp] theorem at_1 (a b:C) (r:Row):at_ (a::b::r) 1=b:=rfl
@[simp] theorem rowsAt_zero (c:Row) (r:List Row):rowsAt (c::r) 0=c:=rfl
@[simp] theorem rowsAt_succ (c:Row) (r:List Row) (i:Nat):rowsAt (c::r) (i+1)=rowsAt r i:=rfl
@[simp] theorem toI_int (n:Int):(C.int n).toI=n:=rfl
@[simp] theorem toB_bool (b:Bool):(C.bool b).toB=b:=rfl
@[simp] theorem toS_str (s:Bytes):(C.str s).toS=s:=rfl
@[simp] theorem dpRow_dp (r:Row):(C.dp r).dpRow=r:=rfl
@[simp] theorem isDp_dp (r:Row):(C.dp r).isDp=true:=rfl
@[simp] theorem rows_sl (r:List Row):(C.sl r).rows=r:=rfl
@[simp] theorem rows_nils:C.nils.rows=[]:=rfl
@[simp] theorem hd_r (r:Row) (x:List PV):hd (.r r::x)=r:=rfl
end simps
def slC:Bool→List Row→C
 |true,[]=> .nils
 |_,rows=> .sl rows
@[simp] theorem slC_rows (b:Bool) (rows:List Row):(slC b rows).rows=rows:=by
  cases b<;>cases rows<;>rfl
theorem slC_false (rows:List Row):slC false rows= .sl rows:=by cases rows<;>rfl
theorem rowsAt_map {α:Type} (f:α→Row) (l:List α) (i:Nat) (h:i<l.length):rowsAt (l.map f) i=f l[i]:=by
 simp[rowsAt,List.getD_eq_getElem?_getD,h]
def inI64 (n:Int):Prop:= -9223372036854775808≤n∧n≤9223372036854775807
theorem wrap_i64 {n:Int} (h:inI64 n):IntKind.wrap .i64 n=n:=by
 obtain ⟨h1,h2⟩:=h
 simp[IntKind.wrap,IntKind.signed,IntKind.bits]
 omega
theorem inI64_of_wf {n:Int} (h:(Lit.int .i64 n).wf=true):inI64 n:=by
 simpa[Lit.wf,IntKind.min,IntKind.max,IntKind.signed,IntKind.bits,inI64]using h
inductive Val where |mk (k n:Int) (s:Bytes) (nil:Bool) (fs:List (Bytes×Val))
def Val.k:Val→Int | .mk k _ _ _ _=>k
def Val.n:Val→Int | .mk _ n _ _ _=>n
def Val.s:Val→Bytes | .mk _ _ s _ _=>s
def Val.nil:Val→Bool | .mk _ _ _ b _=>b
def Val.fs:Val→List (Bytes×Val)| .mk _ _ _ _ fs=>fs
mutual
def Val.fc:Val→C
 | .mk _ _ _ b fs=>slC b (Val.rowsOf fs)
def Val.rowsOf:List (Bytes×Val)→List Row
 |[]=>[]
 |(nm,v)::r=>[.str nm, .int v.k, .int v.n, .str v.s,v.fc]::Val.rowsOf r
end
def Val.row (v:Val):Row:=[.int v.k, .int v.n, .str v.s,v.fc]
def fldRow (p:Bytes×Val):Row:= .str p.1::p.2.row
theorem Val.rowsOf_map:∀(fs:List (Bytes×Val)),Val.rowsOf fs=fs.map fldRow
 |[]=>by simp only[Val.rowsOf,List.map_nil]
 |(nm,v)::r=>by simp only[Val.rowsOf,List.map_cons,Val.rowsOf_map r,fldRow,Val.row]
theorem Val.fc_eq (v:Val):v.fc=slC v.nil (v.fs.map fldRow):=by
 cases v;simp only[Val.fc,Val.nil,Val.fs,Val.rowsOf_map]
@[simp] theorem Val.fc_rows (v:Val):v.fc.rows=v.fs.map fldRow:=by rw[v.fc_eq,slC_rows]
theorem Val.size_lt {v:Val} {p:Bytes×Val} (h:p∈v.fs):SizeOf.sizeOf p.2<SizeOf.sizeOf v:=by
 cases v with
 |mk k n s b fs=>
  have h1:=List.sizeOf_lt_of_mem (show p∈fs from h)
  have h2:SizeOf.sizeOf p.2<SizeOf.sizeOf p:=by cases p;simp;omega
  simp only[Val.mk.sizeOf_spec]
  omega
mutual
def Val.wf:Val→Prop
 | .mk k n _ _ fs=>inI64 k∧inI64 n∧Val.wfs fs
def Val.wfs:List (Bytes×Val)→Prop
 |[]=>True
 |(_,v)::r=>v.wf∧Val.wfs r
end
mutual
def Val.bulk:Val→Nat
 | .mk _ _ s _ fs=>s.length+Val.bulks fs+1
def Val.bulks:List (Bytes×Val)→Nat
 |[]=>0
 |(nm,v)::r=>nm.length+v.bulk+1+Val.bulks r
end
theorem Val.wfs_mem:∀{fs:List (Bytes×Val)} {p:Bytes×Val},Val.wfs fs→p∈fs→p.2.wf
 |(nm,v)::r,p,h,hp=>by
  simp only[Val.wfs]at h
  rcases List.mem_cons.1 hp with rfl |hp
  ·exact h.1
  ·exact Val.wfs_mem h.2 hp
theorem Val.bulks_mem:∀{fs:List (Bytes×Val)} {p:Bytes×Val},p∈fs→p.1.length+p.2.bulk+1≤Val.bulks fs
 |(nm,v)::r,p,hp=>by
  simp only[Val.bulks]
  rcases List.mem_cons.1 hp with rfl |hp
  ·simp
  ·have:=Val.bulks_mem hp;omega
theorem Val.bulks_len:∀(fs:List (Bytes×Val)),fs.length≤Val.bulks fs
 |[]=>by simp[Val.bulks]
 |(nm,v)::r=>by have:=Val.bulks_len r;simp only[Val.bulks,List.length_cons];omega
theorem Val.bulk_eq (v:Val):v.bulk=v.s.length+Val.bulks v.fs+1:=by cases v;simp only[Val.bulk,Val.s,Val.fs]
theorem Val.bulk_len (v:Val):v.fs.length≤v.bulk:=by have:=Val.bulks_len v.fs;rw[v.bulk_eq];omega
theorem Val.bulk_mem {v:Val} {p:Bytes×Val} (hp:p∈v.fs):p.1.length+p.2.bulk<v.bulk:=by have:=Val.bulks_mem hp;rw[v.bulk_eq];omega
inductive Lns where |mk (op:Int) (name to:Bytes) (nb:Bool) (names:List Bytes) (n low high sep:Int) (v:Val) (pb:Bool) (pairs:List (Val×Val)) (kb:Bool) (kids:List Lns)
namespace Lns
def op:Lns→Int | .mk x _ _ _ _ _ _ _ _ _ _ _ _ _=>x
def name:Lns→Bytes | .mk _ x _ _ _ _ _ _ _ _ _ _ _ _=>x
def to:Lns→Bytes | .mk _ _ x _ _ _ _ _ _ _ _ _ _ _=>x
def nb:Lns→Bool | .mk _ _ _ x _ _ _ _ _ _ _ _ _ _=>x
def names:Lns→List Bytes | .mk _ _ _ _ x _ _ _ _ _ _ _ _ _=>x
def n:Lns→Int | .mk _ _ _ _ _ x _ _ _ _ _ _ _ _=>x
def low:Lns→Int | .mk _ _ _ _ _ _ x _ _ _ _ _ _ _=>x
def high:Lns→Int | .mk _ _ _ _ _ _ _ x _ _ _ _ _ _=>x
def sep:Lns→Int | .mk _ _ _ _ _ _ _ _ x _ _ _ _ _=>x
def v:Lns→Val | .mk _ _ _ _ _ _ _ _ _ x _ _ _ _=>x
def pb:Lns→Bool | .mk _ _ _ _ _ _ _ _ _ _ x _ _ _=>x
def pairs:Lns→List (Val×Val)| .mk _ _ _ _ _ _ _ _ _ _ _ x _ _=>x
def kb:Lns→Bool | .mk _ _ _ _ _ _ _ _ _ _ _ _ x _=>x
def kids:Lns→List Lns | .mk _ _ _ _ _ _ _ _ _ _ _ _ _ x=>x
end Lns
def pairRow (p:Val×Val):Row:=[.int p.1.k, .int p.1.n, .str p.1.s,p.1.fc, .int p.2.k, .int p.2.n, .str p.2.s,p.2.fc]
def strRow (s:Bytes):Row:=[.str s]
mutual
def Lns.kc:Lns→C
 | .mk _ _ _ _ _ _ _ _ _ _ _ _ kb kids=>slC kb (Lns.rowsOf kids)
def Lns.rowsOf:List Lns→List Row
 |[]=>[]
 |l::r=>[.int l.op, .str l.name, .str l.to,slC l.nb (l.names.map strRow), .int l.n, .int l.low, .int l.high, .int l.sep, .int l.v.k, .int l.v.n, .str l.v.s,l.v.fc,slC l.pb (l.pairs.map pairRow),l.kc]::Lns.rowsOf r
end
def Lns.row (l:Lns):Row:=[.int l.op, .str l.name, .str l.to,slC l.nb (l.names.map strRow), .int l.n, .int l.low, .int l.high, .int l.sep, .int l.v.k, .int l.v.n, .str l.v.s,l.v.fc,slC l.pb (l.pairs.map pairRow),l.kc]
theorem Lns.rowsOf_map:∀(ls:List Lns),Lns.rowsOf ls=ls.map Lns.row
 |[]=>by simp only[Lns.rowsOf,List.map_nil]
 |l::r=>by simp only[Lns.rowsOf,List.map_cons,Lns.rowsOf_map r,Lns.row]
theorem Lns.kc_eq (l:Lns):l.kc=slC l.kb (l.kids.map Lns.row):=by
 cases l;simp only[Lns.kc,Lns.kb,Lns.kids,Lns.rowsOf_map]
@[simp] theorem Lns.kc_rows (l:Lns):l.kc.rows=l.kids.map Lns.row:=by rw[l.kc_eq,slC_rows]
theorem Lns.size_lt {l k:Lns} (h:k∈l.kids):SizeOf.sizeOf k<SizeOf.sizeOf l:=by
 cases l with
 |mk=>
  have h1:=List.sizeOf_lt_of_mem (show k∈_ from h)
  simp only[Lns.kids]at h1
  simp only[Lns.mk.sizeOf_spec]
  omega
mutual
def Lns.wf:Lns→Prop
 | .mk op _ _ _ _ n low high sep v _ pairs _ kids=>inI64 op∧inI64 n∧inI64 low∧inI64 high∧(0≤sep∧sep≤255)∧v.wf∧(∀p∈pairs,p.1.wf∧p.2.wf)∧Lns.wfs kids
def Lns.wfs:List Lns→Prop
 |[]=>True
 |l::r=>l.wf∧Lns.wfs r
end
def strsBulk:List Bytes→Nat
 |[]=>0
 |s::r=>s.length+1+strsBulk r
def pairsBulk:List (Val×Val)→Nat
 |[]=>0
 |p::r=>p.1.bulk+p.2.bulk+1+pairsBulk r
mutual
def Lns.bulk:Lns→Nat
 | .mk _ name to _ names _ _ _ _ v _ pairs _ kids=>name.length+to.length+strsBulk names+v.bulk+pairsBulk pairs+Lns.bulks kids+1
def Lns.bulks:List Lns→Nat
 |[]=>0
 |l::r=>l.bulk+Lns.bulks r
end
theorem Lns.bulk_eq (l:Lns):l.bulk=l.name.length+l.to.length+strsBulk l.names+l.v.bulk+pairsBulk l.pairs+Lns.bulks l.kids+1:=by
 cases l;simp only[Lns.bulk,Lns.name,Lns.to,Lns.names,Lns.v,Lns.pairs,Lns.kids]
theorem Lns.bulk_pos (l:Lns):1≤l.bulk:=by rw[l.bulk_eq];omega
theorem Lns.bulks_len:∀(l:List Lns),l.length≤Lns.bulks l
 |[]=>by simp[Lns.bulks]
 |s::r=>by have:=Lns.bulks_len r;have:=s.bulk_pos;simp only[Lns.bulks,List.length_cons];omega
theorem Lns.bulks_mem:∀{l:List Lns} {k:Lns},k∈l→k.bulk≤Lns.bulks l
 |x::r,k,h=>by
  simp only[Lns.bulks]
  rcases List.mem_cons.1 h with rfl |h
  ·omega
  ·have:=Lns.bulks_mem h;omega
theorem Lns.wfs_mem:∀{ls:List Lns} {k:Lns},Lns.wfs ls→k∈ls→k.wf
 |l::r,k,h,hk=>by
  simp only[Lns.wfs]at h
  rcases List.mem_cons.1 hk with rfl |hk
  ·exact h.1
  ·exact Lns.wfs_mem h.2 hk
variable {H:Type} {P:Program}
def isStruct (P:Program) (t:TypeId) (us:List TypeId):Bool:=match P.underlying t with
 |some (.struct fs)=>decide (fs.toList.map (·.type)=us)
 |_=>false
theorem fit_struct {n:Nat} {t:TypeId} {us:List TypeId} {d:DataW H} (ht:isStruct P t us=true) (h:fitD P (n+1) t d):
 ∃ds,d= .agg ds∧ds.length=us.length∧∀(i:Nat) u x,us[i]? =some u→ds[i]? =some x→fitD P n u x:=by
 unfold isStruct at ht
 simp only[fitD]at h
 cases hu:P.underlying t with
 |none=>simp[hu]at ht
 |some dd=>
  cases dd<;>simp only[hu]at ht h<;>try (simp at ht;done)
  rename_i fs
  have ht:=of_decide_eq_true ht
  cases d<;>(try simp only at h)<;>try (exact h.elim)
  rename_i ds
  subst ht
  refine ⟨ds,rfl,by simp[h.1],fun i u x hi hx=> ?_⟩
  simp only[List.getElem?_map,Option.map_eq_some_iff]at hi
  obtain ⟨f,hf,rfl⟩:=hi
  exact h.2 i f x hf hx
theorem fit_int {n:Nat} {t:TypeId} {k:IntKind} {d:DataW H} (ht:P.underlying t=some (.int k)) (h:fitD P n t d):∃m,d= .lit (.int k m)∧(Lit.int k m).wf=true:=by
 cases n with
 |zero=>simp[fitD]at h
 |succ n=>
  simp only[fitD,ht]at h
  cases d<;>(try simp only at h)<;>try (exact h.elim)
  rename_i l
  cases l<;>(try simp only at h)<;>try (exact h.elim)
  obtain ⟨rfl,hw⟩:=h
  exact ⟨_,rfl,hw⟩
theorem fit_str {n:Nat} {t:TypeId} {d:DataW H} (ht:P.underlying t=some .string) (h:fitD P n t d):∃s,d= .lit (.string s):=by
 cases n with
 |zero=>simp[fitD]at h
 |succ n=>
  simp only[fitD,ht]at h
  cases d<;>(try simp only at h)<;>try (exact h.elim)
  rename_i l
  cases l<;>(try simp only at h)<;>try (exact h.elim)
  exact ⟨_,rfl⟩
theorem fit_slice {n:Nat} {t e:TypeId} {d:DataW H} (ht:P.underlying t=some (.slice e)) (h:fitD P n t d):∃(b:Bool) (es:List (DataW H)),(∀x∈es,fitD P (n - 1) e x)∧rowD d=[slC b (es.map rowD)]∧bulkD d=bulksD es+1:=by
 cases n with
 |zero=>simp[fitD]at h
 |succ n=>
  simp only[fitD,ht]at h
  cases d<;>(try simp only at h)<;>try (exact h.elim)
  ·exact ⟨true,[],by simp,rfl,by simp only[bulkD,bulksD]⟩
  ·rename_i es sp
   exact ⟨false,es,h,by simp only[rowD,rowsD_map,slC_false],by simp only[bulkD]⟩
theorem fit_list {α:Type} {n:Nat} {e:TypeId} (row:α→Row) (good:α→Prop) (bulk:α→Nat) (bulks:List α→Nat) (c:Nat) (h0:bulks []=0) (h1:∀a r,bulks (a::r)≤bulk a+c+bulks r)
 (one:∀d:DataW H,fitD P n e d→∃a,rowD d=row a∧good a∧bulk a+c≤bulkD d):
 ∀(es:List (DataW H)),(∀x∈es,fitD P n e x)→∃as:List α,es.map rowD=as.map row∧(∀a∈as,good a)∧bulks as≤bulksD es
 |[],_=>⟨[],rfl,by simp,by rw[h0];omega⟩
 |d::r,h=>by
  obtain ⟨a,e1,g1,b1⟩:=one d (h d (by simp))
  obtain ⟨as,e2,g2,b2⟩:=fit_list row good bulk bulks c h0 h1 one r (fun x hx=>h x (by simp[hx]))
  refine ⟨a::as,by simp[e1,e2], ?_, ?_⟩
  ·intro x hx
   rcases List.mem_cons.1 hx with rfl |hx
   ·exact g1
   ·exact g2 x hx
  ·have:=h1 a as
   simp only[bulksD]
   omega
theorem wfs_of:∀{fs:List (Bytes×Val)},(∀p∈fs,p.2.wf)→Val.wfs fs
 |[],_=>by simp only[Val.wfs]
 |(nm,v)::r,h=>by simp only[Val.wfs];exact ⟨h (nm,v) (by simp),wfs_of (fun p hp=>h p (by simp[hp]))⟩
structure ApiT (P:Program) (tI tU tS tV tFs tF:TypeId):Prop where
 int:P.underlying tI=some (.int .i64)
 u8:P.underlying tU=some (.int .u8)
 str:P.underlying tS=some .string
 val:isStruct P tV [tI,tI,tS,tFs]=true
 flds:P.underlying tFs=some (.slice tF)
 fld:isStruct P tF [tS,tV]=true
theorem list4 {α:Type} {l:List α} (h:l.length=4):∃a b c d,l=[a,b,c,d]:=by
 match l,h with
 |[a,b,c,d],_=>exact ⟨a,b,c,d,rfl⟩
theorem list2 {α:Type} {l:List α} (h:l.length=2):∃a b,l=[a,b]:=by
 match l,h with
 |[a,b],_=>exact ⟨a,b,rfl⟩
theorem fit_val {tI tU tS tV tFs tF:TypeId} (A:ApiT P tI tU tS tV tFs tF):∀(n:Nat) (d:DataW H),fitD P n tV d→∃v:Val,rowD d=v.row∧v.wf∧v.bulk≤bulkD d:=by
 intro n
 induction n using Nat.strongRecOn with
 |ind n ih=>
  intro d h
  cases n with
  |zero=>simp[fitD]at h
  |succ n=>
   obtain ⟨ds,rfl,hl,hf⟩:=fit_struct A.val h
   obtain ⟨d0,d1,d2,d3,rfl⟩:=list4 hl
   obtain ⟨k,rfl,wk⟩:=fit_int A.int (hf 0 _ _ rfl rfl)
   obtain ⟨m,rfl,wm⟩:=fit_int A.int (hf 1 _ _ rfl rfl)
   obtain ⟨s,rfl⟩:=fit_str A.str (hf 2 _ _ rfl rfl)
   obtain ⟨b,es,hes,hrow,hbulk⟩:=fit_slice A.flds (hf 3 _ _ rfl rfl)
   obtain ⟨fs,e1,e2,e3⟩:=fit_list (α:=Bytes×Val) fldRow (fun p=>p.2.wf) (fun p=>p.1.length+p.2.bulk) Val.bulks 1 (by simp only[Val.bulks]) (fun p r=>by obtain ⟨nm,v⟩:=p;simp only[Val.bulks];omega) (by
    intro d hd
    cases hn:n - 1 with
    |zero=>rw[hn]at hd;simp[fitD]at hd
    |succ q=>
     rw[hn]at hd
     obtain ⟨ds,rfl,hl,hf⟩:=fit_struct A.fld hd
     obtain ⟨d0,d1,rfl⟩:=list2 hl
     obtain ⟨nm,rfl⟩:=fit_str A.str (hf 0 _ _ rfl rfl)
     obtain ⟨v,h1,h2,h3⟩:=ih q (by omega) d1 (hf 1 _ _ rfl rfl)
     refine ⟨(nm,v), ?_,h2, ?_⟩
     ·simp only[rowD,catD,h1,fldRow,List.append_nil,List.singleton_append]
     ·simp only[bulkD,bulksD];omega) es hes
   refine ⟨.mk k m s b fs, ?_, ?_, ?_⟩
   ·simp only[rowD,catD,hrow,Val.row,Val.k,Val.n,Val.s,Val.fc,Val.rowsOf_map,e1,List.append_nil,List.cons_append,List.nil_append]
   ·simp only[Val.wf];exact ⟨inI64_of_wf wk,inI64_of_wf wm,wfs_of e2⟩
   ·simp only[Val.bulk,bulkD,bulksD,hbulk];omega
structure LensT (P:Program) (tI tU tS tV tL tSs tP tPs tLs:TypeId):Prop where
 lens:isStruct P tL [tI,tS,tS,tSs,tI,tI,tI,tU,tV,tPs,tLs]=true
 strs:P.underlying tSs=some (.slice tS)
 pairs:P.underlying tPs=some (.slice tP)
 pair:P.underlying tP=some (.array 2 tV)
 kids:P.underlying tLs=some (.slice tL)
end Go.Ev
namespace Go.Ev
@[simp] theorem at_val0 (v:Val):at_ v.row 0= .int v.k:=rfl
@[simp] theorem at_val1 (v:Val):at_ v.row 1= .int v.n:=rfl
@[simp] theorem at_val2 (v:Val):at_ v.row 2= .str v.s:=rfl
@[simp] theorem at_val3 (v:Val):at_ v.row 3=v.fc:=rfl
@[simp] theorem at_fld0 (p:Bytes×Val):at_ (fldRow p) 0= .str p.1:=rfl
@[simp] theorem at_fld1 (p:Bytes×Val):at_ (fldRow p) 1= .int p.2.k:=rfl
@[simp] theorem at_fld2 (p:Bytes×Val):at_ (fldRow p) 2= .int p.2.n:=rfl
@[simp] theorem at_fld3 (p:Bytes×Val):at_ (fldRow p) 3= .str p.2.s:=rfl
@[simp] theorem at_fld4 (p:Bytes×Val):at_ (fldRow p) 4=p.2.fc:=rfl
@[simp] theorem at_pair0 (p:Val×Val):at_ (pairRow p) 0= .int p.1.k:=rfl
@[simp] theorem at_pair1 (p:Val×Val):at_ (pairRow p) 1= .int p.1.n:=rfl
@[simp] theorem at_pair2 (p:Val×Val):at_ (pairRow p) 2= .str p.1.s:=rfl
@[simp] theorem at_pair3 (p:Val×Val):at_ (pairRow p) 3=p.1.fc:=rfl
@[simp] theorem at_pair4 (p:Val×Val):at_ (pairRow p) 4= .int p.2.k:=rfl
@[simp] theorem at_pair5 (p:Val×Val):at_ (pairRow p) 5= .int p.2.n:=rfl
@[simp] theorem at_pair6 (p:Val×Val):at_ (pairRow p) 6= .str p.2.s:=rfl
@[simp] theorem at_pair7 (p:Val×Val):at_ (pairRow p) 7=p.2.fc:=rfl
@[simp] theorem at_str0 (s:Bytes):at_ (strRow s) 0= .str s:=rfl
@[simp] theorem at_lns0 (l:Lns):at_ l.row 0= .int l.op:=rfl
@[simp] theorem at_lns1 (l:Lns):at_ l.row 1= .str l.name:=rfl
@[simp] theorem at_lns2 (l:Lns):at_ l.row 2= .str l.to:=rfl
@[simp] theorem at_lns3 (l:Lns):at_ l.row 3=slC l.nb (l.names.map strRow):=rfl
@[simp] theorem at_lns4 (l:Lns):at_ l.row 4= .int l.n:=rfl
@[simp] theorem at_lns5 (l:Lns):at_ l.row 5= .int l.low:=rfl
@[simp] theorem at_lns6 (l:Lns):at_ l.row 6= .int l.high:=rfl
@[simp] theorem at_lns7 (l:Lns):at_ l.row 7= .int l.sep:=rfl
@[simp] theorem at_lns8 (l:Lns):at_ l.row 8= .int l.v.k:=rfl
@[simp] theorem at_lns9 (l:Lns):at_ l.row 9= .int l.v.n:=rfl
@[simp] theorem at_lns10 (l:Lns):at_ l.row 10= .str l.v.s:=rfl
@[simp] theorem at_lns11 (l:Lns):at_ l.row 11=l.v.fc:=rfl
@[simp] theorem at_lns12 (l:Lns):at_ l.row 12=slC l.pb (l.pairs.map pairRow):=rfl
@[simp] theorem at_lns13 (l:Lns):at_ l.row 13=l.kc:=rfl
@[simp] theorem val_fold (v:Val):([.int v.k, .int v.n, .str v.s,v.fc]:Row)=v.row:=rfl
@[simp] theorem appC_rows (c:C) (new:List Row):(appC c new).rows=c.rows++new:=by
  unfold appC
  split<;>simp
def all2 {α:Type} (f:α→α→Bool):List α→List α→Bool
 |[],[]=>true
 |a::r,b::s=>f a b&&all2 f r s
 |_,_=>false
mutual
def Val.eqv:Val→Val→Bool
 | .mk k n s _ fs, .mk k' n' s' _ fs'=>k==k'&&(n==n'&&(s==s'&&Val.eqvs fs fs'))
def Val.eqvs:List (Bytes×Val)→List (Bytes×Val)→Bool
 |[],[]=>true
 |(a,v)::r,(b,w)::r'=>a==b&&v.eqv w&&Val.eqvs r r'
 |_,_=>false
end
def fldEq (p q:Bytes×Val):Bool:=p.1==q.1&&p.2.eqv q.2
theorem eqvs_all2:∀(a b:List (Bytes×Val)),Val.eqvs a b=all2 fldEq a b
 |[],[]=>by simp only[Val.eqvs,all2]
 |(a,v)::r,(b,w)::r'=>by simp only[Val.eqvs,all2,fldEq,eqvs_all2 r r']
 |[],_::_=>by simp only[Val.eqvs,all2]
 |_::_,[]=>by simp only[Val.eqvs,all2]
theorem Val.eqv_eq (v w:Val):v.eqv w=(v.k==w.k&&(v.n==w.n&&(v.s==w.s&&all2 fldEq v.fs w.fs))):=by
 cases v;cases w;simp only[Val.eqv,Val.k,Val.n,Val.s,Val.fs,eqvs_all2]
def pairEq (p q:Val×Val):Bool:=p.1.eqv q.1&&p.2.eqv q.2
mutual
def Lns.eqv:Lns→Lns→Bool
 | .mk op nm to _ ns n lo hi se v _ ps _ ks, .mk op' nm' to' _ ns' n' lo' hi' se' v' _ ps' _ ks'=>
   op==op'&&nm==nm'&&to==to'&&n==n'&&lo==lo'&&hi==hi'&&se==se'&&v.eqv v'&&decide (ns=ns')&&all2 pairEq ps ps'&&Lns.eqvs ks ks'
def Lns.eqvs:List Lns→List Lns→Bool
 |[],[]=>true
 |a::r,b::r'=>a.eqv b&&Lns.eqvs r r'
 |_,_=>false
end
theorem leqvs_all2:∀(a b:List Lns),Lns.eqvs a b=all2 Lns.eqv a b
 |[],[]=>by simp only[Lns.eqvs,all2]
 |a::r,b::r'=>by simp only[Lns.eqvs,all2,leqvs_all2 r r']
 |[],_::_=>by simp only[Lns.eqvs,all2]
 |_::_,[]=>by simp only[Lns.eqvs,all2]
theorem Lns.eqv_eq (a b:Lns):a.eqv b=(a.op==b.op&&a.name==b.name&&a.to==b.to&&a.n==b.n&&a.low==b.low&&a.high==b.high&&a.sep==b.sep&&a.v.eqv b.v&&decide (a.names=b.names)&&all2 pairEq a.pairs b.pairs&&all2 Lns.eqv a.kids b.kids):=by
 cases a;cases b;simp only[Lns.eqv,Lns.op,Lns.name,Lns.to,Lns.n,Lns.low,Lns.high,Lns.sep,Lns.v,Lns.names,Lns.pairs,Lns.kids,leqvs_all2]
 try rfl
mutual
def Lns.norm:Lns→Lns
 | .mk op nm to _ ns n lo hi se v _ ps _ ks=> .mk op nm to true ns n lo hi se v true ps true (Lns.norms ks)
def Lns.norms:List Lns→List Lns
 |[]=>[]
 |l::r=>l.norm::Lns.norms r
end
def cmpI (a b:Int):Int:=if a<b then -1 else if a>b then 1 else 0
def orI:List Int→Int
 |[]=>0
 |a::r=>if a=0 then orI r else a
def ordI (n:Int):Int:=if n<0 then -1 - (n+9223372036854775808)else n
mutual
def Val.cmp:Val→Val→Int
 | .mk k n s _ fs, .mk k' n' s' _ fs'=>
   let c:=orI [cmpI k k',cmpI (if k=3 then ordI n else n) (if k=3 then ordI n' else n'),cmpBytes s s']
   if c=0 then Val.cmps fs fs' else c
def Val.cmps:List (Bytes×Val)→List (Bytes×Val)→Int
 |[],[]=>0
 |[],_::_=> -1
 |_::_,[]=>1
 |(a,v)::r,(b,w)::r'=>let c:=orI [cmpBytes a b,v.cmp w];if c=0 then Val.cmps r r' else c
end
def fldCmp (p q:Bytes×Val):Int:=orI [cmpBytes p.1 q.1,p.2.cmp q.2]
def lexI {α:Type} (f:α→α→Int):List α→List α→Int
 |[],[]=>0
 |[],_::_=> -1
 |_::_,[]=>1
 |a::r,b::s=>if f a b=0 then lexI f r s else f a b
def lexL {α:Type} (f:α→α→Int):List α→List α→Int
 |[],_=>0
 |_::_,[]=>1
 |a::r,b::s=>if f a b=0 then lexL f r s else f a b
end Go.Ev
