/-
  A part of the proof: what the functions of the program compute.
-/
import Derived.Test.YtgiibefjiloafaaGreatDoorEvDa
set_option linter.all false
namespace Go.Ev
inductive Typ where |mk (k:Int) (name:Bytes) (low high:Int) (pat:Bytes) (nil:Bool) (ps:List (Bytes×Typ))
def Typ.k:Typ→Int | .mk k _ _ _ _ _ _=>k
def Typ.name:Typ→Bytes | .mk _ s _ _ _ _ _=>s
def Typ.low:Typ→Int | .mk _ _ n _ _ _ _=>n
def Typ.high:Typ→Int | .mk _ _ _ n _ _ _=>n
def Typ.pat:Typ→Bytes | .mk _ _ _ _ s _ _=>s
def Typ.nil:Typ→Bool | .mk _ _ _ _ _ b _=>b
def Typ.ps:Typ→List (Bytes×Typ)| .mk _ _ _ _ _ _ ps=>ps
mutual
def Typ.pc:Typ→C
 | .mk _ _ _ _ _ b ps=>slC b (Typ.rowsOf ps)
def Typ.rowsOf:List (Bytes×Typ)→List Row
 |[]=>[]
 |(nm,t)::r=>[.str nm, .int t.k, .str t.name, .int t.low, .int t.high, .str t.pat,t.pc]::Typ.rowsOf r
end
def Typ.row (t:Typ):Row:=[.int t.k, .str t.name, .int t.low, .int t.high, .str t.pat,t.pc]
def prtRow (p:Bytes×Typ):Row:= .str p.1::p.2.row
theorem Typ.rowsOf_map:∀(ps:List (Bytes×Typ)),Typ.rowsOf ps=ps.map prtRow
 |[]=>by simp only[Typ.rowsOf,List.map_nil]
 |(nm,v)::r=>by simp only[Typ.rowsOf,List.map_cons,Typ.rowsOf_map r,prtRow,Typ.row]
theorem Typ.pc_eq (v:Typ):v.pc=slC v.nil (v.ps.map prtRow):=by
 cases v;simp only[Typ.pc,Typ.nil,Typ.ps,Typ.rowsOf_map]
@[simp] theorem Typ.pc_rows (v:Typ):v.pc.rows=v.ps.map prtRow:=by rw[v.pc_eq,slC_rows]
theorem Typ.size_lt {v:Typ} {p:Bytes×Typ} (h:p∈v.ps):SizeOf.sizeOf p.2<SizeOf.sizeOf v:=by
 cases v with
 |mk k s a b c n ps=>
  have h1:=List.sizeOf_lt_of_mem (show p∈ps from h)
  have h2:SizeOf.sizeOf p.2<SizeOf.sizeOf p:=by cases p;simp;omega
  simp only[Typ.mk.sizeOf_spec]
  omega
mutual
def Typ.bulk:Typ→Nat
 | .mk _ s _ _ p _ ps=>s.length+p.length+Typ.bulks ps+1
def Typ.bulks:List (Bytes×Typ)→Nat
 |[]=>0
 |(nm,v)::r=>nm.length+v.bulk+1+Typ.bulks r
end
theorem Typ.bulks_mem:∀{fs:List (Bytes×Typ)} {p:Bytes×Typ},p∈fs→p.1.length+p.2.bulk+1≤Typ.bulks fs
 |(nm,v)::r,p,hp=>by
  simp only[Typ.bulks]
  rcases List.mem_cons.1 hp with rfl |hp
  ·simp
  ·have:=Typ.bulks_mem hp;omega
theorem Typ.bulks_len:∀(fs:List (Bytes×Typ)),fs.length≤Typ.bulks fs
 |[]=>by simp[Typ.bulks]
 |(nm,v)::r=>by have:=Typ.bulks_len r;simp only[Typ.bulks,List.length_cons];omega
theorem Typ.bulk_eq (v:Typ):v.bulk=v.name.length+v.pat.length+Typ.bulks v.ps+1:=by cases v;simp only[Typ.bulk,Typ.name,Typ.pat,Typ.ps]
theorem Typ.bulk_len (v:Typ):v.ps.length≤v.bulk:=by have:=Typ.bulks_len v.ps;rw[v.bulk_eq];omega
theorem Typ.bulk_mem {v:Typ} {p:Bytes×Typ} (hp:p∈v.ps):p.1.length+p.2.bulk<v.bulk:=by have:=Typ.bulks_mem hp;rw[v.bulk_eq];omega
structure TypeT (P:Program) (tI tS tT tPs tP:TypeId):Prop where
 typ:isStruct P tT [tI,tS,tI,tI,tS,tPs]=true
 parts:P.underlying tPs=some (.slice tP)
 part:isStruct P tP [tS,tT]=true
 int:P.underlying tI=some (.int .i64)
 str:P.underlying tS=some .string
variable {P:Program} {H:Type}
theorem list6 {α:Type}:∀{l:List α},l.length=6→∃a b c d e f,l=[a,b,c,d,e,f]
 |[a,b,c,d,e,f],_=>⟨a,b,c,d,e,f,rfl⟩
theorem fit_typ {tI tS tT tPs tP:TypeId} (A:TypeT P tI tS tT tPs tP):∀(n:Nat) (d:DataW H),fitD P n tT d→∃v:Typ,rowD d=v.row∧v.bulk≤bulkD d:=by
 intro n
 induction n using Nat.strongRecOn with
 |ind n ih=>
  intro d h
  cases n with
  |zero=>simp[fitD]at h
  |succ n=>
   obtain ⟨ds,rfl,hl,hf⟩:=fit_struct A.typ h
   obtain ⟨d0,d1,d2,d3,d4,d5,rfl⟩:=list6 hl
   obtain ⟨k,rfl,wk⟩:=fit_int A.int (hf 0 _ _ rfl rfl)
   obtain ⟨s,rfl⟩:=fit_str A.str (hf 1 _ _ rfl rfl)
   obtain ⟨m,rfl,wm⟩:=fit_int A.int (hf 2 _ _ rfl rfl)
   obtain ⟨m2,rfl,wm2⟩:=fit_int A.int (hf 3 _ _ rfl rfl)
   obtain ⟨p,rfl⟩:=fit_str A.str (hf 4 _ _ rfl rfl)
   obtain ⟨b,es,hes,hrow,hbulk⟩:=fit_slice A.parts (hf 5 _ _ rfl rfl)
   obtain ⟨fs,e1,e2,e3⟩:=fit_list (α:=Bytes×Typ) prtRow (fun p=>True) (fun p=>p.1.length+p.2.bulk) Typ.bulks 1 (by simp only[Typ.bulks]) (fun p r=>by obtain ⟨nm,v⟩:=p;simp only[Typ.bulks];omega) (by
    intro d hd
    cases hn:n - 1 with
    |zero=>rw[hn]at hd;simp[fitD]at hd
    |succ q=>
     rw[hn]at hd
     obtain ⟨ds,rfl,hl,hf⟩:=fit_struct A.part hd
     obtain ⟨d0,d1,rfl⟩:=list2 hl
     obtain ⟨nm,rfl⟩:=fit_str A.str (hf 0 _ _ rfl rfl)
     obtain ⟨v,h1,h3⟩:=ih q (by omega) d1 (hf 1 _ _ rfl rfl)
     refine ⟨(nm,v), ?_,trivial, ?_⟩
     ·simp only[rowD,catD,h1,prtRow,List.append_nil,List.singleton_append]
     ·simp only[bulkD,bulksD];omega) es hes
   refine ⟨.mk k s m m2 p b fs, ?_, ?_⟩
   ·simp only[rowD,catD,hrow,Typ.row,Typ.k,Typ.name,Typ.low,Typ.high,Typ.pat,Typ.pc,Typ.rowsOf_map,e1,List.append_nil,List.cons_append,List.nil_append]
   ·simp only[Typ.bulk,bulkD,bulksD,hbulk];omega
theorem fit_schema {tI tS tT tPs tP tSc tD:TypeId} (A:TypeT P tI tS tT tPs tP) (hs:P.underlying tSc=some (.slice tD)) (hd:isStruct P tD [tS,tT]=true) {n:Nat} {d:DataW H} (h:fitD P n tSc d):
 ∃(b:Bool) (l:List (Bytes×Typ)),rowD d=[slC b (l.map prtRow)]∧Typ.bulks l+1≤bulkD d:=by
 obtain ⟨b,es,hes,hrow,hbulk⟩:=fit_slice hs h
 obtain ⟨fs,e1,e2,e3⟩:=fit_list (α:=Bytes×Typ) prtRow (fun p=>True) (fun p=>p.1.length+p.2.bulk) Typ.bulks 1 (by simp only[Typ.bulks]) (fun p r=>by obtain ⟨nm,v⟩:=p;simp only[Typ.bulks];omega) (by
  intro d hdd
  cases hn:n - 1 with
  |zero=>rw[hn]at hdd;simp[fitD]at hdd
  |succ q=>
   rw[hn]at hdd
   obtain ⟨ds,rfl,hl,hf⟩:=fit_struct hd hdd
   obtain ⟨d0,d1,rfl⟩:=list2 hl
   obtain ⟨nm,rfl⟩:=fit_str A.str (hf 0 _ _ rfl rfl)
   obtain ⟨v,h1,h3⟩:=fit_typ A q d1 (hf 1 _ _ rfl rfl)
   refine ⟨(nm,v), ?_,trivial, ?_⟩
   ·simp only[rowD,catD,h1,prtRow,List.append_nil,List.singleton_append]
   ·simp only[bulkD,bulksD];omega) es hes
 exact ⟨b,fs,by rw[hrow,e1],by omega⟩
end Go.Ev
