/-
  The evaluator in continuation-passing form: what goes on behind an operation is nothing but what goes on with its result.
-/
import Derived.Test.YtgiibefjiloafaaGreatDoorEvMm
import Derived.Test.YtgiibefjiloafaaGreatDoorEvOb
set_option linter.all false
set_option maxRecDepth 100000
namespace Go.Ev
variable {A B:Type} {E:Env} {F:Fr} {S:St}
theorem asI_nat (v:AV) (k:IntKind→Int→Option A) (f:A→Option B):(asI v k).bind f=asI v fun a b=>(k a b).bind f:=by unfold asI;split<;>rfl
theorem asB_nat (v:AV) (k:Bool→Option A) (f:A→Option B):(asB v k).bind f=asB v fun a=>(k a).bind f:=by unfold asB;split<;>rfl
theorem asS_nat (v:AV) (k:List UInt8→Option A) (f:A→Option B):(asS v k).bind f=asS v fun a=>(k a).bind f:=by unfold asS;split<;>rfl
theorem asSl_nat (v:AV) (k:TypeId→C→Option A) (f:A→Option B):(asSl v k).bind f=asSl v fun a b=>(k a b).bind f:=by unfold asSl;split<;>rfl
theorem asD_nat (v:AV) (k:L→Row→Option A) (f:A→Option B):(asD v k).bind f=asD v fun a b=>(k a b).bind f:=by unfold asD;split<;>rfl
theorem check_nat (b:Bool) (k:Option A) (f:A→Option B):(check b k).bind f=check b (k.bind f):=by unfold check;split<;>rfl
theorem ite_nat (c:Prop) [Decidable c] (k:Option A) (f:A→Option B):(if c then k else none).bind f=if c then k.bind f else none:=by split<;>rfl
theorem ite2_nat (c:Prop) [Decidable c] (k k':Option A) (f:A→Option B):(if c then k else k').bind f=if c then k.bind f else k'.bind f:=by split<;>rfl
theorem iteN_nat (c:Prop) [Decidable c] (k':Option A) (f:A→Option B):(if c then none else k').bind f=if c then none else k'.bind f:=by split<;>rfl
theorem asArr_nat (o:Obj) (v:Nat) (k:L→C→Option A) (f:A→Option B):(asArr o v k).bind f=asArr o v fun a b=>(k a b).bind f:=by unfold asArr;split<;>first |exact check_nat _ _ _ |rfl
theorem asFresh_nat (o:Obj) (k:Option A) (f:A→Option B):(asFresh o k).bind f=asFresh o (k.bind f):=by unfold asFresh;split<;>rfl
theorem asMap_nat (o:Obj) (k:L→L→List (Row×Row)→Option A) (f:A→Option B):(asMap o k).bind f=asMap o fun a b c=>(k a b c).bind f:=by unfold asMap;split<;>rfl
theorem part_nat (l l':L) (off:Nat) (r:Row) (k:Row→Option A) (f:A→Option B):(part l l' off r k).bind f=part l l' off r fun a=>(k a).bind f:=by
 unfold part;split<;>first |exact check_nat _ _ _ |rfl
theorem turn_nat (l l':L) (off:Nat) (r row:Row) (k:Row→Option A) (f:A→Option B):(turn l l' off r row k).bind f=turn l l' off r row fun a=>(k a).bind f:=by
 unfold turn;split<;>first |exact check_nat _ _ _ |rfl
theorem arith_nat (op:BinOp) (kd:IntKind) (a b:Int) (k:Int→Option A) (f:A→Option B):(arith op kd a b k).bind f=arith op kd a b fun n=>(k n).bind f:=by unfold arith;split<;>rfl
theorem icmpK_nat (op:BinOp) (a b:Int) (k:Bool→Option A) (f:A→Option B):(icmpK op a b k).bind f=icmpK op a b fun n=>(k n).bind f:=by unfold icmpK;split<;>rfl
theorem scmpK_nat (op:BinOp) (a b:List UInt8) (k:Bool→Option A) (f:A→Option B):(scmpK op a b k).bind f=scmpK op a b fun n=>(k n).bind f:=by unfold scmpK;split<;>rfl
theorem bnd_nat (x:Option Opd) (d:Int) (k:Int→Option A) (f:A→Option B):(bnd F S x d k).bind f=bnd F S x d fun n=>(k n).bind f:=by unfold bnd;split<;>first |exact asI_nat _ _ _ |rfl
theorem asRows_nat (c:C) (k:List Row→Option A) (f:A→Option B):(asRows c k).bind f=asRows c fun a=>(k a).bind f:=by unfold asRows;split<;>rfl
theorem asHol_nat (o:Obj) (k:L→C→Nat→AV→Option A) (f:A→Option B):(asHol o k).bind f=asHol o fun a b c d=>(k a b c d).bind f:=by unfold asHol;split<;>rfl
theorem asHas_nat (o:Obj) (k:Option A) (f:A→Option B):(asHas o k).bind f=asHas o (k.bind f):=by unfold asHas;split<;>rfl
theorem asSarr_nat (o:Obj) (v:Nat) (k:TypeId→L→C→Option A) (f:A→Option B):(asSarr o v k).bind f=asSarr o v fun a b c=>(k a b c).bind f:=by unfold asSarr;split<;>first |exact check_nat _ _ _ |rfl
theorem splitI_nat (n:Int) (f:A→Option B):∀(i m:Nat) (k:Nat→Option A),(splitI n i m k).bind f=splitI n i m fun j=>(k j).bind f
 |_,0,_=>rfl
 |i,m+1,k=>by simp only[splitI,ite2_nat,splitI_nat n f (i+1) m]
theorem fillA_nat (f:A→Option B):∀(ps:List (Nat×Nat×Opd)) (z:List AV) (k:List AV→Option A),(fillA F ps z k).bind f=fillA F ps z fun n=>(k n).bind f
 |[],_,_=>rfl
 |(off,m,x)::r,z,k=>by
  simp only[fillA]
  split
  ·rw[check_nat,fillA_nat f r]
  ·rfl
theorem minAll_nat (mx:Bool) (kd:IntKind) (f:A→Option B):∀(xs:List Opd) (m:Int) (k:Int→Option A),(minAll F S mx kd xs m k).bind f=minAll F S mx kd xs m fun n=>(k n).bind f
 |[],_,_=>rfl
 |x::xs,m,k=>by simp only[minAll,asI_nat,check_nat,minAll_nat mx kd f xs]
theorem rowsOf_nat (f:A→Option B):∀(ls:List L) (xs:List Opd) (k:List Row→Option A),(rowsOf F S ls xs k).bind f=rowsOf F S ls xs fun n=>(k n).bind f
 |[],[],_=>rfl
 |[],_::_,_=>rfl
 |_::_,[],_=>rfl
 |l::ls,x::xs,k=>by simp only[rowsOf,asD_nat,check_nat,rowsOf_nat f ls xs]
theorem fillParts_nat (ks:List K) (f:A→Option B):∀(ps:List (Nat×Nat×Opd)) (z:Row) (k:Row→Option A),(fillParts F S ks ps z k).bind f=fillParts F S ks ps z fun n=>(k n).bind f
 |[],_,_=>rfl
 |(off,m,x)::r,z,k=>by simp only[fillParts,asD_nat,check_nat,fillParts_nat ks f r]
theorem fillRows_nat (l:L) (f:A→Option B):∀(ps:List (Nat×Opd)) (z:List Row) (k:List Row→Option A),(fillRows F S l ps z k).bind f=fillRows F S l ps z fun n=>(k n).bind f
 |[],_,_=>rfl
 |(i,x)::r,z,k=>by simp only[fillRows,asD_nat,check_nat,fillRows_nat l f r]
theorem capRows_nat (f:A→Option B):∀(ks:List K) (xs:List Opd) (k:Row→Option A),(capRows F S ks xs k).bind f=capRows F S ks xs fun n=>(k n).bind f
 |[],[],_=>rfl
 |[],_::_,_=>rfl
 |_::_,[],_=>rfl
 |l::ls,x::xs,k=>by simp only[capRows,asD_nat,check_nat,capRows_nat f ls xs]
theorem opO_nat (o:Obj) (op:AOp) (base:Nat) (k:AV→Option Obj→Option A):opO E F S o op base k=(opO E F S o op base ret2).bind fun x=>k x.1 x.2:=by
 cases op<;>simp only[opO]
 case mov=>rfl
 all_goals simp only[asI_nat,asB_nat,asS_nat,asSl_nat,asD_nat,check_nat,ite_nat,iteN_nat,asArr_nat,asRows_nat,asHas_nat,asHol_nat,asSarr_nat,splitI_nat,fillA_nat,asFresh_nat,asMap_nat,part_nat,turn_nat,arith_nat,icmpK_nat,scmpK_nat,bnd_nat,minAll_nat,rowsOf_nat,fillParts_nat,fillRows_nat,capRows_nat,Option.bind_assoc,ret2,Option.bind_some,Option.bind_none,ite2_nat]
 all_goals try rfl
 case idiv bo x y=>cases bo<;>rfl
 case shf bo x y=>cases bo<;>rfl
 all_goals first
  |(split<;>simp only[asI_nat,asB_nat,asS_nat,asSl_nat,asD_nat,check_nat,ite_nat,iteN_nat,asArr_nat,asRows_nat,asHas_nat,asHol_nat,asSarr_nat,splitI_nat,fillA_nat,asFresh_nat,asMap_nat,part_nat,turn_nat,arith_nat,icmpK_nat,scmpK_nat,bnd_nat,minAll_nat,rowsOf_nat,fillParts_nat,fillRows_nat,capRows_nat,Option.bind_assoc,ret2,Option.bind_some,Option.bind_none,ite2_nat]<;>done)
  |(split<;>simp only[asI_nat,asB_nat,asS_nat,asSl_nat,asD_nat,check_nat,ite_nat,iteN_nat,asArr_nat,asRows_nat,asHas_nat,asHol_nat,asSarr_nat,splitI_nat,fillA_nat,asFresh_nat,asMap_nat,part_nat,turn_nat,arith_nat,icmpK_nat,scmpK_nat,bnd_nat,minAll_nat,rowsOf_nat,fillParts_nat,fillRows_nat,capRows_nat,Option.bind_assoc,ret2,Option.bind_some,Option.bind_none,ite2_nat]<;>rfl)
  |(split<;>first |rfl |(simp only[asI_nat,asB_nat,asS_nat,asSl_nat,asD_nat,check_nat,ite_nat,iteN_nat,asArr_nat,asRows_nat,asHas_nat,asHol_nat,asSarr_nat,splitI_nat,fillA_nat,asFresh_nat,asMap_nat,part_nat,turn_nat,arith_nat,icmpK_nat,scmpK_nat,bnd_nat,minAll_nat,rowsOf_nat,fillParts_nat,fillRows_nat,capRows_nat,Option.bind_assoc,ret2,Option.bind_some,Option.bind_none,ite2_nat]<;>done)|(simp only[asI_nat,asB_nat,asS_nat,asSl_nat,asD_nat,check_nat,ite_nat,iteN_nat,asArr_nat,asRows_nat,asHas_nat,asHol_nat,asSarr_nat,splitI_nat,fillA_nat,asFresh_nat,asMap_nat,part_nat,turn_nat,arith_nat,icmpK_nat,scmpK_nat,bnd_nat,minAll_nat,rowsOf_nat,fillParts_nat,fillRows_nat,capRows_nat,Option.bind_assoc,ret2,Option.bind_some,Option.bind_none,ite2_nat];rfl)|(split<;>first |rfl |(simp only[asI_nat,asB_nat,asS_nat,asSl_nat,asD_nat,check_nat,ite_nat,iteN_nat,asArr_nat,asRows_nat,asHas_nat,asHol_nat,asSarr_nat,splitI_nat,fillA_nat,asFresh_nat,asMap_nat,part_nat,turn_nat,arith_nat,icmpK_nat,scmpK_nat,bnd_nat,minAll_nat,rowsOf_nat,fillParts_nat,fillRows_nat,capRows_nat,Option.bind_assoc,ret2,Option.bind_some,Option.bind_none,ite2_nat]<;>done)|(simp only[asI_nat,asB_nat,asS_nat,asSl_nat,asD_nat,check_nat,ite_nat,iteN_nat,asArr_nat,asRows_nat,asHas_nat,asHol_nat,asSarr_nat,splitI_nat,fillA_nat,asFresh_nat,asMap_nat,part_nat,turn_nat,arith_nat,icmpK_nat,scmpK_nat,bnd_nat,minAll_nat,rowsOf_nat,fillParts_nat,fillRows_nat,capRows_nat,Option.bind_assoc,ret2,Option.bind_some,Option.bind_none,ite2_nat];rfl)|(split<;>first |rfl |(simp only[asI_nat,asB_nat,asS_nat,asSl_nat,asD_nat,check_nat,ite_nat,iteN_nat,asArr_nat,asRows_nat,asHas_nat,asHol_nat,asSarr_nat,splitI_nat,fillA_nat,asFresh_nat,asMap_nat,part_nat,turn_nat,arith_nat,icmpK_nat,scmpK_nat,bnd_nat,minAll_nat,rowsOf_nat,fillParts_nat,fillRows_nat,capRows_nat,Option.bind_assoc,ret2,Option.bind_some,Option.bind_none,ite2_nat]<;>done))))
  |skip
 case slc e l x lo hi=>
  split
  ·simp only[asI_nat,asB_nat,asS_nat,asSl_nat,asD_nat,check_nat,ite_nat,iteN_nat,asArr_nat,asRows_nat,asHas_nat,asHol_nat,asSarr_nat,splitI_nat,fillA_nat,asFresh_nat,asMap_nat,part_nat,turn_nat,arith_nat,icmpK_nat,scmpK_nat,bnd_nat,minAll_nat,rowsOf_nat,fillParts_nat,fillRows_nat,capRows_nat,Option.bind_assoc,ret2,Option.bind_some,Option.bind_none,ite2_nat]
  ·simp only[asI_nat,asB_nat,asS_nat,asSl_nat,asD_nat,check_nat,ite_nat,iteN_nat,asArr_nat,asRows_nat,asHas_nat,asHol_nat,asSarr_nat,splitI_nat,fillA_nat,asFresh_nat,asMap_nat,part_nat,turn_nat,arith_nat,icmpK_nat,scmpK_nat,bnd_nat,minAll_nat,rowsOf_nat,fillParts_nat,fillRows_nat,capRows_nat,Option.bind_assoc,ret2,Option.bind_some,Option.bind_none,ite2_nat]
   unfold asArr check
   split
   ·split
    ·dsimp only
     split
     ·split
      ·simp only[asI_nat,asB_nat,asS_nat,asSl_nat,asD_nat,check_nat,ite_nat,iteN_nat,asArr_nat,asRows_nat,asHas_nat,asHol_nat,asSarr_nat,splitI_nat,fillA_nat,asFresh_nat,asMap_nat,part_nat,turn_nat,arith_nat,icmpK_nat,scmpK_nat,bnd_nat,minAll_nat,rowsOf_nat,fillParts_nat,fillRows_nat,capRows_nat,Option.bind_assoc,ret2,Option.bind_some,Option.bind_none,ite2_nat]
      ·rfl
     ·rfl
    ·rfl
   ·rfl
  ·simp only[asI_nat,asB_nat,asS_nat,asSl_nat,asD_nat,check_nat,ite_nat,iteN_nat,asArr_nat,asRows_nat,asHas_nat,asHol_nat,asSarr_nat,splitI_nat,fillA_nat,asFresh_nat,asMap_nat,part_nat,turn_nat,arith_nat,icmpK_nat,scmpK_nat,bnd_nat,minAll_nat,rowsOf_nat,fillParts_nat,fillRows_nat,capRows_nat,Option.bind_assoc,ret2,Option.bind_some,Option.bind_none,ite2_nat]
  ·rfl
end Go.Ev
namespace Go.Ev
variable {E:Env} {P:Program} {T:Nat→AFn} {S S':Stab} {pl pl':Pl} {St St':Ev.St} {F:Fr} {a:Act} {w w':World}
def op1 (E:Env) (F:Fr) (S:Ev.St) (op:AOp) (base:Nat):Option (AV×List (Nat×Obj)×List Nat):=opK E F S op base fun v us rd=>some (v,us,rd)
theorem getO_nat {A B:Type} (S:Ev.St) (id:Nat) (k:Obj→Option A) (f:A→Option B):(getO S id k).bind f=getO S id fun o=>(k o).bind f:=by unfold getO;split<;>rfl
def objUps (id:Nat) (no:Option Obj):List (Nat×Obj):=match no with |some o'=>[(id,o')]|none=>[]
theorem opK_plain {A:Type} {F:Fr} {S:Ev.St} {op:AOp} {base:Nat} {k:AV→List (Nat×Obj)→List Nat→Option A} (h1:∀i f en ex ids new x args,op≠ .icall i f en ex ids new x args):
 opK E F S op base k=match tgt F op base with
  |none=>opO E F S .dead op base fun v _=>k v [] (cidsO F op)
  |some id=>getO S id fun o=>opO E F S o op base fun v no=>k v (objUps id no) (id::cidsO F op):=by
 unfold opK
 split
 ·exact absurd rfl (h1 _ _ _ _ _ _ _ _)
 ·cases tgt F op base<;>rfl
theorem calleeOf_nat {A B:Type} (F:Fr) (f:Nat) (x:Option Opd) (args:List Opd) (k:List AV→Option A) (g:A→Option B):(calleeOf F f x args k).bind g=calleeOf F f x args fun vs=>(k vs).bind g:=by
 unfold calleeOf
 split
 ·rfl
 ·split
  ·exact check_nat _ _ _
  ·rfl
theorem opK_nat {A:Type} (F:Fr) (S:Ev.St) (op:AOp) (base:Nat) (k:AV→List (Nat×Obj)→List Nat→Option A):opK E F S op base k=(op1 E F S op base).bind fun x=>k x.1 x.2.1 x.2.2:=by
 unfold op1
 by_cases h:∃i f en ex ids new x args,op= .icall i f en ex ids new x args
 ·obtain ⟨i,f,en,ex,ids,new,x,args,rfl⟩:=h
  simp only[opK,calleeOf_nat,check_nat,Option.bind_assoc]
  congr 1
 ·have h1:∀i f en ex ids new x args,op≠ .icall i f en ex ids new x args:=fun i f en ex ids new x args e=>h ⟨i,f,en,ex,ids,new,x,args,e⟩
  rw[opK_plain h1,opK_plain h1]
  split
  ·rw[opO_nat]
   conv=>rhs;rw[opO_nat,Option.bind_assoc]
   rfl
  ·rw[getO_nat]
   congr 1;funext o
   rw[opO_nat]
   conv=>rhs;rw[opO_nat,Option.bind_assoc]
   rfl
structure Ctx where
 own0:Nat→Prop
 S0:Stab
 w0:World
 n:Nat
 m:Nat
 R0:AV→Value→Prop
 hR0:∀av v,R0 av v→∃id,id<m∧(av= .map id∨av= .hol id∨∃off,av= .ptr id off)
structure Inv (P:Program) (T:Nat→AFn) (Γ:Ctx) (S:Stab) (pl:Pl) (St:Ev.St) (F:Fr) (a:Act) (w:World):Prop where
 sim:Sim P T S pl St w
 frame:RelF P T S pl St F a.tmps
 size:a.tmps.size=Γ.n
 defers:a.defers=[]
 grow:Grow Γ.own0 Γ.S0 Γ.w0 S w
 young:∀b,Owns pl St b→Γ.own0 b∨Γ.w0.heap.size≤b
 kept:∀av v,Γ.R0 av v→RelV P T S pl St av v
def dstOk (n:Nat):Option Nat→Bool |none=>true |some d=>Nat.blt d n
variable {Γ:Ctx} {n:Nat}
theorem Fr.get_cons (F:Fr) (d:Nat) (v:AV) (t:Nat):Fr.get ((d,v)::F) t=if d=t then v else Fr.get F t:=by
 simp only[Fr.get]
 split
 ·rename_i h;rw[if_pos (Nat.eq_of_beq_eq_true h)]
 ·rename_i h
  rw[if_neg]
  intro e;subst e;simp at h
theorem RelF.put {d:Option Nat} {av:AV} {v:Value} (hF:RelF P T S pl St F a.tmps) (hd:dstOk a.tmps.size d=true) (hv:RelV P T S pl St av v):RelF P T S pl St (F.put d av) (a.put d v).tmps:=by
 cases d with
 |none=>exact hF
 |some d=>
  have hlt:d<a.tmps.size:=by simpa[dstOk]using hd
  intro t
  show RelV P T S pl St (Fr.get ((d,av)::F) t) ((a.tmps.setIfInBounds d v).getD t undef)
  rw[Fr.get_cons]
  by_cases h:d=t
  ·subst h
   rw[if_pos rfl]
   have:(a.tmps.setIfInBounds d v).getD d undef=v:=by simp[hlt]
   rw[this];exact hv
  ·rw[if_neg h]
   have:(a.tmps.setIfInBounds d v).getD t undef=a.tmps.getD t undef:=by
    simp[Array.getElem?_setIfInBounds,h]
   rw[this];exact hF t
theorem Act.put_size (a:Act) (d:Option Nat) (v:Value):(a.put d v).tmps.size=a.tmps.size:=by cases d<;>simp[Act.put]
theorem Act.put_defers (a:Act) (d:Option Nat) (v:Value):(a.put d v).defers=a.defers:=by cases d<;>rfl
theorem Inv.step {d:Option Nat} {av:AV} {v:Value} (h:Inv P T Γ S pl St F a w) (hd:dstOk Γ.n d=true) (hp:OpPost P T S pl St w St' av v w'):
 ∃S' pl',Inv P T Γ S' pl' St' (F.put d av) (a.put d v) w':=by
 obtain ⟨S',pl',hs,hg,hv,hk,ho⟩:=hp
 have hF':RelF P T S' pl' St' F a.tmps:=fun t=>hk _ _ (h.frame t)
 refine ⟨S',pl',hs,hF'.put (by rw[h.size];exact hd) hv,by rw[Act.put_size];exact h.size,by rw[Act.put_defers];exact h.defers,h.grow.trans hg (fun b hb hb'=>(h.young b hb').resolve_right (by omega)),fun b hb=> ?_,fun av v hr=>hk _ _ (h.kept av v hr)⟩
 rcases ho b hb with hb |hb
 ·exact h.young b hb
 ·exact .inr (Nat.le_trans h.grow.size hb)
theorem Inv.skip {d:Option Nat} (h:Inv P T Γ S pl St F a w) (hd:dstOk Γ.n d=true):Inv P T Γ S pl St (F.put d .und) (a.put d undef) w:=
 ⟨h.sim,h.frame.put (by rw[h.size];exact hd) .und,by rw[Act.put_size];exact h.size,by rw[Act.put_defers];exact h.defers,h.grow,h.young,h.kept⟩
theorem Inv.narrow {t:Nat} {r:Row} {b:Bool} (h:Inv P T Γ S pl St F a w) (hr:F.get t= .d (.one .bool) r) (hb:(at_ r 0).toB=b):Inv P T Γ S pl St ((t,vB b)::F) a w:=by
 refine ⟨h.sim,fun t'=> ?_,h.size,h.defers,h.grow,h.young,h.kept⟩
 rw[Fr.get_cons]
 by_cases e:t=t'
 ·subst e
  rw[if_pos rfl]
  have:=h.frame t
  rw[hr]at this
  rw[this.of_bool,hb];exact relB b
 ·rw[if_neg e];exact h.frame t'
theorem ups_one {ao:AOp} {base:Nat} {av:AV} {us:List (Nat×Obj)} {rd:List Nat} {o:Oper} (hI:Inv P T Γ S pl St F a w) (hpc:EnvOk P T E) (hok:okOp P T o.op ao=true)
 (h:op1 E F St ao base=some (av,us,rd)):Done P o a w (OpPost P T S pl St w (updAll us St) av):=by
 by_cases hic:∃i f en ex ids new x args,ao= .icall i f en ex ids new x args
 ·obtain ⟨i,f,en,ex,ids,new,x,args,rfl⟩:=hic
  exact s_icall hI.sim hI.frame hpc.ic hok h
 have h1:∀i f en ex ids new x args,ao≠ .icall i f en ex ids new x args:=fun i f en ex ids new x args e=>hic ⟨i,f,en,ex,ids,new,x,args,e⟩
 unfold op1 at h
 rw[opK_plain h1]at h
 split at h
 ·rename_i ht
  rw[opO_nat]at h
  obtain ⟨⟨av',no⟩,e1,e2⟩:=Option.bind_eq_some_iff.1 h
  simp only[Option.some.injEq,Prod.mk.injEq]at e2
  obtain ⟨rfl,rfl,rfl⟩:=e2
  have:=op_sound hI.sim hI.frame hpc.pc hok (fun j hj=>by rw[ht]at hj;cases hj) e1
  rw[ht]at this
  cases no<;>exact this
 ·rename_i id ht
  unfold getO at h
  split at h
  ·rename_i ob hob
   dsimp only at h
   rw[opO_nat]at h
   obtain ⟨⟨av',no⟩,e1,e2⟩:=Option.bind_eq_some_iff.1 h
   simp only[Option.some.injEq,Prod.mk.injEq]at e2
   obtain ⟨rfl,rfl,rfl⟩:=e2
   have:=op_sound hI.sim hI.frame hpc.pc hok (fun j hj=>by rw[ht]at hj;cases hj;exact hob) e1
   rw[ht]at this
   cases no<;>exact this
  ·simp at h
def optB:Option Nat→Option Nat→Bool |none,none=>true |some a,some b=>Nat.beq a b |_,_=>false
theorem optB_eq {a b:Option Nat} (h:optB a b=true):a=b:=by
 cases a<;>cases b<;>simp[optB]at h
 ·rfl
 ·rw[h]
def guardB (ops:Array Oper):Option (Nat×Bool)→Option (Nat×Bool)→Bool
 |none,none=>true
 |some (g,b),some (t,b')=>(match b with |true=>b' |false=> !b')&&(match ops[g]? with |some o=>optB o.dst (some t)|none=>false)
 |_,_=>false
def okOper (P:Program) (T:Nat→AFn) (n:Nat) (ops:Array Oper) (o:Oper) (ao:AOper):Bool:=
 okOp P T o.op ao.op&&optB o.dst ao.dst&&dstOk n ao.dst&&guardB ops o.guard ao.guard
def okOps (P:Program) (T:Nat→AFn) (n:Nat) (ops:Array Oper):List Oper→List AOper→Bool
 |[],[]=>true
 |o::os,ao::aos=>okOper P T n ops o ao&&okOps P T n ops os aos
 |_,_=>false
theorem guard_wanted {ops:Array Oper} {o:Oper} {ao:AOper} {S:Stab} {pl:Pl} {St:Ev.St} (hg:guardB ops o.guard ao.guard=true) (hF:RelF P T S pl St F a.tmps):
 (ao.guard=none→Region.wanted o (yielded ops a.tmps)=true)∧
 (∀t b,ao.guard=some (t,b)→∀r,F.get t= .d (.one .bool) r→Region.wanted o (yielded ops a.tmps)=((at_ r 0).toB==b))∧
 (∀t b,ao.guard=some (t,b)→F.get t= .und→Region.wanted o (yielded ops a.tmps)=false):=by
 unfold guardB at hg
 split at hg
 ·rename_i h1 h2
  refine ⟨fun _=>by simp[Region.wanted,h1],fun t b h=>(by rw[h2]at h;cases h),fun t b h=>(by rw[h2]at h;cases h)⟩
 ·rename_i g b t b' h1 h2
  simp only[Bool.and_eq_true]at hg
  obtain ⟨hb,hd⟩:=hg
  have hbb:b=b':=by cases b<;>simp_all
  subst hbb
  split at hd
  ·rename_i o2 ho2
   have hdst:=optB_eq hd
   refine ⟨fun h=>(by rw[h2]at h;cases h),fun t' b' h r hr=> ?_,fun t' b' h hu=> ?_⟩
   ·rw[h2]at h;cases h
    have hv:=hF t
    rw[hr]at hv
    have hv:=hv.of_bool
    have hlt:t<a.tmps.size:=by
     rcases Nat.lt_or_ge t a.tmps.size with h |h
     ·exact h
     ·simp[h,undef]at hv
    have hget:a.tmps[t]? =some (.bool (at_ r 0).toB):=by
     rw[Array.getElem?_eq_getElem hlt]
     simp[hlt]at hv;rw[hv]
    simp[Region.wanted,h1,yielded,ho2,hdst,hget]
   ·rw[h2]at h;cases h
    have hv:=hF t
    rw[hu]at hv
    generalize hq:a.tmps.getD t undef=q at hv
    cases hv
    have:∀b,a.tmps[t]? ≠some (.bool b):=fun b e=>by
     rw[Array.getD_eq_getD_getElem?,e]at hq
     simp[undef]at hq
    have hy:yielded ops a.tmps g=none:=by
     simp only[yielded,ho2,Option.bind_some,hdst]
    simp[Region.wanted,h1,hy]
  ·simp at hd
 ·simp at hg
theorem ops_sound {A:Type} {ops:Array Oper} {Q:Exit→Act→World→Prop} {base:Nat} {k:Fr→Ev.St→Option A} {res:A} (hpc:EnvOk P T E)
 (hQ:∀F St S pl a w,Inv P T Γ S pl St F a w→k F St=some res→Q .normal a w):
 ∀(os:List Oper) (aos:List AOper) (i:Nat) (F:Fr) (St:Ev.St) (S:Stab) (pl:Pl) (a:Act) (w:World),os=ops.toList.drop i→okOps P T Γ.n ops os aos=true→
  Inv P T Γ S pl St F a w→opsK E false base aos [] F St k=some res→wpOps P ops Q (List.range' i os.length) a w
 |[],[],i,F,St,S,pl,a,w,_,_,hI,h=>hQ _ _ _ _ _ _ hI h
 |[],_::_,_,_,_,_,_,_,_,_,h,_,_=>by simp[okOps]at h
 |_::_,[],_,_,_,_,_,_,_,_,h,_,_=>by simp[okOps]at h
 |o::os,ao::aos,i,F,St,S,pl,a,w,hos,hok,hI,h=>by
  simp only[okOps,okOper,Bool.and_eq_true]at hok
  obtain ⟨⟨⟨⟨hop,hdst⟩,hdok⟩,hgd⟩,hrest⟩:=hok
  have hdst:=optB_eq hdst
  have hoi:ops[i]? =some o:=by
   have:(ops.toList.drop i)[0]? =some o:=by rw[←hos];rfl
   simpa using this
  have hos':os=ops.toList.drop (i+1):=by
   have:=congrArg List.tail hos
   simpa using this
  simp only[List.length_cons,List.range'_succ,wpOps,hoi]
  obtain ⟨g1,g2,g3⟩:=guard_wanted (ops:=ops) (o:=o) (ao:=ao) hgd hI.frame
  have hrun:∀F,Inv P T Γ S pl St F a w→opK E F St ao.op base (fun v us rd=>check (!false ||orderOk (us.map (·.1),rd) ao.bef [] 0) (opsK E false base aos [] (F.put ao.dst v) (updAll us St) k))=some res→
   o.wp P a w (wpOps P ops Q (List.range' (i+1) os.length)) Q:=by
   intro F hI h
   rw[opK_nat]at h
   obtain ⟨⟨av,us,rd⟩,e1,e2⟩:=Option.bind_eq_some_iff.1 h
   obtain ⟨_,e2⟩:=check_some e2
   refine ups_one hI hpc hop e1 _ _ fun v w' hp=> ?_
   rw[hdst]
   obtain ⟨S',pl',hI'⟩:=hI.step hdok hp
   exact ops_sound hpc hQ os aos (i+1) _ _ _ _ _ _ hos' hrest hI' e2
  have hskip:∀F,Inv P T Γ S pl St F a w→opsK E false base aos [] (F.put ao.dst .und) St k=some res→wpOps P ops Q (List.range' (i+1) os.length) (a.put o.dst undef) w:=by
   intro F hI h
   rw[hdst]
   exact ops_sound hpc hQ os aos (i+1) _ _ _ _ _ _ hos' hrest (hI.skip hdok) h
  simp only[opsK]at h
  split at h
  ·rename_i hg
   rw[if_pos (g1 hg)]
   exact .inl (hrun F hI h)
  ·rename_i t b hg
   split at h
   ·rename_i e hr
    rw[g2 t b hg _ hr]
    have hat:(at_ [C.bool e] 0).toB=e:=rfl
    rw[hat]
    split at h
    ·split at h
     ·rename_i hb
      rw[if_pos (by simp[hb])]
      exact .inl (hrun _ (hI.narrow hr hb) h)
     ·rename_i hb
      have hb:e=false:=by simpa using hb
      rw[if_neg (by simp[hb])]
      exact hskip _ (hI.narrow hr hb) h
    ·split at h
     ·rename_i hb
      rw[if_neg (by simp[hb])]
      exact hskip _ (hI.narrow hr hb) h
     ·rename_i hb
      have hb:e=false:=by simpa using hb
      rw[if_pos (by simp[hb])]
      exact .inl (hrun _ (hI.narrow hr hb) h)
   ·rename_i hu
    rw[if_neg (by simp[g3 t b hg hu])]
    exact hskip _ hI h
   ·simp at h
end Go.Ev
namespace Go.Ev
variable {A:Type} {E:Env} {F F':Fr}
variable {S S':St}
theorem minAll_congr (mx:Bool) (kd:IntKind):∀(xs:List Opd) (m:Int) (k:Int→Option A),(∀x∈xs,x.evD F S=x.evD F' S')→minAll F S mx kd xs m k=minAll F' S' mx kd xs m k
 |[],_,_,_=>rfl
 |x::xs,m,k,h=>by
  simp only[minAll,h x (by simp)]
  congr 1;funext k' n;congr 1
  exact minAll_congr mx kd xs _ k (fun y hy=>h y (by simp[hy]))
theorem rowsOf_congr:∀(ls:List L) (xs:List Opd) (k:List Row→Option A),(∀x∈xs,x.evD F S=x.evD F' S')→rowsOf F S ls xs k=rowsOf F' S' ls xs k
 |[],[],_,_=>rfl
 |[],_::_,_,_=>rfl
 |_::_,[],_,_=>rfl
 |l::ls,x::xs,k,h=>by
  simp only[rowsOf,h x (by simp)]
  congr 1;funext k' n;congr 1
  exact rowsOf_congr ls xs _ (fun y hy=>h y (by simp[hy]))
theorem fillParts_congr (ks:List K):∀(ps:List (Nat×Nat×Opd)) (z:Row) (k:Row→Option A),(∀x∈ps.map (fun p=>p.2.2),x.evD F S=x.evD F' S')→fillParts F S ks ps z k=fillParts F' S' ks ps z k
 |[],_,_,_=>rfl
 |(off,m,x)::r,z,k,h=>by
  simp only[fillParts,h x (by simp)]
  congr 1;funext k' n;congr 1
  exact fillParts_congr ks r _ k (fun y hy=>h y (by simp only[List.map_cons,List.mem_cons];exact .inr hy))
theorem fillRows_congr (l:L):∀(ps:List (Nat×Opd)) (z:List Row) (k:List Row→Option A),(∀x∈ps.map (fun p=>p.2),x.evD F S=x.evD F' S')→fillRows F S l ps z k=fillRows F' S' l ps z k
 |[],_,_,_=>rfl
 |(i,x)::r,z,k,h=>by
  simp only[fillRows,h x (by simp)]
  congr 1;funext k' n;congr 1
  exact fillRows_congr l r _ k (fun y hy=>h y (by simp only[List.map_cons,List.mem_cons];exact .inr hy))
theorem capRows_congr:∀(ks:List K) (xs:List Opd) (k:Row→Option A),(∀x∈xs,x.evD F S=x.evD F' S')→capRows F S ks xs k=capRows F' S' ks xs k
 |[],[],_,_=>rfl
 |[],_::_,_,_=>rfl
 |_::_,[],_,_=>rfl
 |l::ls,x::xs,k,h=>by
  simp only[capRows,h x (by simp)]
  congr 1;funext k' n;congr 1
  exact capRows_congr ls xs _ (fun y hy=>h y (by simp[hy]))
theorem bnd_congr (x:Option Opd) (d:Int) (k:Int→Option A) (h:∀y∈optO x,y.evD F S=y.evD F' S'):bnd F S x d k=bnd F' S' x d k:=by
 cases x with
 |none=>rfl
 |some x=>simp only[bnd,h x (by simp[optO])]
def Same (F F':Fr) (S S':St) (x:Opd):Prop:=x.ev F=x.ev F'∧x.evD F S=x.evD F' S'
theorem fillA_congr:∀(ps:List (Nat×Nat×Opd)) (z:List AV) (k:List AV→Option A),(∀x∈ps.map (fun p=>p.2.2),x.ev F=x.ev F')→fillA F ps z k=fillA F' ps z k
 |[],_,_,_=>rfl
 |(off,m,x)::r,z,k,h=>by
  simp only[fillA,h x (by simp)]
  split
  ·congr 1
   exact fillA_congr r _ k (fun y hy=>h y (by simp only[List.map_cons,List.mem_cons];exact .inr hy))
  ·rfl
theorem map_congr (xs:List Opd) (h:∀x∈xs,x.ev F=x.ev F'):xs.map (·.ev F)=xs.map (·.ev F'):=List.map_congr_left h
theorem opO_congr (o:Obj) (op:AOp) (base:Nat) (k:AV→Option Obj→Option A) (h:∀x∈opds op,Same F F' S S' x):opO E F S o op base k=opO E F' S' o op base k:=by
 have h1:∀x∈opds op,x.ev F=x.ev F':=fun x hx=>(h x hx).1
 have h2:∀x∈opds op,x.evD F S=x.evD F' S':=fun x hx=>(h x hx).2
 clear h
 cases op
 case imin mx xs=>
  cases xs with
  |nil=>rfl
  |cons x xs=>
   simp only[opO,h2 x (by simp[opds])]
   congr 1;funext a b
   exact minAll_congr mx a xs _ _ (fun y hy=>h2 y (by simp[opds,hy]))
 case bld l z ps=>exact fillParts_congr _ ps _ _ h2
 case bsl e l n z ps=>exact fillRows_congr _ ps _ _ h2
 case bslS id e l n z ps=>
  simp only[opO]
  congr 1
  exact fillRows_congr _ ps _ _ h2
 case bslO id e l n z ps=>
  simp only[opO]
  congr 1
  exact fillRows_congr _ ps _ _ h2
 case bldA zs ps=>exact fillA_congr ps _ _ h1
 case call f ps rs xs=>exact rowsOf_congr ps xs _ h2
 case callv t ps rs x xs=>
  simp only[opO,h1 x (by simp[opds])]
  split
  ·congr 1;exact rowsOf_congr ps xs _ (fun y hy=>h2 y (by simp[opds,hy]))
  ·rfl
 case mkf f t ks cs=>exact capRows_congr ks cs _ h2
 case mkfO f cs=>simp only[opO,map_congr cs h1]
 case slc e l x lo hi=>
  have hlo:∀{B:Type} (d:Int) (k:Int→Option B),bnd F S lo d k=bnd F' S' lo d k:=fun d k=>bnd_congr lo d k (fun y hy=>h2 y (by simp[opds,hy]))
  have hhi:∀{B:Type} (d:Int) (k:Int→Option B),bnd F S hi d k=bnd F' S' hi d k:=fun d k=>bnd_congr hi d k (fun y hy=>h2 y (by simp[opds,hy]))
  simp only[opO,h2 x (by simp[opds]),hlo,hhi]
 case slcS x lo hi=>
  have hlo:∀{B:Type} (d:Int) (k:Int→Option B),bnd F S lo d k=bnd F' S' lo d k:=fun d k=>bnd_congr lo d k (fun y hy=>h2 y (by simp[opds,hy]))
  have hhi:∀{B:Type} (d:Int) (k:Int→Option B),bnd F S hi d k=bnd F' S' hi d k:=fun d k=>bnd_congr hi d k (fun y hy=>h2 y (by simp[opds,hy]))
  simp only[opO,h2 x (by simp[opds]),hlo,hhi]
 all_goals simp only[opds,List.mem_cons,List.mem_singleton,List.not_mem_nil,or_false,forall_eq_or_imp,forall_eq]at h1 h2
 all_goals first
  |rfl
  |simp only[opO,h1,h2]
  |simp only[opO,h1.1,h1.2,h2.1,h2.2]
  |simp only[opO,h1.1,h1.2.1,h1.2.2,h2.1,h2.2.1,h2.2.2]
  |simp only[opO,h1]
  |simp only[opO,h2]
theorem tgt_congr (op:AOp) (base:Nat) (h:∀x∈opds op,x.ev F=x.ev F'):tgt F op base=tgt F' op base:=by
 cases op<;>first
  |rfl
  |(simp only[tgt];first |rw[h _ (by simp[opds])])
theorem calleeOf_congr (f:Nat) (x:Option Opd) (args:List Opd) (k:List AV→Option A) (h:∀y∈optO x++args,y.ev F=y.ev F'):calleeOf F f x args k=calleeOf F' f x args k:=by
 have hm:=map_congr args (fun y hy=>h y (List.mem_append_right _ hy))
 unfold calleeOf
 cases x with
 |none=>simp only[hm]
 |some y=>
  have:=h y (by simp[optO])
  simp only[this,hm]
theorem cidsO_congr (op:AOp) (h:∀x∈opds op,x.ev F=x.ev F'):cidsO F op=cidsO F' op:=by
 unfold cidsO
 generalize opds op=l at h
 induction l with
 |nil=>rfl
 |cons x l ih=>simp only[List.flatMap_cons,h x (by simp),ih (fun y hy=>h y (by simp[hy]))]
theorem same_ev {x:Opd} (h:x.ev F=x.ev F'):Same F F' S S x:=⟨h,by simp only[Opd.evD,h]⟩
theorem op1_congr (S:St) (op:AOp) (base:Nat) (h:∀x∈opds op,x.ev F=x.ev F'):op1 E F S op base=op1 E F' S op base:=by
 unfold op1
 have hcid:=cidsO_congr op h
 by_cases hc:∃i f en ex ids new x args,op= .icall i f en ex ids new x args
 ·obtain ⟨i,f,en,ex,ids,new,x,args,rfl⟩:=hc
  simp only[opK,hcid]
  exact calleeOf_congr f x args _ h
 ·have h1:∀i f en ex ids new x args,op≠ .icall i f en ex ids new x args:=fun i f en ex ids new x args e=>hc ⟨i,f,en,ex,ids,new,x,args,e⟩
  rw[opK_plain h1,opK_plain h1,tgt_congr op base h,hcid]
  split
  ·exact opO_congr _ _ _ _ (fun x hx=>same_ev (h x hx))
  ·congr 1;funext o
   exact opO_congr _ _ _ _ (fun x hx=>same_ev (h x hx))
theorem getD_mem {ids:List Nat} {i:Nat} (h:i<ids.length):ids.getD i 0∈ids:=by
 rw[List.getD_eq_getElem?_getD,List.getElem?_eq_getElem h];exact List.getElem_mem h
mutual
theorem dat_loc {S S':St}:∀(v:AV),(∀id∈v.cids,S'[id]? =S[id]?)→v.dat S'=v.dat S
 | .sw i u,h=>by simp only[AV.dat,h i (by simp[AV.cids])]
 | .agg vs,h=>by simp only[AV.dat,gather_loc vs (by simpa[AV.cids]using h)]
 | .undef,_=>by simp[AV.dat]
 | .und,_=>by simp[AV.dat]
 | .d _ _,_=>by simp[AV.dat]
 | .ptr _ _,_=>by simp[AV.dat]
 | .aptr _ _ _ _,_=>by simp[AV.dat]
 | .whole _ _,_=>by simp[AV.dat]
 | .own _ _ _ _,_=>by simp[AV.dat]
 | .fn _ _,_=>by simp[AV.dat]
 | .tup _,_=>by simp[AV.dat]
 | .map _,_=>by simp[AV.dat]
 | .hol _,_=>by simp[AV.dat]
 | .hptr _ _,_=>by simp[AV.dat]
theorem gather_loc {S S':St}:∀(vs:List AV),(∀id∈AV.cidsL vs,S'[id]? =S[id]?)→AV.gather S' vs=AV.gather S vs
 |[],_=>by simp[AV.gather]
 |v::vs,h=>by
  simp only[AV.cidsL,List.mem_append]at h
  simp only[AV.gather,dat_loc v (fun id hi=>h id (.inl hi)),gather_loc vs (fun id hi=>h id (.inr hi))]
end
theorem same_mem {x:Opd} (h:∀id∈(x.ev F).cids,S'[id]? =S[id]?):Same F F S' S x:=⟨rfl,by simp only[Opd.evD,dat_loc _ h]⟩
section
variable {S S':St} {ids:List Nat}
theorem cidsL_cellsOf:∀(ks:List K) (r:Row) (i:Nat),AV.cidsL (cellsOf ks r i)=[]
 |[],_,_=>rfl
 |k::ks,r,i=>by simp[cellsOf,AV.cidsL,AV.cids,cidsL_cellsOf ks r (i+1)]
def CoOk (S S':St) (co:Bool) (v:AV):Prop:=co=true→∀id∈v.cids,S'[id]? =S[id]?
def CoOks (S S':St) (co:Bool) (vs:List AV):Prop:=co=true→∀id∈AV.cidsL vs,S'[id]? =S[id]?
mutual
theorem packV_loc (hl:∀id∈ids,S'[id]? =S[id]?) (m:Nat) (co:Bool):∀(s:Sh) (v:AV),CoOk S S' co v→Sh.under ids.length s=true→packV S' m co (Sh.ren ids s) v=packV S m co (Sh.ren ids s) v
 | .d l,v,hc,_=>by
   cases v with
   |sw i u=>
    simp only[Sh.ren,packV]
    cases co with
    |false=>rfl
    |true=>rw[dat_loc _ (hc rfl)]
   |agg vs=>
    simp only[Sh.ren,packV]
    cases co with
    |false=>rfl
    |true=>rw[dat_loc _ (hc rfl)]
   |_=>simp[Sh.ren,packV]
 | .ptr i o,v,_,_=>by cases v<;>simp[Sh.ren,packV]
 | .whole i,v,_,h=>by
   cases v with
   |whole i' ver=>
    simp only[Sh.ren,packV]
    have hi:i<ids.length:=by simpa[Sh.under]using h
    by_cases e:i'=ids.getD i 0
    ·rw[e,hl _ (getD_mem hi)]
    ·have hb:Nat.beq (ids.getD i 0) i'=false:=by
      cases hq:Nat.beq (ids.getD i 0) i' with
      |false=>rfl
      |true=>exact absurd (Nat.eq_of_beq_eq_true hq).symm e
     simp only[hb,Bool.false_and]
     split<;>split<;>rfl
   |_=>simp[Sh.ren,packV]
 | .sw i,v,_,h=>by
   cases v with
   |sw i' ver=>
    simp only[Sh.ren,packV]
    have hi:i<ids.length:=by simpa[Sh.under]using h
    by_cases e:i'=ids.getD i 0
    ·rw[e,hl _ (getD_mem hi)]
    ·have hb:Nat.beq (ids.getD i 0) i'=false:=by
      cases hq:Nat.beq (ids.getD i 0) i' with
      |false=>rfl
      |true=>exact absurd (Nat.eq_of_beq_eq_true hq).symm e
     simp only[hb,Bool.false_and]
     split<;>split<;>rfl
   |_=>simp[Sh.ren,packV]
 | .fn f cs,v,hc,h=>by
   cases v with
   |fn f' vs=>
    simp only[Sh.ren,packV]
    rw[packVs_loc hl m co cs vs (fun hq id hi=>hc hq id (by simpa[AV.cids]using hi)) (by simpa[Sh.under]using h)]
   |_=>simp[Sh.ren,packV]
 | .agg cs,v,hc,h=>by
   cases v with
   |agg vs=>
    simp only[Sh.ren,packV]
    rw[packVs_loc hl m co cs vs (fun hq id hi=>hc hq id (by simpa[AV.cids]using hi)) (by simpa[Sh.under]using h)]
   |d l row=>
    simp only[Sh.ren,packV]
    rw[packVs_loc hl m co cs (cellsOf l.ks row 0) (fun hq id hi=>by rw[cidsL_cellsOf]at hi;cases hi) (by simpa[Sh.under]using h)]
   |_=>simp[Sh.ren,packV]
 | .map i,v,_,_=>by cases v<;>simp[Sh.ren,packV]
 | .ptrv i,v,_,_=>by cases v<;>simp[Sh.ren,packV]
 | .hol i,v,_,_=>by cases v<;>simp[Sh.ren,packV]
 | .aptr i,v,_,h=>by
   cases v with
   |aptr i' ver idx off=>
    simp only[Sh.ren,packV]
    have hi:i<ids.length:=by simpa[Sh.under]using h
    by_cases e:i'=ids.getD i 0
    ·rw[e,hl _ (getD_mem hi)]
    ·have hb:Nat.beq (ids.getD i 0) i'=false:=by
      cases hq:Nat.beq (ids.getD i 0) i' with
      |false=>rfl
      |true=>exact absurd (Nat.eq_of_beq_eq_true hq).symm e
     simp only[hb,Bool.false_and]
     split<;>split<;>rfl
   |_=>simp[Sh.ren,packV]
theorem packVs_loc (hl:∀id∈ids,S'[id]? =S[id]?) (m:Nat) (co:Bool):∀(ss:List Sh) (vs:List AV),CoOks S S' co vs→Sh.unders ids.length ss=true→packVs S' m co (Sh.rens ids ss) vs=packVs S m co (Sh.rens ids ss) vs
 |[],[],_,_=>rfl
 |[],_::_,_,_=>rfl
 |_::_,[],_,_=>rfl
 |s::ss,v::vs,hc,h=>by
  simp only[Sh.unders,Bool.and_eq_true]at h
  simp only[Sh.rens,packVs]
  rw[packV_loc hl m co s v (fun hq id hi=>hc hq id (by simp only[AV.cidsL,List.mem_append];exact .inl hi)) h.1,packVs_loc hl m co ss vs (fun hq id hi=>hc hq id (by simp only[AV.cidsL,List.mem_append];exact .inr hi)) h.2]
end
theorem packO_loc (hl:∀id∈ids,S'[id]? =S[id]?) (m:Nat) (s:OSh) (o:Obj) (h:OSh.under ids.length s=true):packO S' m (s.ren ids) o=packO S m (s.ren ids) o:=by
 cases s with
 |cells c vs=>
  have:=fun avs=>packVs_loc hl m false vs avs (fun hq=>by cases hq) (by simpa[OSh.under]using h)
  cases o<;>simp only[OSh.ren,packO,this]
  all_goals cases vs<;>simp[Sh.rens,packO]
 |hol l s=>
  have:=fun av=>packV_loc hl m false s av (fun hq=>by cases hq) (by simpa[OSh.under]using h)
  cases o<;>simp only[OSh.ren,packO,this]
 |_=>cases o<;>simp[OSh.ren,packO]
theorem packAt_loc (hl:∀id∈ids,S'[id]? =S[id]?) (hlen:S'.length=S.length):∀(is:List Nat) (ss:List OSh),(∀i∈is,i∈ids)→ss.all (OSh.under ids.length)=true→packAt S' ids is ss=packAt S ids is ss
 |[],[],_,_=>rfl
 |[],_::_,_,_=>rfl
 |_::_,[],_,_=>rfl
 |i::is,s::ss,hi,h=>by
  simp only[List.all_cons,Bool.and_eq_true]at h
  simp only[packAt]
  rw[hl i (hi i (by simp)),packAt_loc hl hlen is ss (fun j hj=>hi j (by simp[hj])) h.2,hlen]
  split
  ·rw[packO_loc hl S.length s _ h.1]
  ·rfl
theorem unders_all {n:Nat}:∀(ss:List (Nat×Sh)),(ss.all fun p=>Sh.under n p.2)=true→Sh.unders n (ss.map (·.2))=true
 |[],_=>rfl
 |p::ss,h=>by
  simp only[List.all_cons,Bool.and_eq_true]at h
  simp only[List.map_cons,Sh.unders,h.1,unders_all ss h.2,Bool.and_self]
theorem packI_loc (hl:∀id∈ids,S'[id]? =S[id]?) (hlen:S'.length=S.length) (en:Shape) (vs:List AV) (hc:∀id∈AV.cidsL vs,S'[id]? =S[id]?) (h:Shape.under ids.length en=true):packI S' ids en vs=packI S ids en vs:=by
 simp only[Shape.under,Bool.and_eq_true]at h
 unfold packI
 rw[hlen,packVs_loc hl S.length true _ vs (fun _=>hc) (unders_all _ h.1),packAt_loc hl hlen ids en.objs (fun i hi=>hi) h.2]
theorem freshAt_loc:∀(is:List Nat),(∀i∈is,S'[i]? =S[i]?)→freshAt S' is=freshAt S is
 |[],_=>rfl
 |i::is,h=>by simp only[freshAt];rw[h i (by simp),freshAt_loc is (fun j hj=>h j (by simp[hj]))]
end
theorem cidsL_append:∀(a b:List AV),AV.cidsL (a++b)=AV.cidsL a++AV.cidsL b
 |[],_=>rfl
 |v::a,b=>by simp[AV.cidsL,cidsL_append a b]
theorem cidsL_map (F:Fr):∀(xs:List Opd),AV.cidsL (xs.map (·.ev F))=xs.flatMap fun x=>(x.ev F).cids
 |[]=>rfl
 |x::xs=>by simp[AV.cidsL,cidsL_map F xs]
theorem calleeOf_some {F:Fr} {f:Nat} {x:Option Opd} {args:List Opd} {k:List AV→Option A} {r:A} (h:calleeOf F f x args k=some r):∃vs,k vs=some r∧(∀id∈AV.cidsL vs,id∈(optO x++args).flatMap fun x=>(x.ev F).cids)∧∀{B:Type} (k':List AV→Option B),calleeOf F f x args k'=k' vs:=by
 unfold calleeOf at h
 split at h
 ·exact ⟨_,h,fun id hi=>by rw[cidsL_map]at hi;simpa[optO]using hi,fun k'=>rfl⟩
 ·split at h
  ·rename_i e
   obtain ⟨hb,h⟩:=check_some h
   refine ⟨_,h,fun id hi=> ?_,fun k'=>by simp[calleeOf,e,hb,check]⟩
   rw[cidsL_append,cidsL_map]at hi
   simp only[optO,List.singleton_append,List.flatMap_cons,List.mem_append,e,AV.cids]
   rcases List.mem_append.1 hi with hi |hi
   ·exact .inr hi
   ·exact .inl hi
  ·simp at h
theorem keepC_loc {S S':St} {all vers:List Nat}:∀(is vs:List Nat) (os:List Obj),(∀id∈is,S'[id]? =S[id]?)→keepC S' (renObjs all vers is vs os)=keepC S (renObjs all vers is vs os)
 |[],_,_,_=>by simp[renObjs,keepC]
 |i::is,[],_,_=>by simp[renObjs,keepC]
 |i::is,v::vs,[],_=>by simp[renObjs,keepC]
 |i::is,v::vs,o::os,h=>by
  have ih:=keepC_loc (all:=all) (vers:=vers) is vs os (fun id hid=>h id (by simp[hid]))
  simp only[renObjs,keepC,cstAt,h i (by simp),ih]
theorem op1_mem {S S':St} {op:AOp} {base:Nat} {v:AV} {us:List (Nat×Obj)} {rd:List Nat} (h:op1 E F S op base=some (v,us,rd)) (hl:S'.length=S.length) (hr:∀id∈rd,S'[id]? =S[id]?):op1 E F S' op base=some (v,us,rd):=by
 unfold op1 at h⊢
 by_cases hc:∃i f en ex ids new x args,op= .icall i f en ex ids new x args
 ·obtain ⟨i,f,en,ex,ids,new,x,args,rfl⟩:=hc
  simp only[opK]at h⊢
  obtain ⟨vs,h1,hcid,h2⟩:=calleeOf_some h
  rw[h2]
  obtain ⟨hck,h3⟩:=check_some h1
  obtain ⟨ps,e1,h4⟩:=Option.bind_eq_some_iff.1 h3
  obtain ⟨ps',e2,h5⟩:=Option.bind_eq_some_iff.1 h4
  simp only[Option.some.injEq,Prod.mk.injEq]at h5
  have hall:∀id∈ids++numsFrom (base+new) (ex.objs.length - ids.length),S'[id]? =S[id]? :=fun id hid=>hr id (by rw[←h5.2.2];exact List.mem_append_left _ hid)
  have hcids:∀id∈AV.cidsL vs,S'[id]? =S[id]? :=fun id hid=>hr id (by rw[←h5.2.2];exact List.mem_append_right _ (hcid id hid))
  simp only[Bool.and_eq_true]at hck
  rw[packI_loc (fun id hid=>hall id (List.mem_append_left _ hid)) hl en vs hcids hck.1.1.1.1.1,freshAt_loc _ (fun id hid=>hall id (List.mem_append_right _ hid))]
  have hv:(ids++numsFrom (base+new) (ex.objs.length - ids.length)).map (verOf S')=(ids++numsFrom (base+new) (ex.objs.length - ids.length)).map (verOf S):=
   List.map_congr_left fun id hid=>by simp only[verOf,hall id hid]
  rw[hv]
  have hk:∀os,keepC S' (renObjs (ids++numsFrom (base+new) (ex.objs.length - ids.length)) ((ids++numsFrom (base+new) (ex.objs.length - ids.length)).map (verOf S)) (ids++numsFrom (base+new) (ex.objs.length - ids.length)) ((ids++numsFrom (base+new) (ex.objs.length - ids.length)).map (verOf S)) os)=keepC S (renObjs (ids++numsFrom (base+new) (ex.objs.length - ids.length)) ((ids++numsFrom (base+new) (ex.objs.length - ids.length)).map (verOf S)) (ids++numsFrom (base+new) (ex.objs.length - ids.length)) ((ids++numsFrom (base+new) (ex.objs.length - ids.length)).map (verOf S)) os):=
   fun os=>keepC_loc _ _ os hall
  simp only[hk]
  exact h1
 ·have h1:∀i f en ex ids new x args,op≠ .icall i f en ex ids new x args:=fun i f en ex ids new x args e=>hc ⟨i,f,en,ex,ids,new,x,args,e⟩
  rw[opK_plain h1]at h⊢
  have hsame:(∀id∈cidsO F op,S'[id]? =S[id]?)→∀(ob:Obj) {B:Type} (k:AV→Option Obj→Option B),opO E F S' ob op base k=opO E F S ob op base k:=fun hq ob B k=>
   opO_congr ob op base k (fun x hx=>same_mem fun id hid=>hq id (by simp only[cidsO,List.mem_flatMap];exact ⟨x,hx,hid⟩))
  split at h
  ·have:rd=cidsO F op:=by
    rw[opO_nat]at h
    obtain ⟨q,e1,e2⟩:=Option.bind_eq_some_iff.1 h
    simp only[Option.some.injEq,Prod.mk.injEq]at e2
    exact e2.2.2.symm
   rw[hsame (fun id hid=>hr id (by rw[this];exact hid))];exact h
  ·rename_i id ht
   have:rd=id::cidsO F op:=by
    unfold getO at h
    split at h
    ·dsimp only at h
     rw[opO_nat]at h
     obtain ⟨q,e1,e2⟩:=Option.bind_eq_some_iff.1 h
     simp only[Option.some.injEq,Prod.mk.injEq]at e2
     exact e2.2.2.symm
    ·simp at h
   unfold getO at h⊢
   rw[hr id (by rw[this];simp)]
   have hq:=hsame (fun i hi=>hr i (by rw[this];exact List.mem_cons_of_mem _ hi))
   simp only[hq];exact h
end Go.Ev
