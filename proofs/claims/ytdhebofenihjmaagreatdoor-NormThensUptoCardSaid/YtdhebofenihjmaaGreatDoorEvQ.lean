/-
  The evaluator in continuation-passing form: what goes on behind an operation is nothing but what goes on with its result.
-/
import Derived.Test.YtdhebofenihjmaaGreatDoorEvMm
import Derived.Test.YtdhebofenihjmaaGreatDoorEvOb
set_option linter.all false
set_option maxRecDepth 100000
namespace Go.Ev
variable {A B:Type} {E:Env} {F:Fr} {S:St}
theorem zU (v:AV) (k:IntKind→Int→Option A) (f:A→Option B):(asI v k).bind f=asI v fun a b=>(k a b).bind f:=by unfold asI;split<;>rfl
theorem aAv (v:AV) (k:Bool→Option A) (f:A→Option B):(asB v k).bind f=asB v fun a=>(k a).bind f:=by unfold asB;split<;>rfl
theorem aAw (v:AV) (k:List UInt8→Option A) (f:A→Option B):(asS v k).bind f=asS v fun a=>(k a).bind f:=by unfold asS;split<;>rfl
theorem lT (v:AV) (k:TypeId→C→Option A) (f:A→Option B):(a2a v k).bind f=a2a v fun a b=>(k a b).bind f:=by unfold a2a;split<;>rfl
theorem sP (v:AV) (k:L→Row→Option A) (f:A→Option B):(asD v k).bind f=asD v fun a b=>(k a b).bind f:=by unfold asD;split<;>rfl
theorem jC (b:Bool) (k:Option A) (f:A→Option B):(check b k).bind f=check b (k.bind f):=by unfold check;split<;>rfl
theorem zX (c:Prop) [Decidable c] (k:Option A) (f:A→Option B):(if c then k else none).bind f=if c then k.bind f else none:=by split<;>rfl
theorem cQ (c:Prop) [Decidable c] (k k':Option A) (f:A→Option B):(if c then k else k').bind f=if c then k.bind f else k'.bind f:=by split<;>rfl
theorem mT (c:Prop) [Decidable c] (k':Option A) (f:A→Option B):(if c then none else k').bind f=if c then none else k'.bind f:=by split<;>rfl
theorem vH (o:Obj) (v:Nat) (k:L→C→Option A) (f:A→Option B):(vU o v k).bind f=vU o v fun a b=>(k a b).bind f:=by unfold vU;split<;>first |exact jC _ _ _ |rfl
theorem zH (o:Obj) (k:Option A) (f:A→Option B):(uD o k).bind f=uD o (k.bind f):=by unfold uD;split<;>rfl
theorem mO (o:Obj) (k:L→L→List (Row×Row)→Option A) (f:A→Option B):(aUw o k).bind f=aUw o fun a b c=>(k a b c).bind f:=by unfold aUw;split<;>rfl
theorem nT (l l':L) (off:Nat) (r:Row) (k:Row→Option A) (f:A→Option B):(part l l' off r k).bind f=part l l' off r fun a=>(k a).bind f:=by
 unfold part;split<;>first |exact jC _ _ _ |rfl
theorem oT (l l':L) (off:Nat) (r row:Row) (k:Row→Option A) (f:A→Option B):(aFk l l' off r row k).bind f=aFk l l' off r row fun a=>(k a).bind f:=by
 unfold aFk;split<;>first |exact jC _ _ _ |rfl
theorem nO (op:BinOp) (kd:IntKind) (a b:Int) (k:Int→Option A) (f:A→Option B):(arith op kd a b k).bind f=arith op kd a b fun n=>(k n).bind f:=by unfold arith;split<;>rfl
theorem oO (op:BinOp) (a b:Int) (k:Bool→Option A) (f:A→Option B):(aXb op a b k).bind f=aXb op a b fun n=>(k n).bind f:=by unfold aXb;split<;>rfl
theorem qO (op:BinOp) (a b:List UInt8) (k:Bool→Option A) (f:A→Option B):(aXc op a b k).bind f=aXc op a b fun n=>(k n).bind f:=by unfold aXc;split<;>rfl
theorem aAx (x:Option rD) (d:Int) (k:Int→Option A) (f:A→Option B):(bnd F S x d k).bind f=bnd F S x d fun n=>(k n).bind f:=by unfold bnd;split<;>first |exact zU _ _ _ |rfl
theorem sI (c:C) (k:List Row→Option A) (f:A→Option B):(aM7 c k).bind f=aM7 c fun a=>(k a).bind f:=by unfold aM7;split<;>rfl
theorem oK (o:Obj) (k:L→C→Nat→AV→Option A) (f:A→Option B):(aP4 o k).bind f=aP4 o fun a b c d=>(k a b c d).bind f:=by unfold aP4;split<;>rfl
theorem rO (o:Obj) (k:Option A) (f:A→Option B):(aP3 o k).bind f=aP3 o (k.bind f):=by unfold aP3;split<;>rfl
theorem qL (o:Obj) (v:Nat) (k:TypeId→L→C→Option A) (f:A→Option B):(aO7 o v k).bind f=aO7 o v fun a b c=>(k a b c).bind f:=by unfold aO7;split<;>first |exact jC _ _ _ |rfl
theorem uI (n:Int) (f:A→Option B):∀(i m:Nat) (k:Nat→Option A),(aM6 n i m k).bind f=aM6 n i m fun j=>(k j).bind f
 |_,0,_=>rfl
 |i,m+1,k=>by simp only[aM6,cQ,uI n f (i+1) m]
theorem sM (f:A→Option B):∀(ps:List (Nat×Nat×rD)) (z:List AV) (k:List AV→Option A),(aOI F ps z k).bind f=aOI F ps z fun n=>(k n).bind f
 |[],_,_=>rfl
 |(off,m,x)::r,z,k=>by
  simp only[aOI]
  split
  ·rw[jC,sM f r]
  ·rfl
theorem wI (mx:Bool) (kd:IntKind) (f:A→Option B):∀(xs:List rD) (m:Int) (k:Int→Option A),(aIL F S mx kd xs m k).bind f=aIL F S mx kd xs m fun n=>(k n).bind f
 |[],_,_=>rfl
 |x::xs,m,k=>by simp only[aIL,zU,jC,wI mx kd f xs]
theorem dH (f:A→Option B):∀(ls:List L) (xs:List rD) (k:List Row→Option A),(rowsOf F S ls xs k).bind f=rowsOf F S ls xs fun n=>(k n).bind f
 |[],[],_=>rfl
 |[],_::_,_=>rfl
 |_::_,[],_=>rfl
 |l::ls,x::xs,k=>by simp only[rowsOf,sP,jC,dH f ls xs]
theorem zD (ks:List K) (f:A→Option B):∀(ps:List (Nat×Nat×rD)) (z:Row) (k:Row→Option A),(zT F S ks ps z k).bind f=zT F S ks ps z fun n=>(k n).bind f
 |[],_,_=>rfl
 |(off,m,x)::r,z,k=>by simp only[zT,sP,jC,zD ks f r]
theorem gF (l:L) (f:A→Option B):∀(ps:List (Nat×rD)) (z:List Row) (k:List Row→Option A),(iT F S l ps z k).bind f=iT F S l ps z fun n=>(k n).bind f
 |[],_,_=>rfl
 |(i,x)::r,z,k=>by simp only[iT,sP,jC,gF l f r]
theorem oG (f:A→Option B):∀(ks:List K) (xs:List rD) (k:Row→Option A),(aAs F S ks xs k).bind f=aAs F S ks xs fun n=>(k n).bind f
 |[],[],_=>rfl
 |[],_::_,_=>rfl
 |_::_,[],_=>rfl
 |l::ls,x::xs,k=>by simp only[aAs,sP,jC,oG f ls xs]
theorem aD5 (o:Obj) (op:jP) (base:Nat) (k:AV→Option Obj→Option A):rG E F S o op base k=(rG E F S o op base cB).bind fun x=>k x.1 x.2:=by
 cases op<;>simp only[rG]
 case mov=>rfl
 all_goals simp only[zU,aAv,aAw,lT,sP,jC,zX,mT,vH,sI,rO,oK,qL,uI,sM,zH,mO,nT,oT,nO,oO,qO,aAx,wI,dH,zD,gF,oG,Option.bind_assoc,cB,Option.bind_some,Option.bind_none,cQ]
 all_goals try rfl
 case idiv bo x y=>cases bo<;>rfl
 case shf bo x y=>cases bo<;>rfl
 all_goals first
  |(split<;>simp only[zU,aAv,aAw,lT,sP,jC,zX,mT,vH,sI,rO,oK,qL,uI,sM,zH,mO,nT,oT,nO,oO,qO,aAx,wI,dH,zD,gF,oG,Option.bind_assoc,cB,Option.bind_some,Option.bind_none,cQ]<;>done)
  |(split<;>simp only[zU,aAv,aAw,lT,sP,jC,zX,mT,vH,sI,rO,oK,qL,uI,sM,zH,mO,nT,oT,nO,oO,qO,aAx,wI,dH,zD,gF,oG,Option.bind_assoc,cB,Option.bind_some,Option.bind_none,cQ]<;>rfl)
  |(split<;>first |rfl |(simp only[zU,aAv,aAw,lT,sP,jC,zX,mT,vH,sI,rO,oK,qL,uI,sM,zH,mO,nT,oT,nO,oO,qO,aAx,wI,dH,zD,gF,oG,Option.bind_assoc,cB,Option.bind_some,Option.bind_none,cQ]<;>done)|(simp only[zU,aAv,aAw,lT,sP,jC,zX,mT,vH,sI,rO,oK,qL,uI,sM,zH,mO,nT,oT,nO,oO,qO,aAx,wI,dH,zD,gF,oG,Option.bind_assoc,cB,Option.bind_some,Option.bind_none,cQ];rfl)|(split<;>first |rfl |(simp only[zU,aAv,aAw,lT,sP,jC,zX,mT,vH,sI,rO,oK,qL,uI,sM,zH,mO,nT,oT,nO,oO,qO,aAx,wI,dH,zD,gF,oG,Option.bind_assoc,cB,Option.bind_some,Option.bind_none,cQ]<;>done)|(simp only[zU,aAv,aAw,lT,sP,jC,zX,mT,vH,sI,rO,oK,qL,uI,sM,zH,mO,nT,oT,nO,oO,qO,aAx,wI,dH,zD,gF,oG,Option.bind_assoc,cB,Option.bind_some,Option.bind_none,cQ];rfl)|(split<;>first |rfl |(simp only[zU,aAv,aAw,lT,sP,jC,zX,mT,vH,sI,rO,oK,qL,uI,sM,zH,mO,nT,oT,nO,oO,qO,aAx,wI,dH,zD,gF,oG,Option.bind_assoc,cB,Option.bind_some,Option.bind_none,cQ]<;>done))))
  |skip
 case slc e l x lo hi=>
  split
  ·simp only[zU,aAv,aAw,lT,sP,jC,zX,mT,vH,sI,rO,oK,qL,uI,sM,zH,mO,nT,oT,nO,oO,qO,aAx,wI,dH,zD,gF,oG,Option.bind_assoc,cB,Option.bind_some,Option.bind_none,cQ]
  ·simp only[zU,aAv,aAw,lT,sP,jC,zX,mT,vH,sI,rO,oK,qL,uI,sM,zH,mO,nT,oT,nO,oO,qO,aAx,wI,dH,zD,gF,oG,Option.bind_assoc,cB,Option.bind_some,Option.bind_none,cQ]
   unfold vU check
   split
   ·split
    ·dsimp only
     split
     ·split
      ·simp only[zU,aAv,aAw,lT,sP,jC,zX,mT,vH,sI,rO,oK,qL,uI,sM,zH,mO,nT,oT,nO,oO,qO,aAx,wI,dH,zD,gF,oG,Option.bind_assoc,cB,Option.bind_some,Option.bind_none,cQ]
      ·rfl
     ·rfl
    ·rfl
   ·rfl
  ·simp only[zU,aAv,aAw,lT,sP,jC,zX,mT,vH,sI,rO,oK,qL,uI,sM,zH,mO,nT,oT,nO,oO,qO,aAx,wI,dH,zD,gF,oG,Option.bind_assoc,cB,Option.bind_some,Option.bind_none,cQ]
  ·rfl
end Go.Ev
namespace Go.Ev
variable {E:Env} {P:Program} {T:Nat→yF} {S S':yA} {pl wD:Pl} {St dD:Ev.St} {F:Fr} {a:Act} {w w':World}
def op1 (E:Env) (F:Fr) (S:Ev.St) (op:jP) (base:Nat):Option (AV×List (Nat×Obj)×List Nat):=opK E F S op base fun v us rd=>some (v,us,rd)
theorem a63 {A B:Type} (S:Ev.St) (id:Nat) (k:Obj→Option A) (f:A→Option B):(aHa S id k).bind f=aHa S id fun o=>(k o).bind f:=by unfold aHa;split<;>rfl
def a65 (id:Nat) (no:Option Obj):List (Nat×Obj):=match no with |some o'=>[(id,o')]|none=>[]
theorem aDu {A:Type} {F:Fr} {S:Ev.St} {op:jP} {base:Nat} {k:AV→List (Nat×Obj)→List Nat→Option A} (h1:∀i f en ex ids new x args,op≠ .aBZ i f en ex ids new x args):
 opK E F S op base k=match tgt F op base with
  |none=>rG E F S .dead op base fun v _=>k v [] (aIe F op)
  |some id=>aHa S id fun o=>rG E F S o op base fun v no=>k v (a65 id no) (id::aIe F op):=by
 unfold opK
 split
 ·exact absurd rfl (h1 _ _ _ _ _ _ _ _)
 ·cases tgt F op base<;>rfl
theorem aYT {A B:Type} (F:Fr) (f:Nat) (x:Option rD) (args:List rD) (k:List AV→Option A) (g:A→Option B):(vM F f x args k).bind g=vM F f x args fun vs=>(k vs).bind g:=by
 unfold vM
 split
 ·rfl
 ·split
  ·exact jC _ _ _
  ·rfl
theorem aYU {A:Type} (F:Fr) (S:Ev.St) (op:jP) (base:Nat) (k:AV→List (Nat×Obj)→List Nat→Option A):opK E F S op base k=(op1 E F S op base).bind fun x=>k x.1 x.2.1 x.2.2:=by
 unfold op1
 by_cases h:∃i f en ex ids new x args,op= .aBZ i f en ex ids new x args
 ·obtain ⟨i,f,en,ex,ids,new,x,args,rfl⟩:=h
  simp only[opK,aYT,jC,Option.bind_assoc]
  congr 1
 ·have h1:∀i f en ex ids new x args,op≠ .aBZ i f en ex ids new x args:=fun i f en ex ids new x args e=>h ⟨i,f,en,ex,ids,new,x,args,e⟩
  rw[aDu h1,aDu h1]
  split
  ·rw[aD5]
   conv=>rhs;rw[aD5,Option.bind_assoc]
   rfl
  ·rw[a63]
   congr 1;funext o
   rw[aD5]
   conv=>rhs;rw[aD5,Option.bind_assoc]
   rfl
structure Ctx where
 bGv:Nat→Prop
 S0:yA
 w0:World
 n:Nat
 m:Nat
 R0:AV→Value→Prop
 hR0:∀av v,R0 av v→∃id,id<m∧(av= .map id∨av= .vE id∨∃off,av= .ptr id off)
structure Inv (P:Program) (T:Nat→yF) (Γ:Ctx) (S:yA) (pl:Pl) (St:Ev.St) (F:Fr) (a:Act) (w:World):Prop where
 cO:mW P T S pl St w
 frame:wX P T S pl St F a.tmps
 size:a.tmps.size=Γ.n
 defers:a.defers=[]
 grow:Grow Γ.bGv Γ.S0 Γ.w0 S w
 rZ:∀b,nW pl St b→Γ.bGv b∨Γ.w0.heap.size≤b
 kept:∀av v,Γ.R0 av v→iB P T S pl St av v
def a0A (n:Nat):Option Nat→Bool |none=>true |some d=>Nat.blt d n
variable {Γ:Ctx} {n:Nat}
theorem Fr.aER (F:Fr) (d:Nat) (v:AV) (t:Nat):Fr.get ((d,v)::F) t=if d=t then v else Fr.get F t:=by
 simp only[Fr.get]
 split
 ·rename_i h;rw[if_pos (Nat.eq_of_beq_eq_true h)]
 ·rename_i h
  rw[if_neg]
  intro e;subst e;simp at h
theorem wX.put {d:Option Nat} {av:AV} {v:Value} (hF:wX P T S pl St F a.tmps) (hd:a0A a.tmps.size d=true) (hv:iB P T S pl St av v):wX P T S pl St (F.put d av) (a.put d v).tmps:=by
 cases d with
 |none=>exact hF
 |some d=>
  have hlt:d<a.tmps.size:=by simpa[a0A]using hd
  intro t
  show iB P T S pl St (Fr.get ((d,av)::F) t) ((a.tmps.setIfInBounds d v).getD t undef)
  rw[Fr.aER]
  by_cases h:d=t
  ·subst h
   rw[if_pos rfl]
   have:(a.tmps.setIfInBounds d v).getD d undef=v:=by simp[hlt]
   rw[this];exact hv
  ·rw[if_neg h]
   have:(a.tmps.setIfInBounds d v).getD t undef=a.tmps.getD t undef:=by
    simp[Array.getElem?_setIfInBounds,h]
   rw[this];exact hF t
theorem Act.a0B (a:Act) (d:Option Nat) (v:Value):(a.put d v).tmps.size=a.tmps.size:=by cases d<;>simp[Act.put]
theorem Act.put_defers (a:Act) (d:Option Nat) (v:Value):(a.put d v).defers=a.defers:=by cases d<;>rfl
theorem Inv.step {d:Option Nat} {av:AV} {v:Value} (h:Inv P T Γ S pl St F a w) (hd:a0A Γ.n d=true) (hp:bB P T S pl St w dD av v w'):
 ∃S' wD,Inv P T Γ S' wD dD (F.put d av) (a.put d v) w':=by
 obtain ⟨S',wD,hs,hg,hv,hk,ho⟩:=hp
 have hF':wX P T S' wD dD F a.tmps:=fun t=>hk _ _ (h.frame t)
 refine ⟨S',wD,hs,hF'.put (by rw[h.size];exact hd) hv,by rw[Act.a0B];exact h.size,by rw[Act.put_defers];exact h.defers,h.grow.trans hg (fun b hb hb'=>(h.rZ b hb').resolve_right (by omega)),fun b hb=> ?_,fun av v hr=>hk _ _ (h.kept av v hr)⟩
 rcases ho b hb with hb |hb
 ·exact h.rZ b hb
 ·exact .inr (Nat.le_trans h.grow.size hb)
theorem Inv.skip {d:Option Nat} (h:Inv P T Γ S pl St F a w) (hd:a0A Γ.n d=true):Inv P T Γ S pl St (F.put d .und) (a.put d undef) w:=
 ⟨h.cO,h.frame.put (by rw[h.size];exact hd) .und,by rw[Act.a0B];exact h.size,by rw[Act.put_defers];exact h.defers,h.grow,h.rZ,h.kept⟩
theorem Inv.narrow {t:Nat} {r:Row} {b:Bool} (h:Inv P T Γ S pl St F a w) (hr:F.get t= .d (.one .bool) r) (hb:(at_ r 0).rJ=b):Inv P T Γ S pl St ((t,vB b)::F) a w:=by
 refine ⟨h.cO,fun t'=> ?_,h.size,h.defers,h.grow,h.rZ,h.kept⟩
 rw[Fr.aER]
 by_cases e:t=t'
 ·subst e
  rw[if_pos rfl]
  have:=h.frame t
  rw[hr]at this
  rw[this.of_bool,hb];exact aWb b
 ·rw[if_neg e];exact h.frame t'
theorem a3N {ao:jP} {base:Nat} {av:AV} {us:List (Nat×Obj)} {rd:List Nat} {o:Oper} (hI:Inv P T Γ S pl St F a w) (hpc:aQn P T E) (hok:fG P T o.op ao=true)
 (h:op1 E F St ao base=some (av,us,rd)):cE P o a w (bB P T S pl St w (zF us St) av):=by
 by_cases hic:∃i f en ex ids new x args,ao= .aBZ i f en ex ids new x args
 ·obtain ⟨i,f,en,ex,ids,new,x,args,rfl⟩:=hic
  exact a9S hI.cO hI.frame hpc.ic hok h
 have h1:∀i f en ex ids new x args,ao≠ .aBZ i f en ex ids new x args:=fun i f en ex ids new x args e=>hic ⟨i,f,en,ex,ids,new,x,args,e⟩
 unfold op1 at h
 rw[aDu h1]at h
 split at h
 ·rename_i ht
  rw[aD5]at h
  obtain ⟨⟨av',no⟩,e1,e2⟩:=Option.bind_eq_some_iff.1 h
  simp only[Option.some.injEq,Prod.mk.injEq]at e2
  obtain ⟨rfl,rfl,rfl⟩:=e2
  have:=a0s hI.cO hI.frame hpc.pc hok (fun j hj=>by rw[ht]at hj;cases hj) e1
  rw[ht]at this
  cases no<;>exact this
 ·rename_i id ht
  unfold aHa at h
  split at h
  ·rename_i ob oB
   dsimp only at h
   rw[aD5]at h
   obtain ⟨⟨av',no⟩,e1,e2⟩:=Option.bind_eq_some_iff.1 h
   simp only[Option.some.injEq,Prod.mk.injEq]at e2
   obtain ⟨rfl,rfl,rfl⟩:=e2
   have:=a0s hI.cO hI.frame hpc.pc hok (fun j hj=>by rw[ht]at hj;cases hj;exact oB) e1
   rw[ht]at this
   cases no<;>exact this
  ·simp at h
def a9T:Option Nat→Option Nat→Bool |none,none=>true |some a,some b=>Nat.beq a b |_,_=>false
theorem aYV {a b:Option Nat} (h:a9T a b=true):a=b:=by
 cases a<;>cases b<;>simp[a9T]at h
 ·rfl
 ·rw[h]
def a2y (ops:Array Oper):Option (Nat×Bool)→Option (Nat×Bool)→Bool
 |none,none=>true
 |some (g,b),some (t,b')=>(match b with |true=>b' |false=> !b')&&(match ops[g]? with |some o=>a9T o.dst (some t)|none=>false)
 |_,_=>false
def aUX (P:Program) (T:Nat→yF) (n:Nat) (ops:Array Oper) (o:Oper) (ao:lK):Bool:=
 fG P T o.op ao.op&&a9T o.dst ao.dst&&a0A n ao.dst&&a2y ops o.guard ao.guard
def aHi (P:Program) (T:Nat→yF) (n:Nat) (ops:Array Oper):List Oper→List lK→Bool
 |[],[]=>true
 |o::os,ao::aos=>aUX P T n ops o ao&&aHi P T n ops os aos
 |_,_=>false
theorem aQp {ops:Array Oper} {o:Oper} {ao:lK} {S:yA} {pl:Pl} {St:Ev.St} (hg:a2y ops o.guard ao.guard=true) (hF:wX P T S pl St F a.tmps):
 (ao.guard=none→Region.wanted o (yielded ops a.tmps)=true)∧
 (∀t b,ao.guard=some (t,b)→∀r,F.get t= .d (.one .bool) r→Region.wanted o (yielded ops a.tmps)=((at_ r 0).rJ==b))∧
 (∀t b,ao.guard=some (t,b)→F.get t= .und→Region.wanted o (yielded ops a.tmps)=false):=by
 unfold a2y at hg
 split at hg
 ·rename_i h1 h2
  refine ⟨fun _=>by simp[Region.wanted,h1],fun t b h=>(by rw[h2]at h;cases h),fun t b h=>(by rw[h2]at h;cases h)⟩
 ·rename_i g b t b' h1 h2
  simp only[Bool.and_eq_true]at hg
  obtain ⟨hb,hd⟩:=hg
  have hbb:b=b':=by cases b<;>simp_all
  subst hbb
  split at hd
  ·rename_i o2 ho2
   have aTt:=aYV hd
   refine ⟨fun h=>(by rw[h2]at h;cases h),fun t' b' h r hr=> ?_,fun t' b' h hu=> ?_⟩
   ·rw[h2]at h;cases h
    have hv:=hF t
    rw[hr]at hv
    have hv:=hv.of_bool
    have hlt:t<a.tmps.size:=by
     rcases Nat.lt_or_ge t a.tmps.size with h |h
     ·exact h
     ·simp[h,undef]at hv
    have aMZ:a.tmps[t]? =some (.bool (at_ r 0).rJ):=by
     rw[Array.getElem?_eq_getElem hlt]
     simp[hlt]at hv;rw[hv]
    simp[Region.wanted,h1,yielded,ho2,aTt,aMZ]
   ·rw[h2]at h;cases h
    have hv:=hF t
    rw[hu]at hv
    generalize hq:a.tmps.getD t undef=q at hv
    cases hv
    have:∀b,a.tmps[t]? ≠some (.bool b):=fun b e=>by
     rw[Array.getD_eq_getD_getElem?,e]at hq
     simp[undef]at hq
    have hy:yielded ops a.tmps g=none:=by
     simp only[yielded,ho2,Option.bind_some,aTt]
    simp[Region.wanted,h1,hy]
  ·simp at hd
 ·simp at hg
theorem aRG {A:Type} {ops:Array Oper} {Q:Exit→Act→World→Prop} {base:Nat} {k:Fr→Ev.St→Option A} {res:A} (hpc:aQn P T E)
 (hQ:∀F St S pl a w,Inv P T Γ S pl St F a w→k F St=some res→Q .normal a w):
 ∀(os:List Oper) (aos:List lK) (i:Nat) (F:Fr) (St:Ev.St) (S:yA) (pl:Pl) (a:Act) (w:World),os=ops.toList.drop i→aHi P T Γ.n ops os aos=true→
  Inv P T Γ S pl St F a w→aIN E false base aos [] F St k=some res→wpOps P ops Q (List.range' i os.length) a w
 |[],[],i,F,St,S,pl,a,w,_,_,hI,h=>hQ _ _ _ _ _ _ hI h
 |[],_::_,_,_,_,_,_,_,_,_,h,_,_=>by simp[aHi]at h
 |_::_,[],_,_,_,_,_,_,_,_,h,_,_=>by simp[aHi]at h
 |o::os,ao::aos,i,F,St,S,pl,a,w,hos,hok,hI,h=>by
  simp only[aHi,aUX,Bool.and_eq_true]at hok
  obtain ⟨⟨⟨⟨hop,aTt⟩,a66⟩,hgd⟩,a3O⟩:=hok
  have aTt:=aYV aTt
  have hoi:ops[i]? =some o:=by
   have:(ops.toList.drop i)[0]? =some o:=by rw[←hos];rfl
   simpa using this
  have bGw:os=ops.toList.drop (i+1):=by
   have:=congrArg List.tail hos
   simpa using this
  simp only[List.length_cons,List.range'_succ,wpOps,hoi]
  obtain ⟨g1,g2,g3⟩:=aQp (ops:=ops) (o:=o) (ao:=ao) hgd hI.frame
  have hrun:∀F,Inv P T Γ S pl St F a w→opK E F St ao.op base (fun v us rd=>check (!false ||aB1 (us.map (·.1),rd) ao.bef [] 0) (aIN E false base aos [] (F.put ao.dst v) (zF us St) k))=some res→
   o.wp P a w (wpOps P ops Q (List.range' (i+1) os.length)) Q:=by
   intro F hI h
   rw[aYU]at h
   obtain ⟨⟨av,us,rd⟩,e1,e2⟩:=Option.bind_eq_some_iff.1 h
   obtain ⟨_,e2⟩:=lA e2
   refine a3N hI hpc hop e1 _ _ fun v w' hp=> ?_
   rw[aTt]
   obtain ⟨S',wD,hI'⟩:=hI.step a66 hp
   exact aRG hpc hQ os aos (i+1) _ _ _ _ _ _ bGw a3O hI' e2
  have a67:∀F,Inv P T Γ S pl St F a w→aIN E false base aos [] (F.put ao.dst .und) St k=some res→wpOps P ops Q (List.range' (i+1) os.length) (a.put o.dst undef) w:=by
   intro F hI h
   rw[aTt]
   exact aRG hpc hQ os aos (i+1) _ _ _ _ _ _ bGw a3O (hI.skip a66) h
  simp only[aIN]at h
  split at h
  ·rename_i hg
   rw[if_pos (g1 hg)]
   exact .inl (hrun F hI h)
  ·rename_i t b hg
   split at h
   ·rename_i e hr
    rw[g2 t b hg _ hr]
    have hat:(at_ [C.bool e] 0).rJ=e:=rfl
    rw[hat]
    split at h
    ·split at h
     ·rename_i hb
      rw[if_pos (by simp[hb])]
      exact .inl (hrun _ (hI.narrow hr hb) h)
     ·rename_i hb
      have hb:e=false:=by simpa using hb
      rw[if_neg (by simp[hb])]
      exact a67 _ (hI.narrow hr hb) h
    ·split at h
     ·rename_i hb
      rw[if_neg (by simp[hb])]
      exact a67 _ (hI.narrow hr hb) h
     ·rename_i hb
      have hb:e=false:=by simpa using hb
      rw[if_pos (by simp[hb])]
      exact .inl (hrun _ (hI.narrow hr hb) h)
   ·rename_i hu
    rw[if_neg (by simp[g3 t b hg hu])]
    exact a67 _ hI h
   ·simp at h
end Go.Ev
namespace Go.Ev
variable {A:Type} {E:Env} {F F':Fr}
variable {S S':St}
theorem aQr (mx:Bool) (kd:IntKind):∀(xs:List rD) (m:Int) (k:Int→Option A),(∀x∈xs,x.uM F S=x.uM F' S')→aIL F S mx kd xs m k=aIL F' S' mx kd xs m k
 |[],_,_,_=>rfl
 |x::xs,m,k,h=>by
  simp only[aIL,h x (by simp)]
  congr 1;funext k' n;congr 1
  exact aQr mx kd xs _ k (fun y hy=>h y (by simp[hy]))
theorem aLn:∀(ls:List L) (xs:List rD) (k:List Row→Option A),(∀x∈xs,x.uM F S=x.uM F' S')→rowsOf F S ls xs k=rowsOf F' S' ls xs k
 |[],[],_,_=>rfl
 |[],_::_,_,_=>rfl
 |_::_,[],_,_=>rfl
 |l::ls,x::xs,k,h=>by
  simp only[rowsOf,h x (by simp)]
  congr 1;funext k' n;congr 1
  exact aLn ls xs _ (fun y hy=>h y (by simp[hy]))
theorem aMG (ks:List K):∀(ps:List (Nat×Nat×rD)) (z:Row) (k:Row→Option A),(∀x∈ps.map (fun p=>p.2.2),x.uM F S=x.uM F' S')→zT F S ks ps z k=zT F' S' ks ps z k
 |[],_,_,_=>rfl
 |(off,m,x)::r,z,k,h=>by
  simp only[zT,h x (by simp)]
  congr 1;funext k' n;congr 1
  exact aMG ks r _ k (fun y hy=>h y (by simp only[List.map_cons,List.mem_cons];exact .inr hy))
theorem aB9 (l:L):∀(ps:List (Nat×rD)) (z:List Row) (k:List Row→Option A),(∀x∈ps.map (fun p=>p.2),x.uM F S=x.uM F' S')→iT F S l ps z k=iT F' S' l ps z k
 |[],_,_,_=>rfl
 |(i,x)::r,z,k,h=>by
  simp only[iT,h x (by simp)]
  congr 1;funext k' n;congr 1
  exact aB9 l r _ k (fun y hy=>h y (by simp only[List.map_cons,List.mem_cons];exact .inr hy))
theorem aOQ:∀(ks:List K) (xs:List rD) (k:Row→Option A),(∀x∈xs,x.uM F S=x.uM F' S')→aAs F S ks xs k=aAs F' S' ks xs k
 |[],[],_,_=>rfl
 |[],_::_,_,_=>rfl
 |_::_,[],_,_=>rfl
 |l::ls,x::xs,k,h=>by
  simp only[aAs,h x (by simp)]
  congr 1;funext k' n;congr 1
  exact aOQ ls xs _ (fun y hy=>h y (by simp[hy]))
theorem aOi (x:Option rD) (d:Int) (k:Int→Option A) (h:∀y∈aTp x,y.uM F S=y.uM F' S'):bnd F S x d k=bnd F' S' x d k:=by
 cases x with
 |none=>rfl
 |some x=>simp only[bnd,h x (by simp[aTp])]
def bDZ (F F':Fr) (S S':St) (x:rD):Prop:=x.ev F=x.ev F'∧x.uM F S=x.uM F' S'
theorem aSV:∀(ps:List (Nat×Nat×rD)) (z:List AV) (k:List AV→Option A),(∀x∈ps.map (fun p=>p.2.2),x.ev F=x.ev F')→aOI F ps z k=aOI F' ps z k
 |[],_,_,_=>rfl
 |(off,m,x)::r,z,k,h=>by
  simp only[aOI,h x (by simp)]
  split
  ·congr 1
   exact aSV r _ k (fun y hy=>h y (by simp only[List.map_cons,List.mem_cons];exact .inr hy))
  ·rfl
theorem map_congr (xs:List rD) (h:∀x∈xs,x.ev F=x.ev F'):xs.map (·.ev F)=xs.map (·.ev F'):=List.map_congr_left h
theorem aRH (o:Obj) (op:jP) (base:Nat) (k:AV→Option Obj→Option A) (h:∀x∈aHV op,bDZ F F' S S' x):rG E F S o op base k=rG E F' S' o op base k:=by
 have h1:∀x∈aHV op,x.ev F=x.ev F':=fun x hx=>(h x hx).1
 have h2:∀x∈aHV op,x.uM F S=x.uM F' S':=fun x hx=>(h x hx).2
 clear h
 cases op
 case imin mx xs=>
  cases xs with
  |nil=>rfl
  |cons x xs=>
   simp only[rG,h2 x (by simp[aHV])]
   congr 1;funext a b
   exact aQr mx a xs _ _ (fun y hy=>h2 y (by simp[aHV,hy]))
 case bld l z ps=>exact aMG _ ps _ _ h2
 case bsl e l n z ps=>exact aB9 _ ps _ _ h2
 case bslS id e l n z ps=>
  simp only[rG]
  congr 1
  exact aB9 _ ps _ _ h2
 case bslO id e l n z ps=>
  simp only[rG]
  congr 1
  exact aB9 _ ps _ _ h2
 case bldA zs ps=>exact aSV ps _ _ h1
 case call f ps rs xs=>exact aLn ps xs _ h2
 case callv t ps rs x xs=>
  simp only[rG,h1 x (by simp[aHV])]
  split
  ·congr 1;exact aLn ps xs _ (fun y hy=>h2 y (by simp[aHV,hy]))
  ·rfl
 case mkf f t ks cs=>exact aOQ ks cs _ h2
 case slc e l x lo hi=>
  have hlo:∀{B:Type} (d:Int) (k:Int→Option B),bnd F S lo d k=bnd F' S' lo d k:=fun d k=>aOi lo d k (fun y hy=>h2 y (by simp[aHV,hy]))
  have hhi:∀{B:Type} (d:Int) (k:Int→Option B),bnd F S hi d k=bnd F' S' hi d k:=fun d k=>aOi hi d k (fun y hy=>h2 y (by simp[aHV,hy]))
  simp only[rG,h2 x (by simp[aHV]),hlo,hhi]
 case slcS x lo hi=>
  have hlo:∀{B:Type} (d:Int) (k:Int→Option B),bnd F S lo d k=bnd F' S' lo d k:=fun d k=>aOi lo d k (fun y hy=>h2 y (by simp[aHV,hy]))
  have hhi:∀{B:Type} (d:Int) (k:Int→Option B),bnd F S hi d k=bnd F' S' hi d k:=fun d k=>aOi hi d k (fun y hy=>h2 y (by simp[aHV,hy]))
  simp only[rG,h2 x (by simp[aHV]),hlo,hhi]
 all_goals simp only[aHV,List.mem_cons,List.mem_singleton,List.not_mem_nil,or_false,forall_eq_or_imp,forall_eq]at h1 h2
 all_goals first
  |rfl
  |simp only[rG,h1,h2]
  |simp only[rG,h1.1,h1.2,h2.1,h2.2]
  |simp only[rG,h1.1,h1.2.1,h1.2.2,h2.1,h2.2.1,h2.2.2]
  |simp only[rG,h1]
  |simp only[rG,h2]
theorem a48 (op:jP) (base:Nat) (h:∀x∈aHV op,x.ev F=x.ev F'):tgt F op base=tgt F' op base:=by
 cases op<;>first
  |rfl
  |(simp only[tgt];first |rw[h _ (by simp[aHV])])
theorem aUY (f:Nat) (x:Option rD) (args:List rD) (k:List AV→Option A) (h:∀y∈aTp x++args,y.ev F=y.ev F'):vM F f x args k=vM F' f x args k:=by
 have hm:=map_congr args (fun y hy=>h y (List.mem_append_right _ hy))
 unfold vM
 cases x with
 |none=>simp only[hm]
 |some y=>
  have:=h y (by simp[aTp])
  simp only[this,hm]
theorem a0C (op:jP) (h:∀x∈aHV op,x.ev F=x.ev F'):aIe F op=aIe F' op:=by
 unfold aIe
 generalize aHV op=l at h
 induction l with
 |nil=>rfl
 |cons x l ih=>simp only[List.flatMap_cons,h x (by simp),ih (fun y hy=>h y (by simp[hy]))]
theorem a3P {x:rD} (h:x.ev F=x.ev F'):bDZ F F' S S x:=⟨h,by simp only[rD.uM,h]⟩
theorem aRI (S:St) (op:jP) (base:Nat) (h:∀x∈aHV op,x.ev F=x.ev F'):op1 E F S op base=op1 E F' S op base:=by
 unfold op1
 have a9U:=a0C op h
 by_cases hc:∃i f en ex ids new x args,op= .aBZ i f en ex ids new x args
 ·obtain ⟨i,f,en,ex,ids,new,x,args,rfl⟩:=hc
  simp only[opK,a9U]
  exact aUY f x args _ h
 ·have h1:∀i f en ex ids new x args,op≠ .aBZ i f en ex ids new x args:=fun i f en ex ids new x args e=>hc ⟨i,f,en,ex,ids,new,x,args,e⟩
  rw[aDu h1,aDu h1,a48 op base h,a9U]
  split
  ·exact aRH _ _ _ _ (fun x hx=>a3P (h x hx))
  ·congr 1;funext o
   exact aRH _ _ _ _ (fun x hx=>a3P (h x hx))
theorem aKb {ids:List Nat} {i:Nat} (h:i<ids.length):ids.getD i 0∈ids:=by
 rw[List.getD_eq_getElem?_getD,List.getElem?_eq_getElem h];exact List.getElem_mem h
mutual
theorem aUf {S S':St}:∀(v:AV),(∀id∈v.aRq,S'[id]? =S[id]?)→v.dat S'=v.dat S
 | .sw i u,h=>by simp only[AV.dat,h i (by simp[AV.aRq])]
 | .agg vs,h=>by simp only[AV.dat,aUZ vs (by simpa[AV.aRq]using h)]
 | .undef,_=>by simp[AV.dat]
 | .und,_=>by simp[AV.dat]
 | .d _ _,_=>by simp[AV.dat]
 | .ptr _ _,_=>by simp[AV.dat]
 | .zL _ _ _ _,_=>by simp[AV.dat]
 | .whole _ _,_=>by simp[AV.dat]
 | .own _ _ _ _,_=>by simp[AV.dat]
 | .fn _ _,_=>by simp[AV.dat]
 | .tup _,_=>by simp[AV.dat]
 | .map _,_=>by simp[AV.dat]
 | .vE _,_=>by simp[AV.dat]
 | .aKU _ _,_=>by simp[AV.dat]
theorem aUZ {S S':St}:∀(vs:List AV),(∀id∈AV.aBY vs,S'[id]? =S[id]?)→AV.aKV S' vs=AV.aKV S vs
 |[],_=>by simp[AV.aKV]
 |v::vs,h=>by
  simp only[AV.aBY,List.mem_append]at h
  simp only[AV.aKV,aUf v (fun id hi=>h id (.inl hi)),aUZ vs (fun id hi=>h id (.inr hi))]
end
theorem a68 {x:rD} (h:∀id∈(x.ev F).aRq,S'[id]? =S[id]?):bDZ F F S' S x:=⟨rfl,by simp only[rD.uM,aUf _ h]⟩
section
variable {S S':St} {ids:List Nat}
theorem aOR:∀(ks:List K) (r:Row) (i:Nat),AV.aBY (cellsOf ks r i)=[]
 |[],_,_=>rfl
 |k::ks,r,i=>by simp[cellsOf,AV.aBY,AV.aRq,aOR ks r (i+1)]
def bJd (S S':St) (co:Bool) (v:AV):Prop:=co=true→∀id∈v.aRq,S'[id]? =S[id]?
def bGx (S S':St) (co:Bool) (vs:List AV):Prop:=co=true→∀id∈AV.aBY vs,S'[id]? =S[id]?
mutual
theorem aXD (hl:∀id∈ids,S'[id]? =S[id]?) (m:Nat) (co:Bool):∀(s:Sh) (v:AV),bJd S S' co v→Sh.under ids.length s=true→eF S' m co (Sh.yD ids s) v=eF S m co (Sh.yD ids s) v
 | .d l,v,hc,_=>by
   cases v with
   |sw i u=>
    simp only[Sh.yD,eF]
    cases co with
    |false=>rfl
    |true=>rw[aUf _ (hc rfl)]
   |agg vs=>
    simp only[Sh.yD,eF]
    cases co with
    |false=>rfl
    |true=>rw[aUf _ (hc rfl)]
   |_=>simp[Sh.yD,eF]
 | .ptr i o,v,_,_=>by cases v<;>simp[Sh.yD,eF]
 | .whole i,v,_,h=>by
   cases v with
   |whole i' bO=>
    simp only[Sh.yD,eF]
    have hi:i<ids.length:=by simpa[Sh.under]using h
    by_cases e:i'=ids.getD i 0
    ·rw[e,hl _ (aKb hi)]
    ·have hb:Nat.beq (ids.getD i 0) i'=false:=by
      cases hq:Nat.beq (ids.getD i 0) i' with
      |false=>rfl
      |true=>exact absurd (Nat.eq_of_beq_eq_true hq).symm e
     simp only[hb,Bool.false_and]
     split<;>split<;>rfl
   |_=>simp[Sh.yD,eF]
 | .sw i,v,_,h=>by
   cases v with
   |sw i' bO=>
    simp only[Sh.yD,eF]
    have hi:i<ids.length:=by simpa[Sh.under]using h
    by_cases e:i'=ids.getD i 0
    ·rw[e,hl _ (aKb hi)]
    ·have hb:Nat.beq (ids.getD i 0) i'=false:=by
      cases hq:Nat.beq (ids.getD i 0) i' with
      |false=>rfl
      |true=>exact absurd (Nat.eq_of_beq_eq_true hq).symm e
     simp only[hb,Bool.false_and]
     split<;>split<;>rfl
   |_=>simp[Sh.yD,eF]
 | .fn f cs,v,hc,h=>by
   cases v with
   |fn f' vs=>
    simp only[Sh.yD,eF]
    rw[aDv hl m co cs vs (fun hq id hi=>hc hq id (by simpa[AV.aRq]using hi)) (by simpa[Sh.under]using h)]
   |_=>simp[Sh.yD,eF]
 | .agg cs,v,hc,h=>by
   cases v with
   |agg vs=>
    simp only[Sh.yD,eF]
    rw[aDv hl m co cs vs (fun hq id hi=>hc hq id (by simpa[AV.aRq]using hi)) (by simpa[Sh.under]using h)]
   |d l row=>
    simp only[Sh.yD,eF]
    rw[aDv hl m co cs (cellsOf l.ks row 0) (fun hq id hi=>by rw[aOR]at hi;cases hi) (by simpa[Sh.under]using h)]
   |_=>simp[Sh.yD,eF]
 | .map i,v,_,_=>by cases v<;>simp[Sh.yD,eF]
 | .aTo i,v,_,_=>by cases v<;>simp[Sh.yD,eF]
 | .vE i,v,_,_=>by cases v<;>simp[Sh.yD,eF]
 | .zL i,v,_,h=>by
   cases v with
   |zL i' bO idx off=>
    simp only[Sh.yD,eF]
    have hi:i<ids.length:=by simpa[Sh.under]using h
    by_cases e:i'=ids.getD i 0
    ·rw[e,hl _ (aKb hi)]
    ·have hb:Nat.beq (ids.getD i 0) i'=false:=by
      cases hq:Nat.beq (ids.getD i 0) i' with
      |false=>rfl
      |true=>exact absurd (Nat.eq_of_beq_eq_true hq).symm e
     simp only[hb,Bool.false_and]
     split<;>split<;>rfl
   |_=>simp[Sh.yD,eF]
theorem aDv (hl:∀id∈ids,S'[id]? =S[id]?) (m:Nat) (co:Bool):∀(ss:List Sh) (vs:List AV),bGx S S' co vs→Sh.aFl ids.length ss=true→pW S' m co (Sh.s6 ids ss) vs=pW S m co (Sh.s6 ids ss) vs
 |[],[],_,_=>rfl
 |[],_::_,_,_=>rfl
 |_::_,[],_,_=>rfl
 |s::ss,v::vs,hc,h=>by
  simp only[Sh.aFl,Bool.and_eq_true]at h
  simp only[Sh.s6,pW]
  rw[aXD hl m co s v (fun hq id hi=>hc hq id (by simp only[AV.aBY,List.mem_append];exact .inl hi)) h.1,aDv hl m co ss vs (fun hq id hi=>hc hq id (by simp only[AV.aBY,List.mem_append];exact .inr hi)) h.2]
end
theorem a5a (hl:∀id∈ids,S'[id]? =S[id]?) (m:Nat) (s:rN) (o:Obj) (h:rN.under ids.length s=true):nZ S' m (s.yD ids) o=nZ S m (s.yD ids) o:=by
 cases s with
 |cells c vs=>
  have:=fun yL=>aDv hl m false vs yL (fun hq=>by cases hq) (by simpa[rN.under]using h)
  cases o<;>simp only[rN.yD,nZ,this]
  all_goals cases vs<;>simp[Sh.s6,nZ]
 |vE l s=>
  have:=fun av=>aXD hl m false s av (fun hq=>by cases hq) (by simpa[rN.under]using h)
  cases o<;>simp only[rN.yD,nZ,this]
 |_=>cases o<;>simp[rN.yD,nZ]
theorem aU0 (hl:∀id∈ids,S'[id]? =S[id]?) (hlen:S'.length=S.length):∀(is:List Nat) (ss:List rN),(∀i∈is,i∈ids)→ss.all (rN.under ids.length)=true→aIM S' ids is ss=aIM S ids is ss
 |[],[],_,_=>rfl
 |[],_::_,_,_=>rfl
 |_::_,[],_,_=>rfl
 |i::is,s::ss,hi,h=>by
  simp only[List.all_cons,Bool.and_eq_true]at h
  simp only[aIM]
  rw[hl i (hi i (by simp)),aU0 hl hlen is ss (fun j hj=>hi j (by simp[hj])) h.2,hlen]
  split
  ·rw[a5a hl S.length s _ h.1]
  ·rfl
theorem aU1 {n:Nat}:∀(ss:List (Nat×Sh)),(ss.all fun p=>Sh.under n p.2)=true→Sh.aFl n (ss.map (·.2))=true
 |[],_=>rfl
 |p::ss,h=>by
  simp only[List.all_cons,Bool.and_eq_true]at h
  simp only[List.map_cons,Sh.aFl,h.1,aU1 ss h.2,Bool.and_self]
theorem a5b (hl:∀id∈ids,S'[id]? =S[id]?) (hlen:S'.length=S.length) (en:Shape) (vs:List AV) (hc:∀id∈AV.aBY vs,S'[id]? =S[id]?) (h:Shape.under ids.length en=true):aUx S' ids en vs=aUx S ids en vs:=by
 simp only[Shape.under,Bool.and_eq_true]at h
 unfold aUx
 rw[hlen,aDv hl S.length true _ vs (fun _=>hc) (aU1 _ h.1),aU0 hl hlen ids en.objs (fun i hi=>hi) h.2]
theorem aSW:∀(is:List Nat),(∀i∈is,S'[i]? =S[i]?)→aId S' is=aId S is
 |[],_=>rfl
 |i::is,h=>by simp only[aId];rw[h i (by simp),aSW is (fun j hj=>h j (by simp[hj]))]
end
theorem aQs:∀(a b:List AV),AV.aBY (a++b)=AV.aBY a++AV.aBY b
 |[],_=>rfl
 |v::a,b=>by simp[AV.aBY,aQs a b]
theorem aRJ (F:Fr):∀(xs:List rD),AV.aBY (xs.map (·.ev F))=xs.flatMap fun x=>(x.ev F).aRq
 |[]=>rfl
 |x::xs=>by simp[AV.aBY,aRJ F xs]
theorem aWm {F:Fr} {f:Nat} {x:Option rD} {args:List rD} {k:List AV→Option A} {r:A} (h:vM F f x args k=some r):∃vs,k vs=some r∧(∀id∈AV.aBY vs,id∈(aTp x++args).flatMap fun x=>(x.ev F).aRq)∧∀{B:Type} (k':List AV→Option B),vM F f x args k'=k' vs:=by
 unfold vM at h
 split at h
 ·exact ⟨_,h,fun id hi=>by rw[aRJ]at hi;simpa[aTp]using hi,fun k'=>rfl⟩
 ·split at h
  ·rename_i e
   obtain ⟨hb,h⟩:=lA h
   refine ⟨_,h,fun id hi=> ?_,fun k'=>by simp[vM,e,hb,check]⟩
   rw[aQs,aRJ]at hi
   simp only[aTp,List.singleton_append,List.flatMap_cons,List.mem_append,e,AV.aRq]
   rcases List.mem_append.1 hi with hi |hi
   ·exact .inr hi
   ·exact .inl hi
  ·simp at h
theorem aXE {S S':St} {all lC:List Nat}:∀(is vs:List Nat) (os:List Obj),(∀id∈is,S'[id]? =S[id]?)→aDh S' (sN all lC is vs os)=aDh S (sN all lC is vs os)
 |[],_,_,_=>by simp[sN,aDh]
 |i::is,[],_,_=>by simp[sN,aDh]
 |i::is,v::vs,[],_=>by simp[sN,aDh]
 |i::is,v::vs,o::os,h=>by
  have ih:=aXE (all:=all) (lC:=lC) is vs os (fun id hid=>h id (by simp[hid]))
  simp only[sN,aDh,aOG,h i (by simp),ih]
theorem a3Q {S S':St} {op:jP} {base:Nat} {v:AV} {us:List (Nat×Obj)} {rd:List Nat} (h:op1 E F S op base=some (v,us,rd)) (hl:S'.length=S.length) (hr:∀id∈rd,S'[id]? =S[id]?):op1 E F S' op base=some (v,us,rd):=by
 unfold op1 at h⊢
 by_cases hc:∃i f en ex ids new x args,op= .aBZ i f en ex ids new x args
 ·obtain ⟨i,f,en,ex,ids,new,x,args,rfl⟩:=hc
  simp only[opK]at h⊢
  obtain ⟨vs,h1,a9U,h2⟩:=aWm h
  rw[h2]
  obtain ⟨hck,h3⟩:=lA h1
  obtain ⟨ps,e1,h4⟩:=Option.bind_eq_some_iff.1 h3
  obtain ⟨ps',e2,h5⟩:=Option.bind_eq_some_iff.1 h4
  simp only[Option.some.injEq,Prod.mk.injEq]at h5
  have hall:∀id∈ids++xE (base+new) (ex.objs.length - ids.length),S'[id]? =S[id]? :=fun id hid=>hr id (by rw[←h5.2.2];exact List.mem_append_left _ hid)
  have bGy:∀id∈AV.aBY vs,S'[id]? =S[id]? :=fun id hid=>hr id (by rw[←h5.2.2];exact List.mem_append_right _ (a9U id hid))
  simp only[Bool.and_eq_true]at hck
  rw[a5b (fun id hid=>hall id (List.mem_append_left _ hid)) hl en vs bGy hck.1.1.1.1.1,aSW _ (fun id hid=>hall id (List.mem_append_right _ hid))]
  have hv:(ids++xE (base+new) (ex.objs.length - ids.length)).map (aMC S')=(ids++xE (base+new) (ex.objs.length - ids.length)).map (aMC S):=
   List.map_congr_left fun id hid=>by simp only[aMC,hall id hid]
  rw[hv]
  have hk:∀os,aDh S' (sN (ids++xE (base+new) (ex.objs.length - ids.length)) ((ids++xE (base+new) (ex.objs.length - ids.length)).map (aMC S)) (ids++xE (base+new) (ex.objs.length - ids.length)) ((ids++xE (base+new) (ex.objs.length - ids.length)).map (aMC S)) os)=aDh S (sN (ids++xE (base+new) (ex.objs.length - ids.length)) ((ids++xE (base+new) (ex.objs.length - ids.length)).map (aMC S)) (ids++xE (base+new) (ex.objs.length - ids.length)) ((ids++xE (base+new) (ex.objs.length - ids.length)).map (aMC S)) os):=
   fun os=>aXE _ _ os hall
  simp only[hk]
  exact h1
 ·have h1:∀i f en ex ids new x args,op≠ .aBZ i f en ex ids new x args:=fun i f en ex ids new x args e=>hc ⟨i,f,en,ex,ids,new,x,args,e⟩
  rw[aDu h1]at h⊢
  have hsame:(∀id∈aIe F op,S'[id]? =S[id]?)→∀(ob:Obj) {B:Type} (k:AV→Option Obj→Option B),rG E F S' ob op base k=rG E F S ob op base k:=fun hq ob B k=>
   aRH ob op base k (fun x hx=>a68 fun id hid=>hq id (by simp only[aIe,List.mem_flatMap];exact ⟨x,hx,hid⟩))
  split at h
  ·have:rd=aIe F op:=by
    rw[aD5]at h
    obtain ⟨q,e1,e2⟩:=Option.bind_eq_some_iff.1 h
    simp only[Option.some.injEq,Prod.mk.injEq]at e2
    exact e2.2.2.symm
   rw[hsame (fun id hid=>hr id (by rw[this];exact hid))];exact h
  ·rename_i id ht
   have:rd=id::aIe F op:=by
    unfold aHa at h
    split at h
    ·dsimp only at h
     rw[aD5]at h
     obtain ⟨q,e1,e2⟩:=Option.bind_eq_some_iff.1 h
     simp only[Option.some.injEq,Prod.mk.injEq]at e2
     exact e2.2.2.symm
    ·simp at h
   unfold aHa at h⊢
   rw[hr id (by rw[this];simp)]
   have hq:=hsame (fun i hi=>hr i (by rw[this];exact List.mem_cons_of_mem _ hi))
   simp only[hq];exact h
end Go.Ev
