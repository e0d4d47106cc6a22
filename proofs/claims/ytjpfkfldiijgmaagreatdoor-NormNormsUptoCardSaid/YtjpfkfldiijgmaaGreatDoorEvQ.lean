/-
  The evaluator in continuation-passing form: what goes on behind an operation is nothing but what goes on with its result.
-/
import Derived.Test.YtjpfkfldiijgmaaGreatDoorEvMm
import Derived.Test.YtjpfkfldiijgmaaGreatDoorEvOb
set_option linter.all false
set_option maxRecDepth 100000
namespace Go.Ev
variable {A B:Type} {E:Env} {F:Fr} {S:St}
theorem jV (v:AV) (k:IntKind→Int→Option A) (f:A→Option B):(asI v k).bind f=asI v fun a b=>(k a b).bind f:=by unfold asI;split<;>rfl
theorem aAH (v:AV) (k:Bool→Option A) (f:A→Option B):(asB v k).bind f=asB v fun a=>(k a).bind f:=by unfold asB;split<;>rfl
theorem aAI (v:AV) (k:List UInt8→Option A) (f:A→Option B):(asS v k).bind f=asS v fun a=>(k a).bind f:=by unfold asS;split<;>rfl
theorem yT (v:AV) (k:TypeId→C→Option A) (f:A→Option B):(a2m v k).bind f=a2m v fun a b=>(k a b).bind f:=by unfold a2m;split<;>rfl
theorem yP (v:AV) (k:L→Row→Option A) (f:A→Option B):(asD v k).bind f=asD v fun a b=>(k a b).bind f:=by unfold asD;split<;>rfl
theorem kC (b:Bool) (k:Option A) (f:A→Option B):(check b k).bind f=check b (k.bind f):=by unfold check;split<;>rfl
theorem iY (c:Prop) [Decidable c] (k:Option A) (f:A→Option B):(if c then k else none).bind f=if c then k.bind f else none:=by split<;>rfl
theorem nQ (c:Prop) [Decidable c] (k k':Option A) (f:A→Option B):(if c then k else k').bind f=if c then k.bind f else k'.bind f:=by split<;>rfl
theorem zT (c:Prop) [Decidable c] (k':Option A) (f:A→Option B):(if c then none else k').bind f=if c then none else k'.bind f:=by split<;>rfl
theorem aI (o:Obj) (v:Nat) (k:L→C→Option A) (f:A→Option B):(eV o v k).bind f=eV o v fun a b=>(k a b).bind f:=by unfold eV;split<;>first |exact kC _ _ _ |rfl
theorem dI (o:Obj) (k:Option A) (f:A→Option B):(oD o k).bind f=oD o (k.bind f):=by unfold oD;split<;>rfl
theorem uO (o:Obj) (k:L→L→List (Row×Row)→Option A) (f:A→Option B):(aUF o k).bind f=aUF o fun a b c=>(k a b c).bind f:=by unfold aUF;split<;>rfl
theorem aU (l l':L) (off:Nat) (r:Row) (k:Row→Option A) (f:A→Option B):(part l l' off r k).bind f=part l l' off r fun a=>(k a).bind f:=by
 unfold part;split<;>first |exact kC _ _ _ |rfl
theorem bU (l l':L) (off:Nat) (r row:Row) (k:Row→Option A) (f:A→Option B):(aFz l l' off r row k).bind f=aFz l l' off r row fun a=>(k a).bind f:=by
 unfold aFz;split<;>first |exact kC _ _ _ |rfl
theorem vO (op:BinOp) (kd:IntKind) (a b:Int) (k:Int→Option A) (f:A→Option B):(arith op kd a b k).bind f=arith op kd a b fun n=>(k n).bind f:=by unfold arith;split<;>rfl
theorem wO (op:BinOp) (a b:Int) (k:Bool→Option A) (f:A→Option B):(aXj op a b k).bind f=aXj op a b fun n=>(k n).bind f:=by unfold aXj;split<;>rfl
theorem xO (op:BinOp) (a b:List UInt8) (k:Bool→Option A) (f:A→Option B):(aXk op a b k).bind f=aXk op a b fun n=>(k n).bind f:=by unfold aXk;split<;>rfl
theorem aAJ (x:Option kD) (d:Int) (k:Int→Option A) (f:A→Option B):(bnd F S x d k).bind f=bnd F S x d fun n=>(k n).bind f:=by unfold bnd;split<;>first |exact jV _ _ _ |rfl
theorem yI (c:C) (k:List Row→Option A) (f:A→Option B):(aNf c k).bind f=aNf c fun a=>(k a).bind f:=by unfold aNf;split<;>rfl
theorem tK (o:Obj) (k:L→C→Nat→AV→Option A) (f:A→Option B):(aQa o k).bind f=aQa o fun a b c d=>(k a b c d).bind f:=by unfold aQa;split<;>rfl
theorem yO (o:Obj) (k:Option A) (f:A→Option B):(aP9 o k).bind f=aP9 o (k.bind f):=by unfold aP9;split<;>rfl
theorem wL (o:Obj) (v:Nat) (k:TypeId→L→C→Option A) (f:A→Option B):(aPf o v k).bind f=aPf o v fun a b c=>(k a b c).bind f:=by unfold aPf;split<;>first |exact kC _ _ _ |rfl
theorem zI (n:Int) (f:A→Option B):∀(i m:Nat) (k:Nat→Option A),(aNe n i m k).bind f=aNe n i m fun j=>(k j).bind f
 |_,0,_=>rfl
 |i,m+1,k=>by simp only[aNe,nQ,zI n f (i+1) m]
theorem zM (f:A→Option B):∀(ps:List (Nat×Nat×kD)) (z:List AV) (k:List AV→Option A),(aOR F ps z k).bind f=aOR F ps z fun n=>(k n).bind f
 |[],_,_=>rfl
 |(off,m,x)::r,z,k=>by
  simp only[aOR]
  split
  ·rw[kC,zM f r]
  ·rfl
theorem aJ (mx:Bool) (kd:IntKind) (f:A→Option B):∀(xs:List kD) (m:Int) (k:Int→Option A),(aIX F S mx kd xs m k).bind f=aIX F S mx kd xs m fun n=>(k n).bind f
 |[],_,_=>rfl
 |x::xs,m,k=>by simp only[aIX,jV,kC,aJ mx kd f xs]
theorem iH (f:A→Option B):∀(ls:List L) (xs:List kD) (k:List Row→Option A),(rowsOf F S ls xs k).bind f=rowsOf F S ls xs fun n=>(k n).bind f
 |[],[],_=>rfl
 |[],_::_,_=>rfl
 |_::_,[],_=>rfl
 |l::ls,x::xs,k=>by simp only[rowsOf,yP,kC,iH f ls xs]
theorem yD (ks:List K) (f:A→Option B):∀(ps:List (Nat×Nat×kD)) (z:Row) (k:Row→Option A),(nU F S ks ps z k).bind f=nU F S ks ps z fun n=>(k n).bind f
 |[],_,_=>rfl
 |(off,m,x)::r,z,k=>by simp only[nU,yP,kC,yD ks f r]
theorem dF (l:L) (f:A→Option B):∀(ps:List (Nat×kD)) (z:List Row) (k:List Row→Option A),(vT F S l ps z k).bind f=vT F S l ps z fun n=>(k n).bind f
 |[],_,_=>rfl
 |(i,x)::r,z,k=>by simp only[vT,yP,kC,dF l f r]
theorem oG (f:A→Option B):∀(ks:List K) (xs:List kD) (k:Row→Option A),(aAE F S ks xs k).bind f=aAE F S ks xs fun n=>(k n).bind f
 |[],[],_=>rfl
 |[],_::_,_=>rfl
 |_::_,[],_=>rfl
 |l::ls,x::xs,k=>by simp only[aAE,yP,kC,oG f ls xs]
theorem aEk (o:Obj) (op:oP) (base:Nat) (k:AV→Option Obj→Option A):rG E F S o op base k=(rG E F S o op base cB).bind fun x=>k x.1 x.2:=by
 cases op<;>simp only[rG]
 case mov=>rfl
 all_goals simp only[jV,aAH,aAI,yT,yP,kC,iY,zT,aI,yI,yO,tK,wL,zI,zM,dI,uO,aU,bU,vO,wO,xO,aAJ,aJ,iH,yD,dF,oG,Option.bind_assoc,cB,Option.bind_some,Option.bind_none,nQ]
 all_goals try rfl
 case idiv bo x y=>cases bo<;>rfl
 case shf bo x y=>cases bo<;>rfl
 all_goals first
  |(split<;>simp only[jV,aAH,aAI,yT,yP,kC,iY,zT,aI,yI,yO,tK,wL,zI,zM,dI,uO,aU,bU,vO,wO,xO,aAJ,aJ,iH,yD,dF,oG,Option.bind_assoc,cB,Option.bind_some,Option.bind_none,nQ]<;>done)
  |(split<;>simp only[jV,aAH,aAI,yT,yP,kC,iY,zT,aI,yI,yO,tK,wL,zI,zM,dI,uO,aU,bU,vO,wO,xO,aAJ,aJ,iH,yD,dF,oG,Option.bind_assoc,cB,Option.bind_some,Option.bind_none,nQ]<;>rfl)
  |(split<;>first |rfl |(simp only[jV,aAH,aAI,yT,yP,kC,iY,zT,aI,yI,yO,tK,wL,zI,zM,dI,uO,aU,bU,vO,wO,xO,aAJ,aJ,iH,yD,dF,oG,Option.bind_assoc,cB,Option.bind_some,Option.bind_none,nQ]<;>done)|(simp only[jV,aAH,aAI,yT,yP,kC,iY,zT,aI,yI,yO,tK,wL,zI,zM,dI,uO,aU,bU,vO,wO,xO,aAJ,aJ,iH,yD,dF,oG,Option.bind_assoc,cB,Option.bind_some,Option.bind_none,nQ];rfl)|(split<;>first |rfl |(simp only[jV,aAH,aAI,yT,yP,kC,iY,zT,aI,yI,yO,tK,wL,zI,zM,dI,uO,aU,bU,vO,wO,xO,aAJ,aJ,iH,yD,dF,oG,Option.bind_assoc,cB,Option.bind_some,Option.bind_none,nQ]<;>done)|(simp only[jV,aAH,aAI,yT,yP,kC,iY,zT,aI,yI,yO,tK,wL,zI,zM,dI,uO,aU,bU,vO,wO,xO,aAJ,aJ,iH,yD,dF,oG,Option.bind_assoc,cB,Option.bind_some,Option.bind_none,nQ];rfl)|(split<;>first |rfl |(simp only[jV,aAH,aAI,yT,yP,kC,iY,zT,aI,yI,yO,tK,wL,zI,zM,dI,uO,aU,bU,vO,wO,xO,aAJ,aJ,iH,yD,dF,oG,Option.bind_assoc,cB,Option.bind_some,Option.bind_none,nQ]<;>done))))
  |skip
 case slc e l x lo hi=>
  split
  ·simp only[jV,aAH,aAI,yT,yP,kC,iY,zT,aI,yI,yO,tK,wL,zI,zM,dI,uO,aU,bU,vO,wO,xO,aAJ,aJ,iH,yD,dF,oG,Option.bind_assoc,cB,Option.bind_some,Option.bind_none,nQ]
  ·simp only[jV,aAH,aAI,yT,yP,kC,iY,zT,aI,yI,yO,tK,wL,zI,zM,dI,uO,aU,bU,vO,wO,xO,aAJ,aJ,iH,yD,dF,oG,Option.bind_assoc,cB,Option.bind_some,Option.bind_none,nQ]
   unfold eV check
   split
   ·split
    ·dsimp only
     split
     ·split
      ·simp only[jV,aAH,aAI,yT,yP,kC,iY,zT,aI,yI,yO,tK,wL,zI,zM,dI,uO,aU,bU,vO,wO,xO,aAJ,aJ,iH,yD,dF,oG,Option.bind_assoc,cB,Option.bind_some,Option.bind_none,nQ]
      ·rfl
     ·rfl
    ·rfl
   ·rfl
  ·simp only[jV,aAH,aAI,yT,yP,kC,iY,zT,aI,yI,yO,tK,wL,zI,zM,dI,uO,aU,bU,vO,wO,xO,aAJ,aJ,iH,yD,dF,oG,Option.bind_assoc,cB,Option.bind_some,Option.bind_none,nQ]
  ·rfl
end Go.Ev
namespace Go.Ev
variable {E:Env} {P:Program} {T:Nat→yF} {S S':xA} {pl sD:Pl} {St aD:Ev.St} {F:Fr} {a:Act} {w w':World}
def op1 (E:Env) (F:Fr) (S:Ev.St) (op:oP) (base:Nat):Option (AV×List (Nat×Obj)×List Nat):=opK E F S op base fun v us rd=>some (v,us,rd)
theorem a7h {A B:Type} (S:Ev.St) (id:Nat) (k:Obj→Option A) (f:A→Option B):(aHo S id k).bind f=aHo S id fun o=>(k o).bind f:=by unfold aHo;split<;>rfl
def a7i (id:Nat) (no:Option Obj):List (Nat×Obj):=match no with |some o'=>[(id,o')]|none=>[]
theorem aDJ {A:Type} {F:Fr} {S:Ev.St} {op:oP} {base:Nat} {k:AV→List (Nat×Obj)→List Nat→Option A} (h1:∀i f en ex ids new x args,op≠ .aCd i f en ex ids new x args):
 opK E F S op base k=match tgt F op base with
  |none=>rG E F S .dead op base fun v _=>k v [] (aIr F op)
  |some id=>aHo S id fun o=>rG E F S o op base fun v no=>k v (a7i id no) (id::aIr F op):=by
 unfold opK
 split
 ·exact absurd rfl (h1 _ _ _ _ _ _ _ _)
 ·cases tgt F op base<;>rfl
theorem aY3 {A B:Type} (F:Fr) (f:Nat) (x:Option kD) (args:List kD) (k:List AV→Option A) (g:A→Option B):(dN F f x args k).bind g=dN F f x args fun vs=>(k vs).bind g:=by
 unfold dN
 split
 ·rfl
 ·split
  ·exact kC _ _ _
  ·rfl
theorem aY4 {A:Type} (F:Fr) (S:Ev.St) (op:oP) (base:Nat) (k:AV→List (Nat×Obj)→List Nat→Option A):opK E F S op base k=(op1 E F S op base).bind fun x=>k x.1 x.2.1 x.2.2:=by
 unfold op1
 by_cases h:∃i f en ex ids new x args,op= .aCd i f en ex ids new x args
 ·obtain ⟨i,f,en,ex,ids,new,x,args,rfl⟩:=h
  simp only[opK,aY3,kC,Option.bind_assoc]
  congr 1
 ·have h1:∀i f en ex ids new x args,op≠ .aCd i f en ex ids new x args:=fun i f en ex ids new x args e=>h ⟨i,f,en,ex,ids,new,x,args,e⟩
  rw[aDJ h1,aDJ h1]
  split
  ·rw[aEk]
   conv=>rhs;rw[aEk,Option.bind_assoc]
   rfl
  ·rw[a7h]
   congr 1;funext o
   rw[aEk]
   conv=>rhs;rw[aEk,Option.bind_assoc]
   rfl
structure Ctx where
 bGE:Nat→Prop
 S0:xA
 w0:World
 n:Nat
 m:Nat
 R0:AV→Value→Prop
 hR0:∀av v,R0 av v→∃id,id<m∧(av= .map id∨av= .tE id∨∃off,av= .ptr id off)
structure Inv (P:Program) (T:Nat→yF) (Γ:Ctx) (S:xA) (pl:Pl) (St:Ev.St) (F:Fr) (a:Act) (w:World):Prop where
 jO:vW P T S pl St w
 frame:eY P T S pl St F a.tmps
 size:a.tmps.size=Γ.n
 defers:a.defers=[]
 grow:Grow Γ.bGE Γ.S0 Γ.w0 S w
 zZ:∀b,wW pl St b→Γ.bGE b∨Γ.w0.heap.size≤b
 kept:∀av v,Γ.R0 av v→iB P T S pl St av v
def a0H (n:Nat):Option Nat→Bool |none=>true |some d=>Nat.blt d n
variable {Γ:Ctx} {n:Nat}
theorem Fr.aE6 (F:Fr) (d:Nat) (v:AV) (t:Nat):Fr.get ((d,v)::F) t=if d=t then v else Fr.get F t:=by
 simp only[Fr.get]
 split
 ·rename_i h;rw[if_pos (Nat.eq_of_beq_eq_true h)]
 ·rename_i h
  rw[if_neg]
  intro e;subst e;simp at h
theorem eY.put {d:Option Nat} {av:AV} {v:Value} (hF:eY P T S pl St F a.tmps) (hd:a0H a.tmps.size d=true) (hv:iB P T S pl St av v):eY P T S pl St (F.put d av) (a.put d v).tmps:=by
 cases d with
 |none=>exact hF
 |some d=>
  have hlt:d<a.tmps.size:=by simpa[a0H]using hd
  intro t
  show iB P T S pl St (Fr.get ((d,av)::F) t) ((a.tmps.setIfInBounds d v).getD t undef)
  rw[Fr.aE6]
  by_cases h:d=t
  ·subst h
   rw[if_pos rfl]
   have:(a.tmps.setIfInBounds d v).getD d undef=v:=by simp[hlt]
   rw[this];exact hv
  ·rw[if_neg h]
   have:(a.tmps.setIfInBounds d v).getD t undef=a.tmps.getD t undef:=by
    simp[Array.getElem?_setIfInBounds,h]
   rw[this];exact hF t
theorem Act.a0I (a:Act) (d:Option Nat) (v:Value):(a.put d v).tmps.size=a.tmps.size:=by cases d<;>simp[Act.put]
theorem Act.put_defers (a:Act) (d:Option Nat) (v:Value):(a.put d v).defers=a.defers:=by cases d<;>rfl
theorem Inv.step {d:Option Nat} {av:AV} {v:Value} (h:Inv P T Γ S pl St F a w) (hd:a0H Γ.n d=true) (hp:bB P T S pl St w aD av v w'):
 ∃S' sD,Inv P T Γ S' sD aD (F.put d av) (a.put d v) w':=by
 obtain ⟨S',sD,hs,hg,hv,hk,ho⟩:=hp
 have hF':eY P T S' sD aD F a.tmps:=fun t=>hk _ _ (h.frame t)
 refine ⟨S',sD,hs,hF'.put (by rw[h.size];exact hd) hv,by rw[Act.a0I];exact h.size,by rw[Act.put_defers];exact h.defers,h.grow.trans hg (fun b hb hb'=>(h.zZ b hb').resolve_right (by omega)),fun b hb=> ?_,fun av v hr=>hk _ _ (h.kept av v hr)⟩
 rcases ho b hb with hb |hb
 ·exact h.zZ b hb
 ·exact .inr (Nat.le_trans h.grow.size hb)
theorem Inv.skip {d:Option Nat} (h:Inv P T Γ S pl St F a w) (hd:a0H Γ.n d=true):Inv P T Γ S pl St (F.put d .und) (a.put d undef) w:=
 ⟨h.jO,h.frame.put (by rw[h.size];exact hd) .und,by rw[Act.a0I];exact h.size,by rw[Act.put_defers];exact h.defers,h.grow,h.zZ,h.kept⟩
theorem Inv.narrow {t:Nat} {r:Row} {b:Bool} (h:Inv P T Γ S pl St F a w) (hr:F.get t= .d (.one .bool) r) (hb:(at_ r 0).wJ=b):Inv P T Γ S pl St ((t,vB b)::F) a w:=by
 refine ⟨h.jO,fun t'=> ?_,h.size,h.defers,h.grow,h.zZ,h.kept⟩
 rw[Fr.aE6]
 by_cases e:t=t'
 ·subst e
  rw[if_pos rfl]
  have:=h.frame t
  rw[hr]at this
  rw[this.of_bool,hb];exact aWi b
 ·rw[if_neg e];exact h.frame t'
theorem a30 {ao:oP} {base:Nat} {av:AV} {us:List (Nat×Obj)} {rd:List Nat} {o:Oper} (hI:Inv P T Γ S pl St F a w) (hpc:aQt P T E) (hok:fG P T o.op ao=true)
 (h:op1 E F St ao base=some (av,us,rd)):aE P o a w (bB P T S pl St w (zF us St) av):=by
 by_cases hic:∃i f en ex ids new x args,ao= .aCd i f en ex ids new x args
 ·obtain ⟨i,f,en,ex,ids,new,x,args,rfl⟩:=hic
  exact a98 hI.jO hI.frame hpc.ic hok h
 have h1:∀i f en ex ids new x args,ao≠ .aCd i f en ex ids new x args:=fun i f en ex ids new x args e=>hic ⟨i,f,en,ex,ids,new,x,args,e⟩
 unfold op1 at h
 rw[aDJ h1]at h
 split at h
 ·rename_i ht
  rw[aEk]at h
  obtain ⟨⟨av',no⟩,e1,e2⟩:=Option.bind_eq_some_iff.1 h
  simp only[Option.some.injEq,Prod.mk.injEq]at e2
  obtain ⟨rfl,rfl,rfl⟩:=e2
  have:=a0A hI.jO hI.frame hpc.pc hok (fun j hj=>by rw[ht]at hj;cases hj) e1
  rw[ht]at this
  cases no<;>exact this
 ·rename_i id ht
  unfold aHo at h
  split at h
  ·rename_i ob oB
   dsimp only at h
   rw[aEk]at h
   obtain ⟨⟨av',no⟩,e1,e2⟩:=Option.bind_eq_some_iff.1 h
   simp only[Option.some.injEq,Prod.mk.injEq]at e2
   obtain ⟨rfl,rfl,rfl⟩:=e2
   have:=a0A hI.jO hI.frame hpc.pc hok (fun j hj=>by rw[ht]at hj;cases hj;exact oB) e1
   rw[ht]at this
   cases no<;>exact this
  ·simp at h
def a99:Option Nat→Option Nat→Bool |none,none=>true |some a,some b=>Nat.beq a b |_,_=>false
theorem aY5 {a b:Option Nat} (h:a99 a b=true):a=b:=by
 cases a<;>cases b<;>simp[a99]at h
 ·rfl
 ·rw[h]
def a2L (ops:Array Oper):Option (Nat×Bool)→Option (Nat×Bool)→Bool
 |none,none=>true
 |some (g,b),some (t,b')=>(match b with |true=>b' |false=> !b')&&(match ops[g]? with |some o=>a99 o.dst (some t)|none=>false)
 |_,_=>false
def aU6 (P:Program) (T:Nat→yF) (n:Nat) (ops:Array Oper) (o:Oper) (ao:rK):Bool:=
 fG P T o.op ao.op&&a99 o.dst ao.dst&&a0H n ao.dst&&a2L ops o.guard ao.guard
def aHw (P:Program) (T:Nat→yF) (n:Nat) (ops:Array Oper):List Oper→List rK→Bool
 |[],[]=>true
 |o::os,ao::aos=>aU6 P T n ops o ao&&aHw P T n ops os aos
 |_,_=>false
theorem aQv {ops:Array Oper} {o:Oper} {ao:rK} {S:xA} {pl:Pl} {St:Ev.St} (hg:a2L ops o.guard ao.guard=true) (hF:eY P T S pl St F a.tmps):
 (ao.guard=none→Region.wanted o (yielded ops a.tmps)=true)∧
 (∀t b,ao.guard=some (t,b)→∀r,F.get t= .d (.one .bool) r→Region.wanted o (yielded ops a.tmps)=((at_ r 0).wJ==b))∧
 (∀t b,ao.guard=some (t,b)→F.get t= .und→Region.wanted o (yielded ops a.tmps)=false):=by
 unfold a2L at hg
 split at hg
 ·rename_i h1 h2
  refine ⟨fun _=>by simp[Region.wanted,h1],fun t b h=>(by rw[h2]at h;cases h),fun t b h=>(by rw[h2]at h;cases h)⟩
 ·rename_i g b t b' h1 h2
  simp only[Bool.and_eq_true]at hg
  obtain ⟨hb,hd⟩:=hg
  have hbb:b=b':=by cases b<;>simp_all
  subst hbb
  split at hd
  ·rename_i o2 ho2
   have aTB:=aY5 hd
   refine ⟨fun h=>(by rw[h2]at h;cases h),fun t' b' h r hr=> ?_,fun t' b' h hu=> ?_⟩
   ·rw[h2]at h;cases h
    have hv:=hF t
    rw[hr]at hv
    have hv:=hv.of_bool
    have hlt:t<a.tmps.size:=by
     rcases Nat.lt_or_ge t a.tmps.size with h |h
     ·exact h
     ·simp[h,undef]at hv
    have aM7:a.tmps[t]? =some (.bool (at_ r 0).wJ):=by
     rw[Array.getElem?_eq_getElem hlt]
     simp[hlt]at hv;rw[hv]
    simp[Region.wanted,h1,yielded,ho2,aTB,aM7]
   ·rw[h2]at h;cases h
    have hv:=hF t
    rw[hu]at hv
    generalize hq:a.tmps.getD t undef=q at hv
    cases hv
    have:∀b,a.tmps[t]? ≠some (.bool b):=fun b e=>by
     rw[Array.getD_eq_getD_getElem?,e]at hq
     simp[undef]at hq
    have hy:yielded ops a.tmps g=none:=by
     simp only[yielded,ho2,Option.bind_some,aTB]
    simp[Region.wanted,h1,hy]
  ·simp at hd
 ·simp at hg
theorem aRN {A:Type} {ops:Array Oper} {Q:Exit→Act→World→Prop} {base:Nat} {k:Fr→Ev.St→Option A} {res:A} (hpc:aQt P T E)
 (hQ:∀F St S pl a w,Inv P T Γ S pl St F a w→k F St=some res→Q .normal a w):
 ∀(os:List Oper) (aos:List rK) (i:Nat) (F:Fr) (St:Ev.St) (S:xA) (pl:Pl) (a:Act) (w:World),os=ops.toList.drop i→aHw P T Γ.n ops os aos=true→
  Inv P T Γ S pl St F a w→aIZ E false base aos [] F St k=some res→wpOps P ops Q (List.range' i os.length) a w
 |[],[],i,F,St,S,pl,a,w,_,_,hI,h=>hQ _ _ _ _ _ _ hI h
 |[],_::_,_,_,_,_,_,_,_,_,h,_,_=>by simp[aHw]at h
 |_::_,[],_,_,_,_,_,_,_,_,h,_,_=>by simp[aHw]at h
 |o::os,ao::aos,i,F,St,S,pl,a,w,hos,hok,hI,h=>by
  simp only[aHw,aU6,Bool.and_eq_true]at hok
  obtain ⟨⟨⟨⟨hop,aTB⟩,a7j⟩,hgd⟩,a33⟩:=hok
  have aTB:=aY5 aTB
  have hoi:ops[i]? =some o:=by
   have:(ops.toList.drop i)[0]? =some o:=by rw[←hos];rfl
   simpa using this
  have bGF:os=ops.toList.drop (i+1):=by
   have:=congrArg List.tail hos
   simpa using this
  simp only[List.length_cons,List.range'_succ,wpOps,hoi]
  obtain ⟨g1,g2,g3⟩:=aQv (ops:=ops) (o:=o) (ao:=ao) hgd hI.frame
  have hrun:∀F,Inv P T Γ S pl St F a w→opK E F St ao.op base (fun v us rd=>check (!false ||aCf (us.map (·.1),rd) ao.bef [] 0) (aIZ E false base aos [] (F.put ao.dst v) (zF us St) k))=some res→
   o.wp P a w (wpOps P ops Q (List.range' (i+1) os.length)) Q:=by
   intro F hI h
   rw[aY4]at h
   obtain ⟨⟨av,us,rd⟩,e1,e2⟩:=Option.bind_eq_some_iff.1 h
   obtain ⟨_,e2⟩:=mA e2
   refine a30 hI hpc hop e1 _ _ fun v w' hp=> ?_
   rw[aTB]
   obtain ⟨S',sD,hI'⟩:=hI.step a7j hp
   exact aRN hpc hQ os aos (i+1) _ _ _ _ _ _ bGF a33 hI' e2
  have a7k:∀F,Inv P T Γ S pl St F a w→aIZ E false base aos [] (F.put ao.dst .und) St k=some res→wpOps P ops Q (List.range' (i+1) os.length) (a.put o.dst undef) w:=by
   intro F hI h
   rw[aTB]
   exact aRN hpc hQ os aos (i+1) _ _ _ _ _ _ bGF a33 (hI.skip a7j) h
  simp only[aIZ]at h
  split at h
  ·rename_i hg
   rw[if_pos (g1 hg)]
   exact .inl (hrun F hI h)
  ·rename_i t b hg
   split at h
   ·rename_i e hr
    rw[g2 t b hg _ hr]
    have hat:(at_ [C.bool e] 0).wJ=e:=rfl
    rw[hat]
    split at h
    ·split at h
     ·rename_i hb
      rw[if_pos (by simp[hb])]
      exact .inl (hrun _ (hI.narrow hr hb) h)
     ·rename_i hb
      have hb:e=false:=by simpa using hb
      rw[if_neg (by simp[hb])]
      exact a7k _ (hI.narrow hr hb) h
    ·split at h
     ·rename_i hb
      rw[if_neg (by simp[hb])]
      exact a7k _ (hI.narrow hr hb) h
     ·rename_i hb
      have hb:e=false:=by simpa using hb
      rw[if_pos (by simp[hb])]
      exact .inl (hrun _ (hI.narrow hr hb) h)
   ·rename_i hu
    rw[if_neg (by simp[g3 t b hg hu])]
    exact a7k _ hI h
   ·simp at h
end Go.Ev
namespace Go.Ev
variable {A:Type} {E:Env} {F F':Fr}
variable {S S':St}
theorem aQx (mx:Bool) (kd:IntKind):∀(xs:List kD) (m:Int) (k:Int→Option A),(∀x∈xs,x.cN F S=x.cN F' S')→aIX F S mx kd xs m k=aIX F' S' mx kd xs m k
 |[],_,_,_=>rfl
 |x::xs,m,k,h=>by
  simp only[aIX,h x (by simp)]
  congr 1;funext k' n;congr 1
  exact aQx mx kd xs _ k (fun y hy=>h y (by simp[hy]))
theorem aLy:∀(ls:List L) (xs:List kD) (k:List Row→Option A),(∀x∈xs,x.cN F S=x.cN F' S')→rowsOf F S ls xs k=rowsOf F' S' ls xs k
 |[],[],_,_=>rfl
 |[],_::_,_,_=>rfl
 |_::_,[],_,_=>rfl
 |l::ls,x::xs,k,h=>by
  simp only[rowsOf,h x (by simp)]
  congr 1;funext k' n;congr 1
  exact aLy ls xs _ (fun y hy=>h y (by simp[hy]))
theorem aMP (ks:List K):∀(ps:List (Nat×Nat×kD)) (z:Row) (k:Row→Option A),(∀x∈ps.map (fun p=>p.2.2),x.cN F S=x.cN F' S')→nU F S ks ps z k=nU F' S' ks ps z k
 |[],_,_,_=>rfl
 |(off,m,x)::r,z,k,h=>by
  simp only[nU,h x (by simp)]
  congr 1;funext k' n;congr 1
  exact aMP ks r _ k (fun y hy=>h y (by simp only[List.map_cons,List.mem_cons];exact .inr hy))
theorem aCn (l:L):∀(ps:List (Nat×kD)) (z:List Row) (k:List Row→Option A),(∀x∈ps.map (fun p=>p.2),x.cN F S=x.cN F' S')→vT F S l ps z k=vT F' S' l ps z k
 |[],_,_,_=>rfl
 |(i,x)::r,z,k,h=>by
  simp only[vT,h x (by simp)]
  congr 1;funext k' n;congr 1
  exact aCn l r _ k (fun y hy=>h y (by simp only[List.map_cons,List.mem_cons];exact .inr hy))
theorem aOZ:∀(ks:List K) (xs:List kD) (k:Row→Option A),(∀x∈xs,x.cN F S=x.cN F' S')→aAE F S ks xs k=aAE F' S' ks xs k
 |[],[],_,_=>rfl
 |[],_::_,_,_=>rfl
 |_::_,[],_,_=>rfl
 |l::ls,x::xs,k,h=>by
  simp only[aAE,h x (by simp)]
  congr 1;funext k' n;congr 1
  exact aOZ ls xs _ (fun y hy=>h y (by simp[hy]))
theorem aOp (x:Option kD) (d:Int) (k:Int→Option A) (h:∀y∈aTx x,y.cN F S=y.cN F' S'):bnd F S x d k=bnd F' S' x d k:=by
 cases x with
 |none=>rfl
 |some x=>simp only[bnd,h x (by simp[aTx])]
def bD9 (F F':Fr) (S S':St) (x:kD):Prop:=x.ev F=x.ev F'∧x.cN F S=x.cN F' S'
theorem aS1:∀(ps:List (Nat×Nat×kD)) (z:List AV) (k:List AV→Option A),(∀x∈ps.map (fun p=>p.2.2),x.ev F=x.ev F')→aOR F ps z k=aOR F' ps z k
 |[],_,_,_=>rfl
 |(off,m,x)::r,z,k,h=>by
  simp only[aOR,h x (by simp)]
  split
  ·congr 1
   exact aS1 r _ k (fun y hy=>h y (by simp only[List.map_cons,List.mem_cons];exact .inr hy))
  ·rfl
theorem map_congr (xs:List kD) (h:∀x∈xs,x.ev F=x.ev F'):xs.map (·.ev F)=xs.map (·.ev F'):=List.map_congr_left h
theorem aRO (o:Obj) (op:oP) (base:Nat) (k:AV→Option Obj→Option A) (h:∀x∈aH8 op,bD9 F F' S S' x):rG E F S o op base k=rG E F' S' o op base k:=by
 have h1:∀x∈aH8 op,x.ev F=x.ev F':=fun x hx=>(h x hx).1
 have h2:∀x∈aH8 op,x.cN F S=x.cN F' S':=fun x hx=>(h x hx).2
 clear h
 cases op
 case imin mx xs=>
  cases xs with
  |nil=>rfl
  |cons x xs=>
   simp only[rG,h2 x (by simp[aH8])]
   congr 1;funext a b
   exact aQx mx a xs _ _ (fun y hy=>h2 y (by simp[aH8,hy]))
 case bld l z ps=>exact aMP _ ps _ _ h2
 case bsl e l n z ps=>exact aCn _ ps _ _ h2
 case bslS id e l n z ps=>
  simp only[rG]
  congr 1
  exact aCn _ ps _ _ h2
 case bslO id e l n z ps=>
  simp only[rG]
  congr 1
  exact aCn _ ps _ _ h2
 case bldA zs ps=>exact aS1 ps _ _ h1
 case call f ps rs xs=>exact aLy ps xs _ h2
 case callv t ps rs x xs=>
  simp only[rG,h1 x (by simp[aH8])]
  split
  ·congr 1;exact aLy ps xs _ (fun y hy=>h2 y (by simp[aH8,hy]))
  ·rfl
 case mkf f t ks cs=>exact aOZ ks cs _ h2
 case slc e l x lo hi=>
  have hlo:∀{B:Type} (d:Int) (k:Int→Option B),bnd F S lo d k=bnd F' S' lo d k:=fun d k=>aOp lo d k (fun y hy=>h2 y (by simp[aH8,hy]))
  have hhi:∀{B:Type} (d:Int) (k:Int→Option B),bnd F S hi d k=bnd F' S' hi d k:=fun d k=>aOp hi d k (fun y hy=>h2 y (by simp[aH8,hy]))
  simp only[rG,h2 x (by simp[aH8]),hlo,hhi]
 case slcS x lo hi=>
  have hlo:∀{B:Type} (d:Int) (k:Int→Option B),bnd F S lo d k=bnd F' S' lo d k:=fun d k=>aOp lo d k (fun y hy=>h2 y (by simp[aH8,hy]))
  have hhi:∀{B:Type} (d:Int) (k:Int→Option B),bnd F S hi d k=bnd F' S' hi d k:=fun d k=>aOp hi d k (fun y hy=>h2 y (by simp[aH8,hy]))
  simp only[rG,h2 x (by simp[aH8]),hlo,hhi]
 all_goals simp only[aH8,List.mem_cons,List.mem_singleton,List.not_mem_nil,or_false,forall_eq_or_imp,forall_eq]at h1 h2
 all_goals first
  |rfl
  |simp only[rG,h1,h2]
  |simp only[rG,h1.1,h1.2,h2.1,h2.2]
  |simp only[rG,h1.1,h1.2.1,h1.2.2,h2.1,h2.2.1,h2.2.2]
  |simp only[rG,h1]
  |simp only[rG,h2]
theorem a5m (op:oP) (base:Nat) (h:∀x∈aH8 op,x.ev F=x.ev F'):tgt F op base=tgt F' op base:=by
 cases op<;>first
  |rfl
  |(simp only[tgt];first |rw[h _ (by simp[aH8])])
theorem aU7 (f:Nat) (x:Option kD) (args:List kD) (k:List AV→Option A) (h:∀y∈aTx x++args,y.ev F=y.ev F'):dN F f x args k=dN F' f x args k:=by
 have hm:=map_congr args (fun y hy=>h y (List.mem_append_right _ hy))
 unfold dN
 cases x with
 |none=>simp only[hm]
 |some y=>
  have:=h y (by simp[aTx])
  simp only[this,hm]
theorem a0J (op:oP) (h:∀x∈aH8 op,x.ev F=x.ev F'):aIr F op=aIr F' op:=by
 unfold aIr
 generalize aH8 op=l at h
 induction l with
 |nil=>rfl
 |cons x l ih=>simp only[List.flatMap_cons,h x (by simp),ih (fun y hy=>h y (by simp[hy]))]
theorem a34 {x:kD} (h:x.ev F=x.ev F'):bD9 F F' S S x:=⟨h,by simp only[kD.cN,h]⟩
theorem aRP (S:St) (op:oP) (base:Nat) (h:∀x∈aH8 op,x.ev F=x.ev F'):op1 E F S op base=op1 E F' S op base:=by
 unfold op1
 have bAa:=a0J op h
 by_cases hc:∃i f en ex ids new x args,op= .aCd i f en ex ids new x args
 ·obtain ⟨i,f,en,ex,ids,new,x,args,rfl⟩:=hc
  simp only[opK,bAa]
  exact aU7 f x args _ h
 ·have h1:∀i f en ex ids new x args,op≠ .aCd i f en ex ids new x args:=fun i f en ex ids new x args e=>hc ⟨i,f,en,ex,ids,new,x,args,e⟩
  rw[aDJ h1,aDJ h1,a5m op base h,bAa]
  split
  ·exact aRO _ _ _ _ (fun x hx=>a34 (h x hx))
  ·congr 1;funext o
   exact aRO _ _ _ _ (fun x hx=>a34 (h x hx))
theorem aKk {ids:List Nat} {i:Nat} (h:i<ids.length):ids.getD i 0∈ids:=by
 rw[List.getD_eq_getElem?_getD,List.getElem?_eq_getElem h];exact List.getElem_mem h
mutual
theorem aUo {S S':St}:∀(v:AV),(∀id∈v.aRx,S'[id]? =S[id]?)→v.dat S'=v.dat S
 | .sw i u,h=>by simp only[AV.dat,h i (by simp[AV.aRx])]
 | .agg vs,h=>by simp only[AV.dat,aU8 vs (by simpa[AV.aRx]using h)]
 | .undef,_=>by simp[AV.dat]
 | .und,_=>by simp[AV.dat]
 | .d _ _,_=>by simp[AV.dat]
 | .ptr _ _,_=>by simp[AV.dat]
 | .eM _ _ _ _,_=>by simp[AV.dat]
 | .whole _ _,_=>by simp[AV.dat]
 | .own _ _ _ _,_=>by simp[AV.dat]
 | .fn _ _,_=>by simp[AV.dat]
 | .tup _,_=>by simp[AV.dat]
 | .map _,_=>by simp[AV.dat]
 | .tE _,_=>by simp[AV.dat]
 | .aK5 _ _,_=>by simp[AV.dat]
theorem aU8 {S S':St}:∀(vs:List AV),(∀id∈AV.aCc vs,S'[id]? =S[id]?)→AV.aK6 S' vs=AV.aK6 S vs
 |[],_=>by simp[AV.aK6]
 |v::vs,h=>by
  simp only[AV.aCc,List.mem_append]at h
  simp only[AV.aK6,aUo v (fun id hi=>h id (.inl hi)),aU8 vs (fun id hi=>h id (.inr hi))]
end
theorem a7l {x:kD} (h:∀id∈(x.ev F).aRx,S'[id]? =S[id]?):bD9 F F S' S x:=⟨rfl,by simp only[kD.cN,aUo _ h]⟩
section
variable {S S':St} {ids:List Nat}
theorem aO0:∀(ks:List K) (r:Row) (i:Nat),AV.aCc (cellsOf ks r i)=[]
 |[],_,_=>rfl
 |k::ks,r,i=>by simp[cellsOf,AV.aCc,AV.aRx,aO0 ks r (i+1)]
def bJm (S S':St) (co:Bool) (v:AV):Prop:=co=true→∀id∈v.aRx,S'[id]? =S[id]?
def bGG (S S':St) (co:Bool) (vs:List AV):Prop:=co=true→∀id∈AV.aCc vs,S'[id]? =S[id]?
mutual
theorem aXM (hl:∀id∈ids,S'[id]? =S[id]?) (m:Nat) (co:Bool):∀(s:Sh) (v:AV),bJm S S' co v→Sh.under ids.length s=true→bF S' m co (Sh.xD ids s) v=bF S m co (Sh.xD ids s) v
 | .d l,v,hc,_=>by
   cases v with
   |sw i u=>
    simp only[Sh.xD,bF]
    cases co with
    |false=>rfl
    |true=>rw[aUo _ (hc rfl)]
   |agg vs=>
    simp only[Sh.xD,bF]
    cases co with
    |false=>rfl
    |true=>rw[aUo _ (hc rfl)]
   |_=>simp[Sh.xD,bF]
 | .ptr i o,v,_,_=>by cases v<;>simp[Sh.xD,bF]
 | .whole i,v,_,h=>by
   cases v with
   |whole i' iO=>
    simp only[Sh.xD,bF]
    have hi:i<ids.length:=by simpa[Sh.under]using h
    by_cases e:i'=ids.getD i 0
    ·rw[e,hl _ (aKk hi)]
    ·have hb:Nat.beq (ids.getD i 0) i'=false:=by
      cases hq:Nat.beq (ids.getD i 0) i' with
      |false=>rfl
      |true=>exact absurd (Nat.eq_of_beq_eq_true hq).symm e
     simp only[hb,Bool.false_and]
     split<;>split<;>rfl
   |_=>simp[Sh.xD,bF]
 | .sw i,v,_,h=>by
   cases v with
   |sw i' iO=>
    simp only[Sh.xD,bF]
    have hi:i<ids.length:=by simpa[Sh.under]using h
    by_cases e:i'=ids.getD i 0
    ·rw[e,hl _ (aKk hi)]
    ·have hb:Nat.beq (ids.getD i 0) i'=false:=by
      cases hq:Nat.beq (ids.getD i 0) i' with
      |false=>rfl
      |true=>exact absurd (Nat.eq_of_beq_eq_true hq).symm e
     simp only[hb,Bool.false_and]
     split<;>split<;>rfl
   |_=>simp[Sh.xD,bF]
 | .fn f cs,v,hc,h=>by
   cases v with
   |fn f' vs=>
    simp only[Sh.xD,bF]
    rw[aDK hl m co cs vs (fun hq id hi=>hc hq id (by simpa[AV.aRx]using hi)) (by simpa[Sh.under]using h)]
   |_=>simp[Sh.xD,bF]
 | .agg cs,v,hc,h=>by
   cases v with
   |agg vs=>
    simp only[Sh.xD,bF]
    rw[aDK hl m co cs vs (fun hq id hi=>hc hq id (by simpa[AV.aRx]using hi)) (by simpa[Sh.under]using h)]
   |d l row=>
    simp only[Sh.xD,bF]
    rw[aDK hl m co cs (cellsOf l.ks row 0) (fun hq id hi=>by rw[aO0]at hi;cases hi) (by simpa[Sh.under]using h)]
   |_=>simp[Sh.xD,bF]
 | .map i,v,_,_=>by cases v<;>simp[Sh.xD,bF]
 | .aTw i,v,_,_=>by cases v<;>simp[Sh.xD,bF]
 | .tE i,v,_,_=>by cases v<;>simp[Sh.xD,bF]
 | .eM i,v,_,h=>by
   cases v with
   |eM i' iO idx off=>
    simp only[Sh.xD,bF]
    have hi:i<ids.length:=by simpa[Sh.under]using h
    by_cases e:i'=ids.getD i 0
    ·rw[e,hl _ (aKk hi)]
    ·have hb:Nat.beq (ids.getD i 0) i'=false:=by
      cases hq:Nat.beq (ids.getD i 0) i' with
      |false=>rfl
      |true=>exact absurd (Nat.eq_of_beq_eq_true hq).symm e
     simp only[hb,Bool.false_and]
     split<;>split<;>rfl
   |_=>simp[Sh.xD,bF]
theorem aDK (hl:∀id∈ids,S'[id]? =S[id]?) (m:Nat) (co:Bool):∀(ss:List Sh) (vs:List AV),bGG S S' co vs→Sh.aFA ids.length ss=true→yW S' m co (Sh.n8 ids ss) vs=yW S m co (Sh.n8 ids ss) vs
 |[],[],_,_=>rfl
 |[],_::_,_,_=>rfl
 |_::_,[],_,_=>rfl
 |s::ss,v::vs,hc,h=>by
  simp only[Sh.aFA,Bool.and_eq_true]at h
  simp only[Sh.n8,yW]
  rw[aXM hl m co s v (fun hq id hi=>hc hq id (by simp only[AV.aCc,List.mem_append];exact .inl hi)) h.1,aDK hl m co ss vs (fun hq id hi=>hc hq id (by simp only[AV.aCc,List.mem_append];exact .inr hi)) h.2]
end
theorem a5n (hl:∀id∈ids,S'[id]? =S[id]?) (m:Nat) (s:zN) (o:Obj) (h:zN.under ids.length s=true):wZ S' m (s.xD ids) o=wZ S m (s.xD ids) o:=by
 cases s with
 |cells c vs=>
  have:=fun dM=>aDK hl m false vs dM (fun hq=>by cases hq) (by simpa[zN.under]using h)
  cases o<;>simp only[zN.xD,wZ,this]
  all_goals cases vs<;>simp[Sh.n8,wZ]
 |tE l s=>
  have:=fun av=>aXM hl m false s av (fun hq=>by cases hq) (by simpa[zN.under]using h)
  cases o<;>simp only[zN.xD,wZ,this]
 |_=>cases o<;>simp[zN.xD,wZ]
theorem aU9 (hl:∀id∈ids,S'[id]? =S[id]?) (hlen:S'.length=S.length):∀(is:List Nat) (ss:List zN),(∀i∈is,i∈ids)→ss.all (zN.under ids.length)=true→aIY S' ids is ss=aIY S ids is ss
 |[],[],_,_=>rfl
 |[],_::_,_,_=>rfl
 |_::_,[],_,_=>rfl
 |i::is,s::ss,hi,h=>by
  simp only[List.all_cons,Bool.and_eq_true]at h
  simp only[aIY]
  rw[hl i (hi i (by simp)),aU9 hl hlen is ss (fun j hj=>hi j (by simp[hj])) h.2,hlen]
  split
  ·rw[a5n hl S.length s _ h.1]
  ·rfl
theorem aVa {n:Nat}:∀(ss:List (Nat×Sh)),(ss.all fun p=>Sh.under n p.2)=true→Sh.aFA n (ss.map (·.2))=true
 |[],_=>rfl
 |p::ss,h=>by
  simp only[List.all_cons,Bool.and_eq_true]at h
  simp only[List.map_cons,Sh.aFA,h.1,aVa ss h.2,Bool.and_self]
theorem a5o (hl:∀id∈ids,S'[id]? =S[id]?) (hlen:S'.length=S.length) (en:Shape) (vs:List AV) (hc:∀id∈AV.aCc vs,S'[id]? =S[id]?) (h:Shape.under ids.length en=true):aUG S' ids en vs=aUG S ids en vs:=by
 simp only[Shape.under,Bool.and_eq_true]at h
 unfold aUG
 rw[hlen,aDK hl S.length true _ vs (fun _=>hc) (aVa _ h.1),aU9 hl hlen ids en.objs (fun i hi=>hi) h.2]
theorem aS2:∀(is:List Nat),(∀i∈is,S'[i]? =S[i]?)→aIq S' is=aIq S is
 |[],_=>rfl
 |i::is,h=>by simp only[aIq];rw[h i (by simp),aS2 is (fun j hj=>h j (by simp[hj]))]
end
theorem aQy:∀(a b:List AV),AV.aCc (a++b)=AV.aCc a++AV.aCc b
 |[],_=>rfl
 |v::a,b=>by simp[AV.aCc,aQy a b]
theorem aRQ (F:Fr):∀(xs:List kD),AV.aCc (xs.map (·.ev F))=xs.flatMap fun x=>(x.ev F).aRx
 |[]=>rfl
 |x::xs=>by simp[AV.aCc,aRQ F xs]
theorem aWt {F:Fr} {f:Nat} {x:Option kD} {args:List kD} {k:List AV→Option A} {r:A} (h:dN F f x args k=some r):∃vs,k vs=some r∧(∀id∈AV.aCc vs,id∈(aTx x++args).flatMap fun x=>(x.ev F).aRx)∧∀{B:Type} (k':List AV→Option B),dN F f x args k'=k' vs:=by
 unfold dN at h
 split at h
 ·exact ⟨_,h,fun id hi=>by rw[aRQ]at hi;simpa[aTx]using hi,fun k'=>rfl⟩
 ·split at h
  ·rename_i e
   obtain ⟨hb,h⟩:=mA h
   refine ⟨_,h,fun id hi=> ?_,fun k'=>by simp[dN,e,hb,check]⟩
   rw[aQy,aRQ]at hi
   simp only[aTx,List.singleton_append,List.flatMap_cons,List.mem_append,e,AV.aRx]
   rcases List.mem_append.1 hi with hi |hi
   ·exact .inr hi
   ·exact .inl hi
  ·simp at h
theorem aXN {S S':St} {all lC:List Nat}:∀(is vs:List Nat) (os:List Obj),(∀id∈is,S'[id]? =S[id]?)→aDw S' (aO all lC is vs os)=aDw S (aO all lC is vs os)
 |[],_,_,_=>by simp[aO,aDw]
 |i::is,[],_,_=>by simp[aO,aDw]
 |i::is,v::vs,[],_=>by simp[aO,aDw]
 |i::is,v::vs,o::os,h=>by
  have ih:=aXN (all:=all) (lC:=lC) is vs os (fun id hid=>h id (by simp[hid]))
  simp only[aO,aDw,aOQ,h i (by simp),ih]
theorem a35 {S S':St} {op:oP} {base:Nat} {v:AV} {us:List (Nat×Obj)} {rd:List Nat} (h:op1 E F S op base=some (v,us,rd)) (hl:S'.length=S.length) (hr:∀id∈rd,S'[id]? =S[id]?):op1 E F S' op base=some (v,us,rd):=by
 unfold op1 at h⊢
 by_cases hc:∃i f en ex ids new x args,op= .aCd i f en ex ids new x args
 ·obtain ⟨i,f,en,ex,ids,new,x,args,rfl⟩:=hc
  simp only[opK]at h⊢
  obtain ⟨vs,h1,bAa,h2⟩:=aWt h
  rw[h2]
  obtain ⟨hck,h3⟩:=mA h1
  obtain ⟨ps,e1,h4⟩:=Option.bind_eq_some_iff.1 h3
  obtain ⟨ps',e2,h5⟩:=Option.bind_eq_some_iff.1 h4
  simp only[Option.some.injEq,Prod.mk.injEq]at h5
  have hall:∀id∈ids++vE (base+new) (ex.objs.length - ids.length),S'[id]? =S[id]? :=fun id hid=>hr id (by rw[←h5.2.2];exact List.mem_append_left _ hid)
  have bGH:∀id∈AV.aCc vs,S'[id]? =S[id]? :=fun id hid=>hr id (by rw[←h5.2.2];exact List.mem_append_right _ (bAa id hid))
  simp only[Bool.and_eq_true]at hck
  rw[a5o (fun id hid=>hall id (List.mem_append_left _ hid)) hl en vs bGH hck.1.1.1.1.1,aS2 _ (fun id hid=>hall id (List.mem_append_right _ hid))]
  have hv:(ids++vE (base+new) (ex.objs.length - ids.length)).map (aML S')=(ids++vE (base+new) (ex.objs.length - ids.length)).map (aML S):=
   List.map_congr_left fun id hid=>by simp only[aML,hall id hid]
  rw[hv]
  have hk:∀os,aDw S' (aO (ids++vE (base+new) (ex.objs.length - ids.length)) ((ids++vE (base+new) (ex.objs.length - ids.length)).map (aML S)) (ids++vE (base+new) (ex.objs.length - ids.length)) ((ids++vE (base+new) (ex.objs.length - ids.length)).map (aML S)) os)=aDw S (aO (ids++vE (base+new) (ex.objs.length - ids.length)) ((ids++vE (base+new) (ex.objs.length - ids.length)).map (aML S)) (ids++vE (base+new) (ex.objs.length - ids.length)) ((ids++vE (base+new) (ex.objs.length - ids.length)).map (aML S)) os):=
   fun os=>aXN _ _ os hall
  simp only[hk]
  exact h1
 ·have h1:∀i f en ex ids new x args,op≠ .aCd i f en ex ids new x args:=fun i f en ex ids new x args e=>hc ⟨i,f,en,ex,ids,new,x,args,e⟩
  rw[aDJ h1]at h⊢
  have hsame:(∀id∈aIr F op,S'[id]? =S[id]?)→∀(ob:Obj) {B:Type} (k:AV→Option Obj→Option B),rG E F S' ob op base k=rG E F S ob op base k:=fun hq ob B k=>
   aRO ob op base k (fun x hx=>a7l fun id hid=>hq id (by simp only[aIr,List.mem_flatMap];exact ⟨x,hx,hid⟩))
  split at h
  ·have:rd=aIr F op:=by
    rw[aEk]at h
    obtain ⟨q,e1,e2⟩:=Option.bind_eq_some_iff.1 h
    simp only[Option.some.injEq,Prod.mk.injEq]at e2
    exact e2.2.2.symm
   rw[hsame (fun id hid=>hr id (by rw[this];exact hid))];exact h
  ·rename_i id ht
   have:rd=id::aIr F op:=by
    unfold aHo at h
    split at h
    ·dsimp only at h
     rw[aEk]at h
     obtain ⟨q,e1,e2⟩:=Option.bind_eq_some_iff.1 h
     simp only[Option.some.injEq,Prod.mk.injEq]at e2
     exact e2.2.2.symm
    ·simp at h
   unfold aHo at h⊢
   rw[hr id (by rw[this];simp)]
   have hq:=hsame (fun i hi=>hr i (by rw[this];exact List.mem_cons_of_mem _ hi))
   simp only[hq];exact h
end Go.Ev
