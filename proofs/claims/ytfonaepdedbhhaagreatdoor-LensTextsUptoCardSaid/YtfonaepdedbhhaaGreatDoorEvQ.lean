/-
  The evaluator in continuation-passing form: what goes on behind an operation is nothing but what goes on with its result.
-/
import Derived.Test.YtfonaepdedbhhaaGreatDoorEvMm
import Derived.Test.YtfonaepdedbhhaaGreatDoorEvOb
set_option linter.all false
set_option maxRecDepth 100000
namespace Go.Ev
variable {A B:Type} {E:Env} {F:Fr} {S:St}
theorem kV (v:AV) (k:IntKind→Int→Option A) (f:A→Option B):(asI v k).bind f=asI v fun a b=>(k a b).bind f:=by unfold asI;split<;>rfl
theorem u5 (v:AV) (k:Bool→Option A) (f:A→Option B):(asB v k).bind f=asB v fun a=>(k a).bind f:=by unfold asB;split<;>rfl
theorem j6 (v:AV) (k:List UInt8→Option A) (f:A→Option B):(asS v k).bind f=asS v fun a=>(k a).bind f:=by unfold asS;split<;>rfl
theorem iU (v:AV) (k:TypeId→C→Option A) (f:A→Option B):(aU4 v k).bind f=aU4 v fun a b=>(k a b).bind f:=by unfold aU4;split<;>rfl
theorem xQ (v:AV) (k:L→Row→Option A) (f:A→Option B):(asD v k).bind f=asD v fun a b=>(k a b).bind f:=by unfold asD;split<;>rfl
theorem cC (b:Bool) (k:Option A) (f:A→Option B):(check b k).bind f=check b (k.bind f):=by unfold check;split<;>rfl
theorem xX (c:Prop) [Decidable c] (k:Option A) (f:A→Option B):(if c then k else none).bind f=if c then k.bind f else none:=by split<;>rfl
theorem eR (c:Prop) [Decidable c] (k k':Option A) (f:A→Option B):(if c then k else k').bind f=if c then k.bind f else k'.bind f:=by split<;>rfl
theorem jU (c:Prop) [Decidable c] (k':Option A) (f:A→Option B):(if c then none else k').bind f=if c then none else k'.bind f:=by split<;>rfl
theorem zH (o:Obj) (v:Nat) (k:L→C→Option A) (f:A→Option B):(sQ o v k).bind f=sQ o v fun a b=>(k a b).bind f:=by unfold sQ;split<;>first |exact cC _ _ _ |rfl
theorem bI (o:Obj) (k:Option A) (f:A→Option B):(zD o k).bind f=zD o (k.bind f):=by unfold zD;split<;>rfl
theorem eP (o:Obj) (k:L→L→List (Row×Row)→Option A) (f:A→Option B):(aKm o k).bind f=aKm o fun a b c=>(k a b c).bind f:=by unfold aKm;split<;>rfl
theorem kU (l l':L) (off:Nat) (r:Row) (k:Row→Option A) (f:A→Option B):(part l l' off r k).bind f=part l l' off r fun a=>(k a).bind f:=by
 unfold part;split<;>first |exact cC _ _ _ |rfl
theorem mU (l l':L) (off:Nat) (r row:Row) (k:Row→Option A) (f:A→Option B):(aA1 l l' off r row k).bind f=aA1 l l' off r row fun a=>(k a).bind f:=by
 unfold aA1;split<;>first |exact cC _ _ _ |rfl
theorem fP (op:BinOp) (kd:IntKind) (a b:Int) (k:Int→Option A) (f:A→Option B):(arith op kd a b k).bind f=arith op kd a b fun n=>(k n).bind f:=by unfold arith;split<;>rfl
theorem gP (op:BinOp) (a b:Int) (k:Bool→Option A) (f:A→Option B):(aRr op a b k).bind f=aRr op a b fun n=>(k n).bind f:=by unfold aRr;split<;>rfl
theorem iP (op:BinOp) (a b:List UInt8) (k:Bool→Option A) (f:A→Option B):(aRs op a b k).bind f=aRs op a b fun n=>(k n).bind f:=by unfold aRs;split<;>rfl
theorem n6 (x:Option zC) (d:Int) (k:Int→Option A) (f:A→Option B):(bnd F S x d k).bind f=bnd F S x d fun n=>(k n).bind f:=by unfold bnd;split<;>first |exact kV _ _ _ |rfl
theorem yI (c:C) (k:List Row→Option A) (f:A→Option B):(aDE c k).bind f=aDE c fun a=>(k a).bind f:=by unfold aDE;split<;>rfl
theorem oK (o:Obj) (k:L→C→Nat→AV→Option A) (f:A→Option B):(aIK o k).bind f=aIK o fun a b c d=>(k a b c d).bind f:=by unfold aIK;split<;>rfl
theorem jP (o:Obj) (k:Option A) (f:A→Option B):(aKl o k).bind f=aKl o (k.bind f):=by unfold aKl;split<;>rfl
theorem mL (o:Obj) (v:Nat) (k:TypeId→L→C→Option A) (f:A→Option B):(aKH o v k).bind f=aKH o v fun a b c=>(k a b c).bind f:=by unfold aKH;split<;>first |exact cC _ _ _ |rfl
theorem zI (n:Int) (f:A→Option B):∀(i m:Nat) (k:Nat→Option A),(aI9 n i m k).bind f=aI9 n i m fun j=>(k j).bind f
 |_,0,_=>rfl
 |i,m+1,k=>by simp only[aI9,eR,zI n f (i+1) m]
theorem lN (f:A→Option B):∀(ps:List (Nat×Nat×zC)) (z:List AV) (k:List AV→Option A),(aKk F ps z k).bind f=aKk F ps z fun n=>(k n).bind f
 |[],_,_=>rfl
 |(off,m,x)::r,z,k=>by
  simp only[aKk]
  split
  ·rw[cC,lN f r]
  ·rfl
theorem aJ (mx:Bool) (kd:IntKind) (f:A→Option B):∀(xs:List zC) (m:Int) (k:Int→Option A),(aFQ F S mx kd xs m k).bind f=aFQ F S mx kd xs m fun n=>(k n).bind f
 |[],_,_=>rfl
 |x::xs,m,k=>by simp only[aFQ,kV,cC,aJ mx kd f xs]
theorem oH (f:A→Option B):∀(ls:List L) (xs:List zC) (k:List Row→Option A),(rowsOf F S ls xs k).bind f=rowsOf F S ls xs fun n=>(k n).bind f
 |[],[],_=>rfl
 |[],_::_,_=>rfl
 |_::_,[],_=>rfl
 |l::ls,x::xs,k=>by simp only[rowsOf,xQ,cC,oH f ls xs]
theorem nE (ks:List K) (f:A→Option B):∀(ps:List (Nat×Nat×zC)) (z:Row) (k:Row→Option A),(uU F S ks ps z k).bind f=uU F S ks ps z fun n=>(k n).bind f
 |[],_,_=>rfl
 |(off,m,x)::r,z,k=>by simp only[uU,xQ,cC,nE ks f r]
theorem lF (l:L) (f:A→Option B):∀(ps:List (Nat×zC)) (z:List Row) (k:List Row→Option A),(fU F S l ps z k).bind f=fU F S l ps z fun n=>(k n).bind f
 |[],_,_=>rfl
 |(i,x)::r,z,k=>by simp only[fU,xQ,cC,lF l f r]
theorem uG (f:A→Option B):∀(ks:List K) (xs:List zC) (k:Row→Option A),(j4 F S ks xs k).bind f=j4 F S ks xs fun n=>(k n).bind f
 |[],[],_=>rfl
 |[],_::_,_=>rfl
 |_::_,[],_=>rfl
 |l::ls,x::xs,k=>by simp only[j4,xQ,cC,uG f ls xs]
theorem aCU (o:Obj) (op:AOp) (base:Nat) (k:AV→Option Obj→Option A):bH E F S o op base k=(bH E F S o op base bB).bind fun x=>k x.1 x.2:=by
 cases op<;>simp only[bH]
 case mov=>rfl
 all_goals simp only[kV,u5,j6,iU,xQ,cC,xX,jU,zH,yI,jP,oK,mL,zI,lN,bI,eP,kU,mU,fP,gP,iP,n6,aJ,oH,nE,lF,uG,Option.bind_assoc,bB,Option.bind_some,Option.bind_none,eR]
 all_goals try rfl
 case idiv bo x y=>cases bo<;>rfl
 case shf bo x y=>cases bo<;>rfl
 all_goals first
  |(split<;>simp only[kV,u5,j6,iU,xQ,cC,xX,jU,zH,yI,jP,oK,mL,zI,lN,bI,eP,kU,mU,fP,gP,iP,n6,aJ,oH,nE,lF,uG,Option.bind_assoc,bB,Option.bind_some,Option.bind_none,eR]<;>done)
  |(split<;>simp only[kV,u5,j6,iU,xQ,cC,xX,jU,zH,yI,jP,oK,mL,zI,lN,bI,eP,kU,mU,fP,gP,iP,n6,aJ,oH,nE,lF,uG,Option.bind_assoc,bB,Option.bind_some,Option.bind_none,eR]<;>rfl)
  |(split<;>first |rfl |(simp only[kV,u5,j6,iU,xQ,cC,xX,jU,zH,yI,jP,oK,mL,zI,lN,bI,eP,kU,mU,fP,gP,iP,n6,aJ,oH,nE,lF,uG,Option.bind_assoc,bB,Option.bind_some,Option.bind_none,eR]<;>done)|(simp only[kV,u5,j6,iU,xQ,cC,xX,jU,zH,yI,jP,oK,mL,zI,lN,bI,eP,kU,mU,fP,gP,iP,n6,aJ,oH,nE,lF,uG,Option.bind_assoc,bB,Option.bind_some,Option.bind_none,eR];rfl)|(split<;>first |rfl |(simp only[kV,u5,j6,iU,xQ,cC,xX,jU,zH,yI,jP,oK,mL,zI,lN,bI,eP,kU,mU,fP,gP,iP,n6,aJ,oH,nE,lF,uG,Option.bind_assoc,bB,Option.bind_some,Option.bind_none,eR]<;>done)|(simp only[kV,u5,j6,iU,xQ,cC,xX,jU,zH,yI,jP,oK,mL,zI,lN,bI,eP,kU,mU,fP,gP,iP,n6,aJ,oH,nE,lF,uG,Option.bind_assoc,bB,Option.bind_some,Option.bind_none,eR];rfl)|(split<;>first |rfl |(simp only[kV,u5,j6,iU,xQ,cC,xX,jU,zH,yI,jP,oK,mL,zI,lN,bI,eP,kU,mU,fP,gP,iP,n6,aJ,oH,nE,lF,uG,Option.bind_assoc,bB,Option.bind_some,Option.bind_none,eR]<;>done))))
  |skip
 case slc e l x lo hi=>
  split
  ·simp only[kV,u5,j6,iU,xQ,cC,xX,jU,zH,yI,jP,oK,mL,zI,lN,bI,eP,kU,mU,fP,gP,iP,n6,aJ,oH,nE,lF,uG,Option.bind_assoc,bB,Option.bind_some,Option.bind_none,eR]
  ·simp only[kV,u5,j6,iU,xQ,cC,xX,jU,zH,yI,jP,oK,mL,zI,lN,bI,eP,kU,mU,fP,gP,iP,n6,aJ,oH,nE,lF,uG,Option.bind_assoc,bB,Option.bind_some,Option.bind_none,eR]
   unfold sQ check
   split
   ·split
    ·dsimp only
     split
     ·split
      ·simp only[kV,u5,j6,iU,xQ,cC,xX,jU,zH,yI,jP,oK,mL,zI,lN,bI,eP,kU,mU,fP,gP,iP,n6,aJ,oH,nE,lF,uG,Option.bind_assoc,bB,Option.bind_some,Option.bind_none,eR]
      ·rfl
     ·rfl
    ·rfl
   ·rfl
  ·simp only[kV,u5,j6,iU,xQ,cC,xX,jU,zH,yI,jP,oK,mL,zI,lN,bI,eP,kU,mU,fP,gP,iP,n6,aJ,oH,nE,lF,uG,Option.bind_assoc,bB,Option.bind_some,Option.bind_none,eR]
  ·rfl
end Go.Ev
namespace Go.Ev
variable {E:Env} {P:Program} {T:Nat→gG} {S S':fB} {pl jE:Pl} {St eD:Ev.St} {F:Fr} {a:Act} {w w':World}
def op1 (E:Env) (F:Fr) (S:Ev.St) (op:AOp) (base:Nat):Option (AV×List (Nat×Obj)×List Nat):=opK E F S op base fun v us rd=>some (v,us,rd)
theorem aY7 {A B:Type} (S:Ev.St) (id:Nat) (k:Obj→Option A) (f:A→Option B):(aEL S id k).bind f=aEL S id fun o=>(k o).bind f:=by unfold aEL;split<;>rfl
def aY8 (id:Nat) (no:Option Obj):List (Nat×Obj):=match no with |some o'=>[(id,o')]|none=>[]
theorem aCm {A:Type} {F:Fr} {S:Ev.St} {op:AOp} {base:Nat} {k:AV→List (Nat×Obj)→List Nat→Option A} (h1:∀i f en ex ids new x args,op≠ .nB i f en ex ids new x args):
 opK E F S op base k=match tgt F op base with
  |none=>bH E F S .dead op base fun v _=>k v [] (aFw F op)
  |some id=>aEL S id fun o=>bH E F S o op base fun v no=>k v (aY8 id no) (id::aFw F op):=by
 unfold opK
 split
 ·exact absurd rfl (h1 _ _ _ _ _ _ _ _)
 ·cases tgt F op base<;>rfl
theorem aSR {A B:Type} (F:Fr) (f:Nat) (x:Option zC) (args:List zC) (k:List AV→Option A) (g:A→Option B):(nN F f x args k).bind g=nN F f x args fun vs=>(k vs).bind g:=by
 unfold nN
 split
 ·rfl
 ·split
  ·exact cC _ _ _
  ·rfl
theorem aSS {A:Type} (F:Fr) (S:Ev.St) (op:AOp) (base:Nat) (k:AV→List (Nat×Obj)→List Nat→Option A):opK E F S op base k=(op1 E F S op base).bind fun x=>k x.1 x.2.1 x.2.2:=by
 unfold op1
 by_cases h:∃i f en ex ids new x args,op= .nB i f en ex ids new x args
 ·obtain ⟨i,f,en,ex,ids,new,x,args,rfl⟩:=h
  simp only[opK,aSR,cC,Option.bind_assoc]
  congr 1
 ·have h1:∀i f en ex ids new x args,op≠ .nB i f en ex ids new x args:=fun i f en ex ids new x args e=>h ⟨i,f,en,ex,ids,new,x,args,e⟩
  rw[aCm h1,aCm h1]
  split
  ·rw[aCU]
   conv=>rhs;rw[aCU,Option.bind_assoc]
   rfl
  ·rw[aY7]
   congr 1;funext o
   rw[aCU]
   conv=>rhs;rw[aCU,Option.bind_assoc]
   rfl
structure Ctx where
 a5J:Nat→Prop
 S0:fB
 w0:World
 n:Nat
 m:Nat
 R0:AV→Value→Prop
 hR0:∀av v,R0 av v→∃id,id<m∧(av= .map id∨av= .dF id∨∃off,av= .ptr id off)
structure Inv (P:Program) (T:Nat→gG) (Γ:Ctx) (S:fB) (pl:Pl) (St:Ev.St) (F:Fr) (a:Act) (w:World):Prop where
 qO:kW P T S pl St w
 frame:wX P T S pl St F a.tmps
 size:a.tmps.size=Γ.n
 defers:a.defers=[]
 grow:Grow Γ.a5J Γ.S0 Γ.w0 S w
 wY:∀b,mW pl St b→Γ.a5J b∨Γ.w0.heap.size≤b
 kept:∀av v,Γ.R0 av v→eB P T S pl St av v
def aT3 (n:Nat):Option Nat→Bool |none=>true |some d=>Nat.blt d n
variable {Γ:Ctx} {n:Nat}
theorem Fr.aDm (F:Fr) (d:Nat) (v:AV) (t:Nat):Fr.get ((d,v)::F) t=if d=t then v else Fr.get F t:=by
 simp only[Fr.get]
 split
 ·rename_i h;rw[if_pos (Nat.eq_of_beq_eq_true h)]
 ·rename_i h
  rw[if_neg]
  intro e;subst e;simp at h
theorem wX.put {d:Option Nat} {av:AV} {v:Value} (hF:wX P T S pl St F a.tmps) (hd:aT3 a.tmps.size d=true) (hv:eB P T S pl St av v):wX P T S pl St (F.put d av) (a.put d v).tmps:=by
 cases d with
 |none=>exact hF
 |some d=>
  have hlt:d<a.tmps.size:=by simpa[aT3]using hd
  intro t
  show eB P T S pl St (Fr.get ((d,av)::F) t) ((a.tmps.setIfInBounds d v).getD t undef)
  rw[Fr.aDm]
  by_cases h:d=t
  ·subst h
   rw[if_pos rfl]
   have:(a.tmps.setIfInBounds d v).getD d undef=v:=by simp[hlt]
   rw[this];exact hv
  ·rw[if_neg h]
   have:(a.tmps.setIfInBounds d v).getD t undef=a.tmps.getD t undef:=by
    simp[Array.getElem?_setIfInBounds,h]
   rw[this];exact hF t
theorem Act.aT4 (a:Act) (d:Option Nat) (v:Value):(a.put d v).tmps.size=a.tmps.size:=by cases d<;>simp[Act.put]
theorem Act.put_defers (a:Act) (d:Option Nat) (v:Value):(a.put d v).defers=a.defers:=by cases d<;>rfl
theorem Inv.step {d:Option Nat} {av:AV} {v:Value} (h:Inv P T Γ S pl St F a w) (hd:aT3 Γ.n d=true) (hp:aB P T S pl St w eD av v w'):
 ∃S' jE,Inv P T Γ S' jE eD (F.put d av) (a.put d v) w':=by
 obtain ⟨S',jE,hs,hg,hv,hk,ho⟩:=hp
 have hF':wX P T S' jE eD F a.tmps:=fun t=>hk _ _ (h.frame t)
 refine ⟨S',jE,hs,hF'.put (by rw[h.size];exact hd) hv,by rw[Act.aT4];exact h.size,by rw[Act.put_defers];exact h.defers,h.grow.trans hg (fun b hb hb'=>(h.wY b hb').resolve_right (by omega)),fun b hb=> ?_,fun av v hr=>hk _ _ (h.kept av v hr)⟩
 rcases ho b hb with hb |hb
 ·exact h.wY b hb
 ·exact .inr (Nat.le_trans h.grow.size hb)
theorem Inv.skip {d:Option Nat} (h:Inv P T Γ S pl St F a w) (hd:aT3 Γ.n d=true):Inv P T Γ S pl St (F.put d .und) (a.put d undef) w:=
 ⟨h.qO,h.frame.put (by rw[h.size];exact hd) .und,by rw[Act.aT4];exact h.size,by rw[Act.put_defers];exact h.defers,h.grow,h.wY,h.kept⟩
theorem Inv.narrow {t:Nat} {r:Row} {b:Bool} (h:Inv P T Γ S pl St F a w) (hr:F.get t= .d (.one .bool) r) (hb:(at_ r 0).lK=b):Inv P T Γ S pl St ((t,vB b)::F) a w:=by
 refine ⟨h.qO,fun t'=> ?_,h.size,h.defers,h.grow,h.wY,h.kept⟩
 rw[Fr.aDm]
 by_cases e:t=t'
 ·subst e
  rw[if_pos rfl]
  have:=h.frame t
  rw[hr]at this
  rw[this.of_bool,hb];exact aXd b
 ·rw[if_neg e];exact h.frame t'
theorem aWs {ao:AOp} {base:Nat} {av:AV} {us:List (Nat×Obj)} {rd:List Nat} {o:Oper} (hI:Inv P T Γ S pl St F a w) (hpc:aLZ P T E) (hok:oG P T o.op ao=true)
 (h:op1 E F St ao base=some (av,us,rd)):qE P o a w (aB P T S pl St w (aG us St) av):=by
 by_cases hic:∃i f en ex ids new x args,ao= .nB i f en ex ids new x args
 ·obtain ⟨i,f,en,ex,ids,new,x,args,rfl⟩:=hic
  exact a0R hI.qO hI.frame hpc.ic hok h
 have h1:∀i f en ex ids new x args,ao≠ .nB i f en ex ids new x args:=fun i f en ex ids new x args e=>hic ⟨i,f,en,ex,ids,new,x,args,e⟩
 unfold op1 at h
 rw[aCm h1]at h
 split at h
 ·rename_i ht
  rw[aCU]at h
  obtain ⟨⟨av',no⟩,e1,e2⟩:=Option.bind_eq_some_iff.1 h
  simp only[Option.some.injEq,Prod.mk.injEq]at e2
  obtain ⟨rfl,rfl,rfl⟩:=e2
  have:=aTW hI.qO hI.frame hpc.pc hok (fun j hj=>by rw[ht]at hj;cases hj) e1
  rw[ht]at this
  cases no<;>exact this
 ·rename_i id ht
  unfold aEL at h
  split at h
  ·rename_i ob kB
   dsimp only at h
   rw[aCU]at h
   obtain ⟨⟨av',no⟩,e1,e2⟩:=Option.bind_eq_some_iff.1 h
   simp only[Option.some.injEq,Prod.mk.injEq]at e2
   obtain ⟨rfl,rfl,rfl⟩:=e2
   have:=aTW hI.qO hI.frame hpc.pc hok (fun j hj=>by rw[ht]at hj;cases hj;exact kB) e1
   rw[ht]at this
   cases no<;>exact this
  ·simp at h
def a0S:Option Nat→Option Nat→Bool |none,none=>true |some a,some b=>Nat.beq a b |_,_=>false
theorem aST {a b:Option Nat} (h:a0S a b=true):a=b:=by
 cases a<;>cases b<;>simp[a0S]at h
 ·rfl
 ·rw[h]
def aVp (ops:Array Oper):Option (Nat×Bool)→Option (Nat×Bool)→Bool
 |none,none=>true
 |some (g,b),some (t,b')=>(match b with |true=>b' |false=> !b')&&(match ops[g]? with |some o=>a0S o.dst (some t)|none=>false)
 |_,_=>false
def aPM (P:Program) (T:Nat→gG) (n:Nat) (ops:Array Oper) (o:Oper) (ao:fN):Bool:=
 oG P T o.op ao.op&&a0S o.dst ao.dst&&aT3 n ao.dst&&aVp ops o.guard ao.guard
def aES (P:Program) (T:Nat→gG) (n:Nat) (ops:Array Oper):List Oper→List fN→Bool
 |[],[]=>true
 |o::os,ao::yZ=>aPM P T n ops o ao&&aES P T n ops os yZ
 |_,_=>false
theorem aL1 {ops:Array Oper} {o:Oper} {ao:fN} {S:fB} {pl:Pl} {St:Ev.St} (hg:aVp ops o.guard ao.guard=true) (hF:wX P T S pl St F a.tmps):
 (ao.guard=none→Region.wanted o (yielded ops a.tmps)=true)∧
 (∀t b,ao.guard=some (t,b)→∀r,F.get t= .d (.one .bool) r→Region.wanted o (yielded ops a.tmps)=((at_ r 0).lK==b))∧
 (∀t b,ao.guard=some (t,b)→F.get t= .und→Region.wanted o (yielded ops a.tmps)=false):=by
 unfold aVp at hg
 split at hg
 ·rename_i h1 h2
  refine ⟨fun _=>by simp[Region.wanted,h1],fun t b h=>(by rw[h2]at h;cases h),fun t b h=>(by rw[h2]at h;cases h)⟩
 ·rename_i g b t b' h1 h2
  simp only[Bool.and_eq_true]at hg
  obtain ⟨hb,hd⟩:=hg
  have hbb:b=b':=by cases b<;>simp_all
  subst hbb
  split at hd
  ·rename_i o2 ho2
   have aOy:=aST hd
   refine ⟨fun h=>(by rw[h2]at h;cases h),fun t' b' h r hr=> ?_,fun t' b' h hu=> ?_⟩
   ·rw[h2]at h;cases h
    have hv:=hF t
    rw[hr]at hv
    have hv:=hv.of_bool
    have hlt:t<a.tmps.size:=by
     rcases Nat.lt_or_ge t a.tmps.size with h |h
     ·exact h
     ·simp[h,undef]at hv
    have aKR:a.tmps[t]? =some (.bool (at_ r 0).lK):=by
     rw[Array.getElem?_eq_getElem hlt]
     simp[hlt]at hv;rw[hv]
    simp[Region.wanted,h1,yielded,ho2,aOy,aKR]
   ·rw[h2]at h;cases h
    have hv:=hF t
    rw[hu]at hv
    generalize hq:a.tmps.getD t undef=q at hv
    cases hv
    have:∀b,a.tmps[t]? ≠some (.bool b):=fun b e=>by
     rw[Array.getD_eq_getD_getElem?,e]at hq
     simp[undef]at hq
    have hy:yielded ops a.tmps g=none:=by
     simp only[yielded,ho2,Option.bind_some,aOy]
    simp[Region.wanted,h1,hy]
  ·simp at hd
 ·simp at hg
theorem aM8 {A:Type} {ops:Array Oper} {Q:Exit→Act→World→Prop} {base:Nat} {k:Fr→Ev.St→Option A} {res:A} (hpc:aLZ P T E)
 (hQ:∀F St S pl a w,Inv P T Γ S pl St F a w→k F St=some res→Q .normal a w):
 ∀(os:List Oper) (yZ:List fN) (i:Nat) (F:Fr) (St:Ev.St) (S:fB) (pl:Pl) (a:Act) (w:World),os=ops.toList.drop i→aES P T Γ.n ops os yZ=true→
  Inv P T Γ S pl St F a w→aFS E false base yZ [] F St k=some res→wpOps P ops Q (List.range' i os.length) a w
 |[],[],i,F,St,S,pl,a,w,_,_,hI,h=>hQ _ _ _ _ _ _ hI h
 |[],_::_,_,_,_,_,_,_,_,_,h,_,_=>by simp[aES]at h
 |_::_,[],_,_,_,_,_,_,_,_,h,_,_=>by simp[aES]at h
 |o::os,ao::yZ,i,F,St,S,pl,a,w,hos,hok,hI,h=>by
  simp only[aES,aPM,Bool.and_eq_true]at hok
  obtain ⟨⟨⟨⟨hop,aOy⟩,aY9⟩,hgd⟩,aWt⟩:=hok
  have aOy:=aST aOy
  have hoi:ops[i]? =some o:=by
   have:(ops.toList.drop i)[0]? =some o:=by rw[←hos];rfl
   simpa using this
  have a5K:os=ops.toList.drop (i+1):=by
   have:=congrArg List.tail hos
   simpa using this
  simp only[List.length_cons,List.range'_succ,wpOps,hoi]
  obtain ⟨g1,g2,g3⟩:=aL1 (ops:=ops) (o:=o) (ao:=ao) hgd hI.frame
  have hrun:∀F,Inv P T Γ S pl St F a w→opK E F St ao.op base (fun v us rd=>check (!false ||aA2 (us.map (·.1),rd) ao.bef [] 0) (aFS E false base yZ [] (F.put ao.dst v) (aG us St) k))=some res→
   o.wp P a w (wpOps P ops Q (List.range' (i+1) os.length)) Q:=by
   intro F hI h
   rw[aSS]at h
   obtain ⟨⟨av,us,rd⟩,e1,e2⟩:=Option.bind_eq_some_iff.1 h
   obtain ⟨_,e2⟩:=iA e2
   refine aWs hI hpc hop e1 _ _ fun v w' hp=> ?_
   rw[aOy]
   obtain ⟨S',jE,hI'⟩:=hI.step aY9 hp
   exact aM8 hpc hQ os yZ (i+1) _ _ _ _ _ _ a5K aWt hI' e2
  have aZa:∀F,Inv P T Γ S pl St F a w→aFS E false base yZ [] (F.put ao.dst .und) St k=some res→wpOps P ops Q (List.range' (i+1) os.length) (a.put o.dst undef) w:=by
   intro F hI h
   rw[aOy]
   exact aM8 hpc hQ os yZ (i+1) _ _ _ _ _ _ a5K aWt (hI.skip aY9) h
  simp only[aFS]at h
  split at h
  ·rename_i hg
   rw[if_pos (g1 hg)]
   exact .inl (hrun F hI h)
  ·rename_i t b hg
   split at h
   ·rename_i e hr
    rw[g2 t b hg _ hr]
    have hat:(at_ [C.bool e] 0).lK=e:=rfl
    rw[hat]
    split at h
    ·split at h
     ·rename_i hb
      rw[if_pos (by simp[hb])]
      exact .inl (hrun _ (hI.narrow hr hb) h)
     ·rename_i hb
      have hb:e=false:=by simpa using hb
      rw[if_neg (by simp[hb])]
      exact aZa _ (hI.narrow hr hb) h
    ·split at h
     ·rename_i hb
      rw[if_neg (by simp[hb])]
      exact aZa _ (hI.narrow hr hb) h
     ·rename_i hb
      have hb:e=false:=by simpa using hb
      rw[if_pos (by simp[hb])]
      exact .inl (hrun _ (hI.narrow hr hb) h)
   ·rename_i hu
    rw[if_neg (by simp[g3 t b hg hu])]
    exact aZa _ hI h
   ·simp at h
end Go.Ev
namespace Go.Ev
variable {A:Type} {E:Env} {F F':Fr}
variable {S S':St}
theorem aL3 (mx:Bool) (kd:IntKind):∀(xs:List zC) (m:Int) (k:Int→Option A),(∀x∈xs,x.uI F S=x.uI F' S')→aFQ F S mx kd xs m k=aFQ F' S' mx kd xs m k
 |[],_,_,_=>rfl
 |x::xs,m,k,h=>by
  simp only[aFQ,h x (by simp)]
  congr 1;funext k' n;congr 1
  exact aL3 mx kd xs _ k (fun y hy=>h y (by simp[hy]))
theorem aHZ:∀(ls:List L) (xs:List zC) (k:List Row→Option A),(∀x∈xs,x.uI F S=x.uI F' S')→rowsOf F S ls xs k=rowsOf F' S' ls xs k
 |[],[],_,_=>rfl
 |[],_::_,_,_=>rfl
 |_::_,[],_,_=>rfl
 |l::ls,x::xs,k,h=>by
  simp only[rowsOf,h x (by simp)]
  congr 1;funext k' n;congr 1
  exact aHZ ls xs _ (fun y hy=>h y (by simp[hy]))
theorem aIQ (ks:List K):∀(ps:List (Nat×Nat×zC)) (z:Row) (k:Row→Option A),(∀x∈ps.map (fun p=>p.2.2),x.uI F S=x.uI F' S')→uU F S ks ps z k=uU F' S' ks ps z k
 |[],_,_,_=>rfl
 |(off,m,x)::r,z,k,h=>by
  simp only[uU,h x (by simp)]
  congr 1;funext k' n;congr 1
  exact aIQ ks r _ k (fun y hy=>h y (by simp only[List.map_cons,List.mem_cons];exact .inr hy))
theorem aBb (l:L):∀(ps:List (Nat×zC)) (z:List Row) (k:List Row→Option A),(∀x∈ps.map (fun p=>p.2),x.uI F S=x.uI F' S')→fU F S l ps z k=fU F' S' l ps z k
 |[],_,_,_=>rfl
 |(i,x)::r,z,k,h=>by
  simp only[fU,h x (by simp)]
  congr 1;funext k' n;congr 1
  exact aBb l r _ k (fun y hy=>h y (by simp only[List.map_cons,List.mem_cons];exact .inr hy))
theorem aKv:∀(ks:List K) (xs:List zC) (k:Row→Option A),(∀x∈xs,x.uI F S=x.uI F' S')→j4 F S ks xs k=j4 F' S' ks xs k
 |[],[],_,_=>rfl
 |[],_::_,_,_=>rfl
 |_::_,[],_,_=>rfl
 |l::ls,x::xs,k,h=>by
  simp only[j4,h x (by simp)]
  congr 1;funext k' n;congr 1
  exact aKv ls xs _ (fun y hy=>h y (by simp[hy]))
theorem aJ4 (x:Option zC) (d:Int) (k:Int→Option A) (h:∀y∈aOt x,y.uI F S=y.uI F' S'):bnd F S x d k=bnd F' S' x d k:=by
 cases x with
 |none=>rfl
 |some x=>simp only[bnd,h x (by simp[aOt])]
def a3a (F F':Fr) (S S':St) (x:zC):Prop:=x.ev F=x.ev F'∧x.uI F S=x.uI F' S'
theorem aN8:∀(ps:List (Nat×Nat×zC)) (z:List AV) (k:List AV→Option A),(∀x∈ps.map (fun p=>p.2.2),x.ev F=x.ev F')→aKk F ps z k=aKk F' ps z k
 |[],_,_,_=>rfl
 |(off,m,x)::r,z,k,h=>by
  simp only[aKk,h x (by simp)]
  split
  ·congr 1
   exact aN8 r _ k (fun y hy=>h y (by simp only[List.map_cons,List.mem_cons];exact .inr hy))
  ·rfl
theorem map_congr (xs:List zC) (h:∀x∈xs,x.ev F=x.ev F'):xs.map (·.ev F)=xs.map (·.ev F'):=List.map_congr_left h
theorem aM9 (o:Obj) (op:AOp) (base:Nat) (k:AV→Option Obj→Option A) (h:∀x∈aFh op,a3a F F' S S' x):bH E F S o op base k=bH E F' S' o op base k:=by
 have h1:∀x∈aFh op,x.ev F=x.ev F':=fun x hx=>(h x hx).1
 have h2:∀x∈aFh op,x.uI F S=x.uI F' S':=fun x hx=>(h x hx).2
 clear h
 cases op
 case imin mx xs=>
  cases xs with
  |nil=>rfl
  |cons x xs=>
   simp only[bH,h2 x (by simp[aFh])]
   congr 1;funext a b
   exact aL3 mx a xs _ _ (fun y hy=>h2 y (by simp[aFh,hy]))
 case bld l z ps=>exact aIQ _ ps _ _ h2
 case bsl e l n z ps=>exact aBb _ ps _ _ h2
 case bslS id e l n z ps=>
  simp only[bH]
  congr 1
  exact aBb _ ps _ _ h2
 case bslO id e l n z ps=>
  simp only[bH]
  congr 1
  exact aBb _ ps _ _ h2
 case bldA zs ps=>exact aN8 ps _ _ h1
 case call f ps rs xs=>exact aHZ ps xs _ h2
 case callv t ps rs x xs=>
  simp only[bH,h1 x (by simp[aFh])]
  split
  ·congr 1;exact aHZ ps xs _ (fun y hy=>h2 y (by simp[aFh,hy]))
  ·rfl
 case mkf f t ks cs=>exact aKv ks cs _ h2
 case mkfO f cs=>simp only[bH,map_congr cs h1]
 case slc e l x lo hi=>
  have hlo:∀{B:Type} (d:Int) (k:Int→Option B),bnd F S lo d k=bnd F' S' lo d k:=fun d k=>aJ4 lo d k (fun y hy=>h2 y (by simp[aFh,hy]))
  have hhi:∀{B:Type} (d:Int) (k:Int→Option B),bnd F S hi d k=bnd F' S' hi d k:=fun d k=>aJ4 hi d k (fun y hy=>h2 y (by simp[aFh,hy]))
  simp only[bH,h2 x (by simp[aFh]),hlo,hhi]
 case slcS x lo hi=>
  have hlo:∀{B:Type} (d:Int) (k:Int→Option B),bnd F S lo d k=bnd F' S' lo d k:=fun d k=>aJ4 lo d k (fun y hy=>h2 y (by simp[aFh,hy]))
  have hhi:∀{B:Type} (d:Int) (k:Int→Option B),bnd F S hi d k=bnd F' S' hi d k:=fun d k=>aJ4 hi d k (fun y hy=>h2 y (by simp[aFh,hy]))
  simp only[bH,h2 x (by simp[aFh]),hlo,hhi]
 all_goals simp only[aFh,List.mem_cons,List.mem_singleton,List.not_mem_nil,or_false,forall_eq_or_imp,forall_eq]at h1 h2
 all_goals first
  |rfl
  |simp only[bH,h1,h2]
  |simp only[bH,h1.1,h1.2,h2.1,h2.2]
  |simp only[bH,h1.1,h1.2.1,h1.2.2,h2.1,h2.2.1,h2.2.2]
  |simp only[bH,h1]
  |simp only[bH,h2]
theorem aXr (op:AOp) (base:Nat) (h:∀x∈aFh op,x.ev F=x.ev F'):tgt F op base=tgt F' op base:=by
 cases op<;>first
  |rfl
  |(simp only[tgt];first |rw[h _ (by simp[aFh])])
theorem aPN (f:Nat) (x:Option zC) (args:List zC) (k:List AV→Option A) (h:∀y∈aOt x++args,y.ev F=y.ev F'):nN F f x args k=nN F' f x args k:=by
 have hm:=map_congr args (fun y hy=>h y (List.mem_append_right _ hy))
 unfold nN
 cases x with
 |none=>simp only[hm]
 |some y=>
  have:=h y (by simp[aOt])
  simp only[this,hm]
theorem aT5 (op:AOp) (h:∀x∈aFh op,x.ev F=x.ev F'):aFw F op=aFw F' op:=by
 unfold aFw
 generalize aFh op=l at h
 induction l with
 |nil=>rfl
 |cons x l ih=>simp only[List.flatMap_cons,h x (by simp),ih (fun y hy=>h y (by simp[hy]))]
theorem aWu {x:zC} (h:x.ev F=x.ev F'):a3a F F' S S x:=⟨h,by simp only[zC.uI,h]⟩
theorem aNa (S:St) (op:AOp) (base:Nat) (h:∀x∈aFh op,x.ev F=x.ev F'):op1 E F S op base=op1 E F' S op base:=by
 unfold op1
 have a0T:=aT5 op h
 by_cases hc:∃i f en ex ids new x args,op= .nB i f en ex ids new x args
 ·obtain ⟨i,f,en,ex,ids,new,x,args,rfl⟩:=hc
  simp only[opK,a0T]
  exact aPN f x args _ h
 ·have h1:∀i f en ex ids new x args,op≠ .nB i f en ex ids new x args:=fun i f en ex ids new x args e=>hc ⟨i,f,en,ex,ids,new,x,args,e⟩
  rw[aCm h1,aCm h1,aXr op base h,a0T]
  split
  ·exact aM9 _ _ _ _ (fun x hx=>aWu (h x hx))
  ·congr 1;funext o
   exact aM9 _ _ _ _ (fun x hx=>aWu (h x hx))
theorem aPO {ids:List Nat} {i:Nat} (h:i<ids.length):ids.getD i 0∈ids:=by
 rw[List.getD_eq_getElem?_getD,List.getElem?_eq_getElem h];exact List.getElem_mem h
mutual
theorem aPa {S S':St}:∀(v:AV),(∀id∈v.aMV,S'[id]? =S[id]?)→v.dat S'=v.dat S
 | .sw i u,h=>by simp only[AV.dat,h i (by simp[AV.aMV])]
 | .agg vs,h=>by simp only[AV.dat,aPP vs (by simpa[AV.aMV]using h)]
 | .undef,_=>by simp[AV.dat]
 | .und,_=>by simp[AV.dat]
 | .d _ _,_=>by simp[AV.dat]
 | .ptr _ _,_=>by simp[AV.dat]
 | .uL _ _ _ _,_=>by simp[AV.dat]
 | .whole _ _,_=>by simp[AV.dat]
 | .own _ _ _ _,_=>by simp[AV.dat]
 | .fn _ _,_=>by simp[AV.dat]
 | .tup _,_=>by simp[AV.dat]
 | .map _,_=>by simp[AV.dat]
 | .dF _,_=>by simp[AV.dat]
 | .aFf _ _,_=>by simp[AV.dat]
theorem aPP {S S':St}:∀(vs:List AV),(∀id∈AV.aAZ vs,S'[id]? =S[id]?)→AV.aHz S' vs=AV.aHz S vs
 |[],_=>by simp[AV.aHz]
 |v::vs,h=>by
  simp only[AV.aAZ,List.mem_append]at h
  simp only[AV.aHz,aPa v (fun id hi=>h id (.inl hi)),aPP vs (fun id hi=>h id (.inr hi))]
end
theorem aZb {x:zC} (h:∀id∈(x.ev F).aMV,S'[id]? =S[id]?):a3a F F S' S x:=⟨rfl,by simp only[zC.uI,aPa _ h]⟩
section
variable {S S':St} {ids:List Nat}
theorem aKw:∀(ks:List K) (r:Row) (i:Nat),AV.aAZ (cellsOf ks r i)=[]
 |[],_,_=>rfl
 |k::ks,r,i=>by simp[cellsOf,AV.aAZ,AV.aMV,aKw ks r (i+1)]
def a8T (S S':St) (co:Bool) (v:AV):Prop:=co=true→∀id∈v.aMV,S'[id]? =S[id]?
def a5L (S S':St) (co:Bool) (vs:List AV):Prop:=co=true→∀id∈AV.aAZ vs,S'[id]? =S[id]?
mutual
theorem aRS (hl:∀id∈ids,S'[id]? =S[id]?) (m:Nat) (co:Bool):∀(s:Sh) (v:AV),a8T S S' co v→Sh.under ids.length s=true→kF S' m co (Sh.lE ids s) v=kF S m co (Sh.lE ids s) v
 | .d l,v,hc,_=>by
   cases v with
   |sw i u=>
    simp only[Sh.lE,kF]
    cases co with
    |false=>rfl
    |true=>rw[aPa _ (hc rfl)]
   |agg vs=>
    simp only[Sh.lE,kF]
    cases co with
    |false=>rfl
    |true=>rw[aPa _ (hc rfl)]
   |_=>simp[Sh.lE,kF]
 | .ptr i o,v,_,_=>by cases v<;>simp[Sh.lE,kF]
 | .whole i,v,_,h=>by
   cases v with
   |whole i' nO=>
    simp only[Sh.lE,kF]
    have hi:i<ids.length:=by simpa[Sh.under]using h
    by_cases e:i'=ids.getD i 0
    ·rw[e,hl _ (aPO hi)]
    ·have hb:Nat.beq (ids.getD i 0) i'=false:=by
      cases hq:Nat.beq (ids.getD i 0) i' with
      |false=>rfl
      |true=>exact absurd (Nat.eq_of_beq_eq_true hq).symm e
     simp only[hb,Bool.false_and]
     split<;>split<;>rfl
   |_=>simp[Sh.lE,kF]
 | .sw i,v,_,h=>by
   cases v with
   |sw i' nO=>
    simp only[Sh.lE,kF]
    have hi:i<ids.length:=by simpa[Sh.under]using h
    by_cases e:i'=ids.getD i 0
    ·rw[e,hl _ (aPO hi)]
    ·have hb:Nat.beq (ids.getD i 0) i'=false:=by
      cases hq:Nat.beq (ids.getD i 0) i' with
      |false=>rfl
      |true=>exact absurd (Nat.eq_of_beq_eq_true hq).symm e
     simp only[hb,Bool.false_and]
     split<;>split<;>rfl
   |_=>simp[Sh.lE,kF]
 | .fn f cs,v,hc,h=>by
   cases v with
   |fn f' vs=>
    simp only[Sh.lE,kF]
    rw[aCn hl m co cs vs (fun hq id hi=>hc hq id (by simpa[AV.aMV]using hi)) (by simpa[Sh.under]using h)]
   |_=>simp[Sh.lE,kF]
 | .agg cs,v,hc,h=>by
   cases v with
   |agg vs=>
    simp only[Sh.lE,kF]
    rw[aCn hl m co cs vs (fun hq id hi=>hc hq id (by simpa[AV.aMV]using hi)) (by simpa[Sh.under]using h)]
   |d l row=>
    simp only[Sh.lE,kF]
    rw[aCn hl m co cs (cellsOf l.ks row 0) (fun hq id hi=>by rw[aKw]at hi;cases hi) (by simpa[Sh.under]using h)]
   |_=>simp[Sh.lE,kF]
 | .map i,v,_,_=>by cases v<;>simp[Sh.lE,kF]
 | .aOr i,v,_,_=>by cases v<;>simp[Sh.lE,kF]
 | .dF i,v,_,_=>by cases v<;>simp[Sh.lE,kF]
 | .uL i,v,_,h=>by
   cases v with
   |uL i' nO idx off=>
    simp only[Sh.lE,kF]
    have hi:i<ids.length:=by simpa[Sh.under]using h
    by_cases e:i'=ids.getD i 0
    ·rw[e,hl _ (aPO hi)]
    ·have hb:Nat.beq (ids.getD i 0) i'=false:=by
      cases hq:Nat.beq (ids.getD i 0) i' with
      |false=>rfl
      |true=>exact absurd (Nat.eq_of_beq_eq_true hq).symm e
     simp only[hb,Bool.false_and]
     split<;>split<;>rfl
   |_=>simp[Sh.lE,kF]
theorem aCn (hl:∀id∈ids,S'[id]? =S[id]?) (m:Nat) (co:Bool):∀(ss:List Sh) (vs:List AV),a5L S S' co vs→Sh.aDF ids.length ss=true→qW S' m co (Sh.dZ ids ss) vs=qW S m co (Sh.dZ ids ss) vs
 |[],[],_,_=>rfl
 |[],_::_,_,_=>rfl
 |_::_,[],_,_=>rfl
 |s::ss,v::vs,hc,h=>by
  simp only[Sh.aDF,Bool.and_eq_true]at h
  simp only[Sh.dZ,qW]
  rw[aRS hl m co s v (fun hq id hi=>hc hq id (by simp only[AV.aAZ,List.mem_append];exact .inl hi)) h.1,aCn hl m co ss vs (fun hq id hi=>hc hq id (by simp only[AV.aAZ,List.mem_append];exact .inr hi)) h.2]
end
theorem aXs (hl:∀id∈ids,S'[id]? =S[id]?) (m:Nat) (s:vO) (o:Obj) (h:vO.under ids.length s=true):tY S' m (s.lE ids) o=tY S m (s.lE ids) o:=by
 cases s with
 |cells c vs=>
  have:=fun sL=>aCn hl m false vs sL (fun hq=>by cases hq) (by simpa[vO.under]using h)
  cases o<;>simp only[vO.lE,tY,this]
  all_goals cases vs<;>simp[Sh.dZ,tY]
 |dF l s=>
  have:=fun av=>aRS hl m false s av (fun hq=>by cases hq) (by simpa[vO.under]using h)
  cases o<;>simp only[vO.lE,tY,this]
 |_=>cases o<;>simp[vO.lE,tY]
theorem aPQ (hl:∀id∈ids,S'[id]? =S[id]?) (hlen:S'.length=S.length):∀(is:List Nat) (ss:List vO),(∀i∈is,i∈ids)→ss.all (vO.under ids.length)=true→aFR S' ids is ss=aFR S ids is ss
 |[],[],_,_=>rfl
 |[],_::_,_,_=>rfl
 |_::_,[],_,_=>rfl
 |i::is,s::ss,hi,h=>by
  simp only[List.all_cons,Bool.and_eq_true]at h
  simp only[aFR]
  rw[hl i (hi i (by simp)),aPQ hl hlen is ss (fun j hj=>hi j (by simp[hj])) h.2,hlen]
  split
  ·rw[aXs hl S.length s _ h.1]
  ·rfl
theorem aPR {n:Nat}:∀(ss:List (Nat×Sh)),(ss.all fun p=>Sh.under n p.2)=true→Sh.aDF n (ss.map (·.2))=true
 |[],_=>rfl
 |p::ss,h=>by
  simp only[List.all_cons,Bool.and_eq_true]at h
  simp only[List.map_cons,Sh.aDF,h.1,aPR ss h.2,Bool.and_self]
theorem aXt (hl:∀id∈ids,S'[id]? =S[id]?) (hlen:S'.length=S.length) (en:Shape) (vs:List AV) (hc:∀id∈AV.aAZ vs,S'[id]? =S[id]?) (h:Shape.under ids.length en=true):aPm S' ids en vs=aPm S ids en vs:=by
 simp only[Shape.under,Bool.and_eq_true]at h
 unfold aPm
 rw[hlen,aCn hl S.length true _ vs (fun _=>hc) (aPR _ h.1),aPQ hl hlen ids en.objs (fun i hi=>hi) h.2]
theorem aN9:∀(is:List Nat),(∀i∈is,S'[i]? =S[i]?)→aFv S' is=aFv S is
 |[],_=>rfl
 |i::is,h=>by simp only[aFv];rw[h i (by simp),aN9 is (fun j hj=>h j (by simp[hj]))]
end
theorem aL4:∀(a b:List AV),AV.aAZ (a++b)=AV.aAZ a++AV.aAZ b
 |[],_=>rfl
 |v::a,b=>by simp[AV.aAZ,aL4 a b]
theorem aNb (F:Fr):∀(xs:List zC),AV.aAZ (xs.map (·.ev F))=xs.flatMap fun x=>(x.ev F).aMV
 |[]=>rfl
 |x::xs=>by simp[AV.aAZ,aNb F xs]
theorem aQM {F:Fr} {f:Nat} {x:Option zC} {args:List zC} {k:List AV→Option A} {r:A} (h:nN F f x args k=some r):∃vs,k vs=some r∧(∀id∈AV.aAZ vs,id∈(aOt x++args).flatMap fun x=>(x.ev F).aMV)∧∀{B:Type} (k':List AV→Option B),nN F f x args k'=k' vs:=by
 unfold nN at h
 split at h
 ·exact ⟨_,h,fun id hi=>by rw[aNb]at hi;simpa[aOt]using hi,fun k'=>rfl⟩
 ·split at h
  ·rename_i e
   obtain ⟨hb,h⟩:=iA h
   refine ⟨_,h,fun id hi=> ?_,fun k'=>by simp[nN,e,hb,check]⟩
   rw[aL4,aNb]at hi
   simp only[aOt,List.singleton_append,List.flatMap_cons,List.mem_append,e,AV.aMV]
   rcases List.mem_append.1 hi with hi |hi
   ·exact .inr hi
   ·exact .inl hi
  ·simp at h
theorem aRT {S S':St} {all iC:List Nat}:∀(is vs:List Nat) (os:List Obj),(∀id∈is,S'[id]? =S[id]?)→aB8 S' (eO all iC is vs os)=aB8 S (eO all iC is vs os)
 |[],_,_,_=>by simp[eO,aB8]
 |i::is,[],_,_=>by simp[eO,aB8]
 |i::is,v::vs,[],_=>by simp[eO,aB8]
 |i::is,v::vs,o::os,h=>by
  have ih:=aRT (all:=all) (iC:=iC) is vs os (fun id hid=>h id (by simp[hid]))
  simp only[eO,aB8,aKh,h i (by simp),ih]
theorem aWv {S S':St} {op:AOp} {base:Nat} {v:AV} {us:List (Nat×Obj)} {rd:List Nat} (h:op1 E F S op base=some (v,us,rd)) (hl:S'.length=S.length) (hr:∀id∈rd,S'[id]? =S[id]?):op1 E F S' op base=some (v,us,rd):=by
 unfold op1 at h⊢
 by_cases hc:∃i f en ex ids new x args,op= .nB i f en ex ids new x args
 ·obtain ⟨i,f,en,ex,ids,new,x,args,rfl⟩:=hc
  simp only[opK]at h⊢
  obtain ⟨vs,h1,a0T,h2⟩:=aQM h
  rw[h2]
  obtain ⟨hck,h3⟩:=iA h1
  obtain ⟨ps,e1,h4⟩:=Option.bind_eq_some_iff.1 h3
  obtain ⟨ps',e2,h5⟩:=Option.bind_eq_some_iff.1 h4
  simp only[Option.some.injEq,Prod.mk.injEq]at h5
  have hall:∀id∈ids++eF (base+new) (ex.objs.length - ids.length),S'[id]? =S[id]? :=fun id hid=>hr id (by rw[←h5.2.2];exact List.mem_append_left _ hid)
  have a5M:∀id∈AV.aAZ vs,S'[id]? =S[id]? :=fun id hid=>hr id (by rw[←h5.2.2];exact List.mem_append_right _ (a0T id hid))
  simp only[Bool.and_eq_true]at hck
  rw[aXt (fun id hid=>hall id (List.mem_append_left _ hid)) hl en vs a5M hck.1.1.1.1.1,aN9 _ (fun id hid=>hall id (List.mem_append_right _ hid))]
  have hv:(ids++eF (base+new) (ex.objs.length - ids.length)).map (aIL S')=(ids++eF (base+new) (ex.objs.length - ids.length)).map (aIL S):=
   List.map_congr_left fun id hid=>by simp only[aIL,hall id hid]
  rw[hv]
  have hk:∀os,aB8 S' (eO (ids++eF (base+new) (ex.objs.length - ids.length)) ((ids++eF (base+new) (ex.objs.length - ids.length)).map (aIL S)) (ids++eF (base+new) (ex.objs.length - ids.length)) ((ids++eF (base+new) (ex.objs.length - ids.length)).map (aIL S)) os)=aB8 S (eO (ids++eF (base+new) (ex.objs.length - ids.length)) ((ids++eF (base+new) (ex.objs.length - ids.length)).map (aIL S)) (ids++eF (base+new) (ex.objs.length - ids.length)) ((ids++eF (base+new) (ex.objs.length - ids.length)).map (aIL S)) os):=
   fun os=>aRT _ _ os hall
  simp only[hk]
  exact h1
 ·have h1:∀i f en ex ids new x args,op≠ .nB i f en ex ids new x args:=fun i f en ex ids new x args e=>hc ⟨i,f,en,ex,ids,new,x,args,e⟩
  rw[aCm h1]at h⊢
  have hsame:(∀id∈aFw F op,S'[id]? =S[id]?)→∀(ob:Obj) {B:Type} (k:AV→Option Obj→Option B),bH E F S' ob op base k=bH E F S ob op base k:=fun hq ob B k=>
   aM9 ob op base k (fun x hx=>aZb fun id hid=>hq id (by simp only[aFw,List.mem_flatMap];exact ⟨x,hx,hid⟩))
  split at h
  ·have:rd=aFw F op:=by
    rw[aCU]at h
    obtain ⟨q,e1,e2⟩:=Option.bind_eq_some_iff.1 h
    simp only[Option.some.injEq,Prod.mk.injEq]at e2
    exact e2.2.2.symm
   rw[hsame (fun id hid=>hr id (by rw[this];exact hid))];exact h
  ·rename_i id ht
   have:rd=id::aFw F op:=by
    unfold aEL at h
    split at h
    ·dsimp only at h
     rw[aCU]at h
     obtain ⟨q,e1,e2⟩:=Option.bind_eq_some_iff.1 h
     simp only[Option.some.injEq,Prod.mk.injEq]at e2
     exact e2.2.2.symm
    ·simp at h
   unfold aEL at h⊢
   rw[hr id (by rw[this];simp)]
   have hq:=hsame (fun i hi=>hr i (by rw[this];exact List.mem_cons_of_mem _ hi))
   simp only[hq];exact h
end Go.Ev
