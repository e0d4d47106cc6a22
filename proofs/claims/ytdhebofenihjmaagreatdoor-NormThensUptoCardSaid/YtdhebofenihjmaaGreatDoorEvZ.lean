/-
  Tables, row by row.
-/
import Derived.Test.YtdhebofenihjmaaGreatDoorEvX
set_option linter.all false
set_option maxRecDepth 100000
namespace Go.Ev
def a33 (P:Program) (T:Nat→yF) (f:Nat):yF→Prop
 | .none=>True
 | .cmp=>aXp P f
 | .ixb=>aXo P f
 | .fR _ _ _=>True
 | .imp af=>aN P T af=true
 | .code af=>nB P T f af=true
 | .given ps rs g=>aIn P T f ps rs g
def a2F (P:Program) (T:Nat→yF):Nat→List yF→Prop
 |_,[]=>True
 |k,a::r=>a33 P T k a∧a2F P T (k+1) r
theorem aXN {P:Program} {T:Nat→yF}:∀(l:List yF) (k i:Nat),a2F P T k l→a33 P T (k+i) (l.getD i .none)
 |[],k,i,_=>by simp[a33]
 |a::r,k,0,h=>h.1
 |a::r,k,i+1,h=>by
  have:=aXN r (k+1) i h.2
  rw[show k+1+i=k+(i+1) by omega]at this
  exact this
def aTv (tab gl:List yF) (f:Nat):yF:=if Nat.blt f oZ=true then tab.getD f .none else gl.getD (f - oZ) .none
def yF.a2G:yF→Bool
 | .fR _ _ _=>true
 | .none=>true
 |_=>false
theorem aXO {P:Program} {tab gl:List yF} (h:a2F P (aTv tab gl) 0 tab) (hg:gl.all yF.a2G=true):a0J P (aTv tab gl):=by
 intro f
 by_cases hf:Nat.blt f oZ=true
 ·have:=aXN tab 0 f h
  rw[Nat.zero_add]at this
  have e:aTv tab gl f=tab.getD f .none:=by unfold aTv;rw[if_pos hf]
  rw[e]
  simp only[a33]at this
  exact this
 ·have e:aTv tab gl f=gl.getD (f - oZ) .none:=by unfold aTv;rw[if_neg hf]
  rw[e]
  have hb:yF.a2G (gl.getD (f - oZ) .none)=true:=by
   rw[List.getD_eq_getElem?_getD]
   cases hx:gl[f - oZ]? with
   |none=>rfl
   |some a=>exact List.all_eq_true.1 hg a (List.mem_of_getElem? hx)
  cases hx:gl.getD (f - oZ) .none<;>rw[hx]at hb<;>first |trivial |(simp[yF.a2G]at hb;done)
end Go.Ev
namespace Go.Ev
abbrev lI:L:= .one (.int .i64)
abbrev lB:L:= .one .bool
abbrev lS:L:= .one .str
abbrev lU:L:= .one (.int .u8)
abbrev lW:L:= .one (.int .u64)
def tl:Nat→List PV→List PV
 |0,x=>x
 |n+1,x=>(tl n x).tail
def gR (n:Nat) (x:List PV):Row:=hd (tl n x)
def gC (n:Nat) (x:List PV):C:=at_ (hd (tl n x)) 0
def gI (n:Nat) (x:List PV):Int:=(at_ (hd (tl n x)) 0).uA
def gB (n:Nat) (x:List PV):Bool:=(at_ (hd (tl n x)) 0).rJ
def gS (n:Nat) (x:List PV):List UInt8:=(at_ (hd (tl n x)) 0).qE
def gM (n:Nat) (x:List PV):List (Row×Row):=((tl n x).headD (.m [])).es
theorem aLr:∀(n:Nat) (p:PV) (x:List PV),tl (n+1) (p::x)=tl n x
 |0,_,_=>rfl
 |n+1,p,x=>by rw[tl,aLr n p x];rfl
@[simp] theorem oD (n:Nat) (p:PV) (x:List PV):gR (n+1) (p::x)=gR n x:=by simp only[gR,aLr]
@[simp] theorem eC (n:Nat) (p:PV) (x:List PV):gC (n+1) (p::x)=gC n x:=by simp only[gC,aLr]
@[simp] theorem wC (n:Nat) (p:PV) (x:List PV):gI (n+1) (p::x)=gI n x:=by simp only[gI,aLr]
@[simp] theorem cC (n:Nat) (p:PV) (x:List PV):gB (n+1) (p::x)=gB n x:=by simp only[gB,aLr]
@[simp] theorem dF (n:Nat) (p:PV) (x:List PV):gS (n+1) (p::x)=gS n x:=by simp only[gS,aLr]
@[simp] theorem aH (n:Nat) (p:PV) (x:List PV):gM (n+1) (p::x)=gM n x:=by simp only[gM,aLr]
@[simp] theorem eD (r:Row) (x:List PV):gR 0 (.r r::x)=r:=rfl
@[simp] theorem uB (c:C) (r:Row) (x:List PV):gC 0 (.r (c::r)::x)=c:=rfl
@[simp] theorem qC (i:Int) (r:Row) (x:List PV):gI 0 (.r (.int i::r)::x)=i:=rfl
@[simp] theorem zB (b:Bool) (r:Row) (x:List PV):gB 0 (.r (.bool b::r)::x)=b:=rfl
@[simp] theorem yE (s:List UInt8) (r:Row) (x:List PV):gS 0 (.r (.str s::r)::x)=s:=rfl
@[simp] theorem bH (e:List (Row×Row)) (x:List PV):gM 0 (.m e::x)=e:=rfl
abbrev OP:Type:=Option (Nat×List PV)
theorem lq {T:Nat→yF} {c:rB} {sh:Shape} {outs:List (eB×Shape)} {α:Sort _} (F:(List PV→Option (Nat×List PV))→α) {y:α} (h:F (stepOf (eA T) c sh outs ((eA T).fix (stepOf (eA T) c sh outs)))=y):F ((eA T).fix (stepOf (eA T) c sh outs))=y:=
 (congrArg F (funext fun ps=>a7l T c sh outs ps)).trans h
end Go.Ev
