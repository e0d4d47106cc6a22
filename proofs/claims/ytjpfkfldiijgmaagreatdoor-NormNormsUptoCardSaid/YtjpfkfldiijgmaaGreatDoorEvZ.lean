/-
  Tables, row by row.
-/
import Derived.Test.YtjpfkfldiijgmaaGreatDoorEvX
set_option linter.all false
set_option maxRecDepth 100000
namespace Go.Ev
def a4h (P:Program) (T:Nat→yF) (f:Nat):yF→Prop
 | .none=>True
 | .cmp=>aXx P f
 | .ixb=>aXw P f
 | .rR _ _ _=>True
 | .imp af=>jN P T af=true
 | .code af=>nB P T f af=true
 | .given ps rs g=>aIA P T f ps rs g
def a2S (P:Program) (T:Nat→yF):Nat→List yF→Prop
 |_,[]=>True
 |k,a::r=>a4h P T k a∧a2S P T (k+1) r
theorem aXW {P:Program} {T:Nat→yF}:∀(l:List yF) (k i:Nat),a2S P T k l→a4h P T (k+i) (l.getD i .none)
 |[],k,i,_=>by simp[a4h]
 |a::r,k,0,h=>h.1
 |a::r,k,i+1,h=>by
  have:=aXW r (k+1) i h.2
  rw[show k+1+i=k+(i+1) by omega]at this
  exact this
def aTD (tab gl:List yF) (f:Nat):yF:=if Nat.blt f xZ=true then tab.getD f .none else gl.getD (f - xZ) .none
def yF.a2T:yF→Bool
 | .rR _ _ _=>true
 | .none=>true
 |_=>false
theorem aXX {P:Program} {tab gl:List yF} (h:a2S P (aTD tab gl) 0 tab) (hg:gl.all yF.a2T=true):a0Q P (aTD tab gl):=by
 intro f
 by_cases hf:Nat.blt f xZ=true
 ·have:=aXW tab 0 f h
  rw[Nat.zero_add]at this
  have e:aTD tab gl f=tab.getD f .none:=by unfold aTD;rw[if_pos hf]
  rw[e]
  simp only[a4h]at this
  exact this
 ·have e:aTD tab gl f=gl.getD (f - xZ) .none:=by unfold aTD;rw[if_neg hf]
  rw[e]
  have hb:yF.a2T (gl.getD (f - xZ) .none)=true:=by
   rw[List.getD_eq_getElem?_getD]
   cases hx:gl[f - xZ]? with
   |none=>rfl
   |some a=>exact List.all_eq_true.1 hg a (List.mem_of_getElem? hx)
  cases hx:gl.getD (f - xZ) .none<;>rw[hx]at hb<;>first |trivial |(simp[yF.a2T]at hb;done)
end Go.Ev
namespace Go.Ev
abbrev lI:L:= .one (.int .i64)
abbrev lB:L:= .one .bool
abbrev lS:L:= .one .str
abbrev lU:L:= .one (.int .u8)
abbrev lW:L:= .one (.int .u64)
def tl:Nat→List PV→List PV
 |0,x=>x
 |n+1,x=>(tl n x).tail
def gR (n:Nat) (x:List PV):Row:=hd (tl n x)
def gC (n:Nat) (x:List PV):C:=at_ (hd (tl n x)) 0
def gI (n:Nat) (x:List PV):Int:=(at_ (hd (tl n x)) 0).tA
def gB (n:Nat) (x:List PV):Bool:=(at_ (hd (tl n x)) 0).wJ
def gS (n:Nat) (x:List PV):List UInt8:=(at_ (hd (tl n x)) 0).mE
def gM (n:Nat) (x:List PV):List (Row×Row):=((tl n x).headD (.m [])).es
theorem aLC:∀(n:Nat) (p:PV) (x:List PV),tl (n+1) (p::x)=tl n x
 |0,_,_=>rfl
 |n+1,p,x=>by rw[tl,aLC n p x];rfl
@[simp] theorem nD (n:Nat) (p:PV) (x:List PV):gR (n+1) (p::x)=gR n x:=by simp only[gR,aLC]
@[simp] theorem iC (n:Nat) (p:PV) (x:List PV):gC (n+1) (p::x)=gC n x:=by simp only[gC,aLC]
@[simp] theorem wC (n:Nat) (p:PV) (x:List PV):gI (n+1) (p::x)=gI n x:=by simp only[gI,aLC]
@[simp] theorem cC (n:Nat) (p:PV) (x:List PV):gB (n+1) (p::x)=gB n x:=by simp only[gB,aLC]
@[simp] theorem aF (n:Nat) (p:PV) (x:List PV):gS (n+1) (p::x)=gS n x:=by simp only[gS,aLC]
@[simp] theorem eH (n:Nat) (p:PV) (x:List PV):gM (n+1) (p::x)=gM n x:=by simp only[gM,aLC]
@[simp] theorem jD (r:Row) (x:List PV):gR 0 (.r r::x)=r:=rfl
@[simp] theorem xB (c:C) (r:Row) (x:List PV):gC 0 (.r (c::r)::x)=c:=rfl
@[simp] theorem rC (i:Int) (r:Row) (x:List PV):gI 0 (.r (.int i::r)::x)=i:=rfl
@[simp] theorem aC (b:Bool) (r:Row) (x:List PV):gB 0 (.r (.bool b::r)::x)=b:=rfl
@[simp] theorem wE (s:List UInt8) (r:Row) (x:List PV):gS 0 (.r (.str s::r)::x)=s:=rfl
@[simp] theorem fH (e:List (Row×Row)) (x:List PV):gM 0 (.m e::x)=e:=rfl
abbrev OP:Type:=Option (Nat×List PV)
theorem lq {T:Nat→yF} {c:rB} {sh:Shape} {outs:List (eB×Shape)} {α:Sort _} (F:(List PV→Option (Nat×List PV))→α) {y:α} (h:F (stepOf (cA T) c sh outs ((cA T).fix (stepOf (cA T) c sh outs)))=y):F ((cA T).fix (stepOf (cA T) c sh outs))=y:=
 (congrArg F (funext fun ps=>a7y T c sh outs ps)).trans h
end Go.Ev
