/-
  Tables, row by row.
-/
import Derived.Test.YtfonaepdedbhhaaGreatDoorEvX
set_option linter.all false
set_option maxRecDepth 100000
namespace Go.Ev
def aWG (P:Program) (T:Nat→gG) (f:Nat):gG→Prop
 | .none=>True
 | .cmp=>aRF P f
 | .ixb=>aRE P f
 | .zL _ _ _=>True
 | .imp af=>rO P T af=true
 | .code af=>rB P T f af=true
 | .given ps rs g=>s6 P T f ps rs g
def aVv (P:Program) (T:Nat→gG):Nat→List gG→Prop
 |_,[]=>True
 |k,a::r=>aWG P T k a∧aVv P T (k+1) r
theorem aR2 {P:Program} {T:Nat→gG}:∀(l:List gG) (k i:Nat),aVv P T k l→aWG P T (k+i) (l.getD i .none)
 |[],k,i,_=>by simp[aWG]
 |a::r,k,0,h=>h.1
 |a::r,k,i+1,h=>by
  have:=aR2 r (k+1) i h.2
  rw[show k+1+i=k+(i+1) by omega]at this
  exact this
def aPZ (tab gl:List gG) (f:Nat):gG:=if Nat.blt f pN=true then tab.getD f .none else gl.getD (f - pN) .none
def gG.aVw:gG→Bool
 | .zL _ _ _=>true
 | .none=>true
 |_=>false
theorem aR3 {P:Program} {tab gl:List gG} (h:aVv P (aPZ tab gl) 0 tab) (hg:gl.all gG.aVw=true):aUc P (aPZ tab gl):=by
 intro f
 by_cases hf:Nat.blt f pN=true
 ·have:=aR2 tab 0 f h
  rw[Nat.zero_add]at this
  have e:aPZ tab gl f=tab.getD f .none:=by unfold aPZ;rw[if_pos hf]
  rw[e]
  simp only[aWG]at this
  exact this
 ·have e:aPZ tab gl f=gl.getD (f - pN) .none:=by unfold aPZ;rw[if_neg hf]
  rw[e]
  have hb:gG.aVw (gl.getD (f - pN) .none)=true:=by
   rw[List.getD_eq_getElem?_getD]
   cases hx:gl[f - pN]? with
   |none=>rfl
   |some a=>exact List.all_eq_true.1 hg a (List.mem_of_getElem? hx)
  cases hx:gl.getD (f - pN) .none<;>rw[hx]at hb<;>first |trivial |(simp[gG.aVw]at hb;done)
end Go.Ev
namespace Go.Ev
abbrev lI:L:= .one (.int .i64)
abbrev lB:L:= .one .bool
abbrev lS:L:= .one .str
abbrev lU:L:= .one (.int .u8)
abbrev lW:L:= .one (.int .u64)
abbrev oq (n:Nat) (o:AOp):fN:=⟨some n,o,none,[]⟩
def tl:Nat→List PV→List PV
 |0,x=>x
 |n+1,x=>(tl n x).tail
def gR (n:Nat) (x:List PV):Row:=hd (tl n x)
def gC (n:Nat) (x:List PV):C:=at_ (hd (tl n x)) 0
def gI (n:Nat) (x:List PV):Int:=(at_ (hd (tl n x)) 0).vA
def gB (n:Nat) (x:List PV):Bool:=(at_ (hd (tl n x)) 0).lK
def gS (n:Nat) (x:List PV):List UInt8:=(at_ (hd (tl n x)) 0).mD
def gM (n:Nat) (x:List PV):List (Row×Row):=((tl n x).headD (.m [])).es
theorem aH3:∀(n:Nat) (p:PV) (x:List PV),tl (n+1) (p::x)=tl n x
 |0,_,_=>rfl
 |n+1,p,x=>by rw[tl,aH3 n p x];rfl
@[simp] theorem oD (n:Nat) (p:PV) (x:List PV):gR (n+1) (p::x)=gR n x:=by simp only[gR,aH3]
@[simp] theorem sC (n:Nat) (p:PV) (x:List PV):gC (n+1) (p::x)=gC n x:=by simp only[gC,aH3]
@[simp] theorem wC (n:Nat) (p:PV) (x:List PV):gI (n+1) (p::x)=gI n x:=by simp only[gI,aH3]
@[simp] theorem tC (n:Nat) (p:PV) (x:List PV):gB (n+1) (p::x)=gB n x:=by simp only[gB,aH3]
@[simp] theorem fD (n:Nat) (p:PV) (x:List PV):gS (n+1) (p::x)=gS n x:=by simp only[gS,aH3]
@[simp] theorem pH (n:Nat) (p:PV) (x:List PV):gM (n+1) (p::x)=gM n x:=by simp only[gM,aH3]
@[simp] theorem cD (r:Row) (x:List PV):gR 0 (.r r::x)=r:=rfl
@[simp] theorem kC (c:C) (r:Row) (x:List PV):gC 0 (.r (c::r)::x)=c:=rfl
@[simp] theorem oC (i:Int) (r:Row) (x:List PV):gI 0 (.r (.int i::r)::x)=i:=rfl
@[simp] theorem uC (b:Bool) (r:Row) (x:List PV):gB 0 (.r (.bool b::r)::x)=b:=rfl
@[simp] theorem dD (s:List UInt8) (r:Row) (x:List PV):gS 0 (.r (.str s::r)::x)=s:=rfl
@[simp] theorem qH (e:List (Row×Row)) (x:List PV):gM 0 (.m e::x)=e:=rfl
end Go.Ev
