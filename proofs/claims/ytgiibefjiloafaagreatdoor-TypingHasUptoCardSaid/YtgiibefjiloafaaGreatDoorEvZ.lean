/-
  Tables, row by row.
-/
import Derived.Test.YtgiibefjiloafaaGreatDoorEvX
set_option linter.all false
set_option maxRecDepth 100000
namespace Go.Ev
def RowOk (P:Program) (T:Nat→AFn) (f:Nat):AFn→Prop
 | .none=>True
 | .cmp=>CmpFn P f
 | .ixb=>IxbFn P f
 | .glob _ _ _=>True
 | .imp af=>okImp P T af=true
 | .code af=>okFun P T f af=true
 | .given ps rs g=>GivenOk P T f ps rs g
def RowsOk (P:Program) (T:Nat→AFn):Nat→List AFn→Prop
 |_,[]=>True
 |k,a::r=>RowOk P T k a∧RowsOk P T (k+1) r
theorem rowsOk_at {P:Program} {T:Nat→AFn}:∀(l:List AFn) (k i:Nat),RowsOk P T k l→RowOk P T (k+i) (l.getD i .none)
 |[],k,i,_=>by simp[RowOk]
 |a::r,k,0,h=>h.1
 |a::r,k,i+1,h=>by
  have:=rowsOk_at r (k+1) i h.2
  rw[show k+1+i=k+(i+1) by omega]at this
  exact this
def tabG (tab gl:List AFn) (f:Nat):AFn:=if Nat.blt f gbase=true then tab.getD f .none else gl.getD (f - gbase) .none
def AFn.isGlob:AFn→Bool
 | .glob _ _ _=>true
 | .none=>true
 |_=>false
theorem tabOk_ofG {P:Program} {tab gl:List AFn} (h:RowsOk P (tabG tab gl) 0 tab) (hg:gl.all AFn.isGlob=true):TabOk P (tabG tab gl):=by
 intro f
 by_cases hf:Nat.blt f gbase=true
 ·have:=rowsOk_at tab 0 f h
  rw[Nat.zero_add]at this
  have e:tabG tab gl f=tab.getD f .none:=by unfold tabG;rw[if_pos hf]
  rw[e]
  simp only[RowOk]at this
  exact this
 ·have e:tabG tab gl f=gl.getD (f - gbase) .none:=by unfold tabG;rw[if_neg hf]
  rw[e]
  have hb:AFn.isGlob (gl.getD (f - gbase) .none)=true:=by
   rw[List.getD_eq_getElem?_getD]
   cases hx:gl[f - gbase]? with
   |none=>rfl
   |some a=>exact List.all_eq_true.1 hg a (List.mem_of_getElem? hx)
  cases hx:gl.getD (f - gbase) .none<;>rw[hx]at hb<;>first |trivial |(simp[AFn.isGlob]at hb;done)
end Go.Ev
namespace Go.Ev
abbrev lI:L:= .one (.int .i64)
abbrev lB:L:= .one .bool
abbrev lS:L:= .one .str
abbrev lU:L:= .one (.int .u8)
abbrev lW:L:= .one (.int .u64)
abbrev oq (n:Nat) (o:AOp):AOper:=⟨some n,o,none,[]⟩
abbrev oz (o:AOp):AOper:=⟨none,o,none,[]⟩
def tl:Nat→List PV→List PV
 |0,x=>x
 |n+1,x=>(tl n x).tail
def gR (n:Nat) (x:List PV):Row:=hd (tl n x)
def gC (n:Nat) (x:List PV):C:=at_ (hd (tl n x)) 0
def gI (n:Nat) (x:List PV):Int:=(at_ (hd (tl n x)) 0).toI
def gB (n:Nat) (x:List PV):Bool:=(at_ (hd (tl n x)) 0).toB
def gS (n:Nat) (x:List PV):List UInt8:=(at_ (hd (tl n x)) 0).toS
def gM (n:Nat) (x:List PV):List (Row×Row):=((tl n x).headD (.m [])).es
theorem tl_cons:∀(n:Nat) (p:PV) (x:List PV),tl (n+1) (p::x)=tl n x
 |0,_,_=>rfl
 |n+1,p,x=>by rw[tl,tl_cons n p x];rfl
@[simp] theorem gR_s (n:Nat) (p:PV) (x:List PV):gR (n+1) (p::x)=gR n x:=by simp only[gR,tl_cons]
@[simp] theorem gC_s (n:Nat) (p:PV) (x:List PV):gC (n+1) (p::x)=gC n x:=by simp only[gC,tl_cons]
@[simp] theorem gI_s (n:Nat) (p:PV) (x:List PV):gI (n+1) (p::x)=gI n x:=by simp only[gI,tl_cons]
@[simp] theorem gB_s (n:Nat) (p:PV) (x:List PV):gB (n+1) (p::x)=gB n x:=by simp only[gB,tl_cons]
@[simp] theorem gS_s (n:Nat) (p:PV) (x:List PV):gS (n+1) (p::x)=gS n x:=by simp only[gS,tl_cons]
@[simp] theorem gM_s (n:Nat) (p:PV) (x:List PV):gM (n+1) (p::x)=gM n x:=by simp only[gM,tl_cons]
@[simp] theorem gR_z (r:Row) (x:List PV):gR 0 (.r r::x)=r:=rfl
@[simp] theorem gC_z (c:C) (r:Row) (x:List PV):gC 0 (.r (c::r)::x)=c:=rfl
@[simp] theorem gI_z (i:Int) (r:Row) (x:List PV):gI 0 (.r (.int i::r)::x)=i:=rfl
@[simp] theorem gB_z (b:Bool) (r:Row) (x:List PV):gB 0 (.r (.bool b::r)::x)=b:=rfl
@[simp] theorem gS_z (s:List UInt8) (r:Row) (x:List PV):gS 0 (.r (.str s::r)::x)=s:=rfl
@[simp] theorem gM_z (e:List (Row×Row)) (x:List PV):gM 0 (.m e::x)=e:=rfl
end Go.Ev
