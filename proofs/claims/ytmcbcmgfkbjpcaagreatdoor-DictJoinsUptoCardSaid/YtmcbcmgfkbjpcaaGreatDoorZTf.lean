/-
  A part of the proof: what the functions of the program compute.
-/
import Derived.Test.YtmcbcmgfkbjpcaaGreatDoorZTe
set_option linter.all false
set_option maxRecDepth 100000
namespace Go.Ev.Zzj
theorem cb_ntrans:∀{j b a:Bytes},cmpBytes j b<0→¬cmpBytes a b<0→cmpBytes j a<0
 |[],[],_,h,_=>by simp[cmpBytes]at h
 |_::_,[],_,h,_=>by simp[cmpBytes]at h
 |[],_::_,[],_,h=>by simp[cmpBytes]at h
 |[],_::_,_::_,_,_=>by simp[cmpBytes]
 |_::_,_::_,[],_,h=>by simp[cmpBytes]at h
 |x::j,y::b,z::a,h,k=>by
  simp only[cmpBytes,UInt8.lt_iff_toNat_lt]at h k⊢
  split at h
  ·split at k
   ·simp at k
   ·rw[if_pos (by omega)];decide
  ·split at h
   ·simp at h
   ·split at k
    ·simp at k
    ·split at k
     ·rw[if_pos (by omega)];decide
     ·rw[if_neg (by omega),if_neg (by omega)];exact cb_ntrans h k
theorem cb_irr:∀a:Bytes,¬cmpBytes a a<0
 |[]=>by simp[cmpBytes]
 |x::a=>by
  simp only[cmpBytes,UInt8.lt_iff_toNat_lt]
  rw[if_neg (by omega),if_neg (by omega)];exact cb_irr a
theorem cb_asymm:∀{a b:Bytes},cmpBytes a b<0→¬cmpBytes b a<0
 |[],[],h=>by simp[cmpBytes]at h
 |_::_,[],h=>by simp[cmpBytes]at h
 |[],_::_,_=>by simp[cmpBytes]
 |x::a,y::b,h=>by
  simp only[cmpBytes,UInt8.lt_iff_toNat_lt]at h⊢
  split at h
  ·rw[if_neg (by omega),if_pos (by omega)];decide
  ·split at h
   ·simp at h
   ·rw[if_neg (by omega),if_neg (by omega)];exact cb_asymm h
theorem ci_lt {a b:Int}:cmpI a b<0↔a<b:=by unfold cmpI;split<;>(try split)<;>omega
def kv (k0:Int) (v w:Val):Int:=if k0=5 then cmpBytes v.s w.s else cmpI v.n w.n
theorem kv_ntrans {k0:Int} {j b a:Val} (h:kv k0 j b<0) (k:¬kv k0 a b<0):kv k0 j a<0:=by
 unfold kv at*
 split at h
 ·rename_i e;rw[if_pos e]at k⊢;exact cb_ntrans h k
 ·rename_i e;rw[if_neg e]at k⊢;rw[ci_lt]at*;omega
theorem kv_irr (k0:Int) (a:Val):¬kv k0 a a<0:=by
 unfold kv;split
 ·exact cb_irr _
 ·rw[ci_lt];omega
theorem kv_asymm {k0:Int} {a b:Val} (h:kv k0 a b<0):¬kv k0 b a<0:=by
 unfold kv at*
 split at h
 ·rename_i e;rw[if_pos e];exact cb_asymm h
 ·rename_i e;rw[if_neg e];rw[ci_lt]at*;omega
theorem good_fs {k0:Int} {v:Val} (h:GoodV k0 v):v.fs=[]∧(v.k≠5→v.s=[])∧(v.k=5→v.n=0)∧v.k≠3:=by
 have hu:=h.u
 have hp:=h.p
 unfold unusedB at hu
 simp only[Bool.or_eq_false_iff]at hu
 obtain ⟨⟨h1,h2⟩,h3⟩:=hu
 simp only[plainB,Bool.or_eq_true,beq_iff_eq]at hp
 refine ⟨?_,fun hk=> ?_,fun hk=> ?_,by omega⟩
 ·have hs:scaK v.k=true:=by
   simp only[scaK,Bool.or_eq_true,Bool.and_eq_true,decide_eq_true_eq,beq_iff_eq];omega
  rw[hs,Bool.true_and]at h3
  have:=of_decide_eq_false h3
  cases hf:v.fs with
  |nil=>rfl
  |cons a r=>rw[hf]at this;simp at this
 ·have:(v.k !=5)=true:=by simp[hk]
  rw[this,Bool.true_and]at h2
  simpa using h2
 ·have hn:numK v.k=false:=by
   simp only[numK,Bool.or_eq_false_iff,Bool.and_eq_false_iff,decide_eq_false_iff_not,beq_eq_false_iff_ne];omega
  rw[hn,Bool.not_false,Bool.true_and]at h1
  simpa using h1
theorem good_cmp {k0:Int} {v w:Val} (hv:GoodV k0 v) (hw:GoodV k0 w):v.cmp w=kv k0 v w:=by
 obtain ⟨a1,a2,a3,a4⟩:=good_fs hv
 obtain ⟨b1,b2,b3,b4⟩:=good_fs hw
 have ek:=hv.k
 have ek2:=hw.k
 have kk:cmpI v.k w.k=0:=cmpI_zero.2 (ek.trans ek2.symm)
 rw[v.cmp_eq,a1,b1,kk,if_neg a4,if_neg a4]
 have hl:lexI fldCmp ([]:List (Bytes×Val)) []=0:=rfl
 rw[hl]
 unfold kv
 by_cases c:k0=5
 ·have n1:v.n=0:=a3 (ek.trans c)
  have n2:w.n=0:=b3 (ek2.trans c)
  rw[if_pos c,n1,n2,show cmpI 0 0=0 from rfl]
  simp only[orI,if_true]
  by_cases z:cmpBytes v.s w.s=0<;>simp[z]
 ·have s1:v.s=[]:=a2 (by omega)
  have s2:w.s=[]:=b2 (by omega)
  rw[if_neg c,s1,s2,show cmpBytes [] []=0 from rfl]
  simp only[orI,if_true]
  by_cases z:cmpI v.n w.n=0<;>simp[z]
theorem countP_le {α:Type} {p q:α→Bool}:∀{l:List α},(∀a∈l,p a=true→q a=true)→l.countP p≤l.countP q
 |[],_=>by simp
 |a::l,h=>by
  have ih:=countP_le (l:=l) fun x hx=>h x (by simp[hx])
  have:=h a (by simp)
  rw[List.countP_cons,List.countP_cons]
  by_cases c:p a=true
  ·rw[if_pos c,if_pos (this c)];omega
  ·rw[if_neg c];split<;>omega
theorem countP_lt {α:Type} {p q:α→Bool}:∀{l:List α},(∀a∈l,p a=true→q a=true)→(∃a∈l,q a=true∧¬p a=true)→l.countP p<l.countP q
 |[],_,h=>by obtain ⟨a,h1,_⟩:=h;simp at h1
 |a::l,h,⟨b,hb,h1,h2⟩=>by
  have hle:=countP_le (l:=l) fun x hx=>h x (by simp[hx])
  have ha:=h a (by simp)
  rw[List.countP_cons,List.countP_cons]
  rcases List.mem_cons.1 hb with rfl |hb
  ·rw[if_neg h2,if_pos h1];omega
  ·have ih:=countP_lt (l:=l) (fun x hx=>h x (by simp[hx])) ⟨b,hb,h1,h2⟩
   by_cases c:p a=true
   ·rw[if_pos c,if_pos (ha c)];omega
   ·rw[if_neg c];split<;>omega
def rank (k0:Int) (vs:List Val) (v:Val):Int:=(vs.countP fun u=>decide (kv k0 u v<0):Nat)
theorem rank_lt {k0:Int} {vs:List Val} {v w:Val} (hv:v∈vs):kv k0 v w<0↔rank k0 vs v<rank k0 vs w:=by
 unfold rank
 constructor
 ·intro h
  have:=countP_lt (p:=fun u=>decide (kv k0 u v<0)) (q:=fun u=>decide (kv k0 u w<0)) (l:=vs) (fun a _ ha=>by
   exact decide_eq_true (kv_ntrans (of_decide_eq_true ha) (kv_asymm h))) ⟨v,hv,decide_eq_true h,by simpa using kv_irr k0 v⟩
  omega
 ·intro h
  apply Classical.byContradiction
  intro c
  have:=countP_le (p:=fun u=>decide (kv k0 u w<0)) (q:=fun u=>decide (kv k0 u v<0)) (l:=vs) (fun a _ ha=>decide_eq_true (kv_ntrans (of_decide_eq_true ha) c))
  omega
end Go.Ev.Zzj
