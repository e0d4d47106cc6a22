/-
  The library's functions, and the quoting of a string, as given functions.
-/
import Derived.Test.YtfonaepdedbhhaaGreatDoorZznU
import Derived.Test.YtfonaepdedbhhaaGreatDoorZBa
import Derived.Test.YtfonaepdedbhhaaGreatDoorZSh
set_option linter.all false
set_option maxRecDepth 100000
namespace Go.Ev.oO
open Go.Proofs
open Go.RowKit (Below)
open Go.Proofs.Bld (aGX cH)
theorem mixed:Tryz.prog.follows .mixedOrders=true:=by kernel_rfl
noncomputable def isI:K→Bool
 | .int _=>true
 |_=>false
noncomputable def a1a:gG→Bool
 | .zL t l _=>aDI Tryz.prog t l&&l.ks.all isI
 |_=>true
theorem aZx:Zzn.gl.all a1a=true:=by kernel_rfl
theorem aS9 (tab gl:List gG) (g:Nat):aPZ tab gl (pN+g)=gl.getD g .none:=by
 unfold aPZ
 have:Nat.blt (pN+g) pN=false:=by
  cases h:Nat.blt (pN+g) pN
  ·rfl
  ·have:=Nat.le_of_ble_eq_true h;omega
 rw[this,Nat.add_sub_cancel_left]
 rfl
theorem a1b (g:Nat):Zzn.T (pN+g)=Zzn.gl.getD g .none:=aS9 _ _ g
theorem aVE {g:Nat} {t:TypeId} {l:L} {row:Row} (h:Zzn.T (pN+g)= .zL t l row):Lay Tryz.prog t l∧∀k∈l.ks,isI k=true:=by
 rw[a1b,List.getD_eq_getElem?_getD]at h
 cases hg:Zzn.gl[g]? with
 |none=>rw[hg]at h;cases h
 |some a=>
  rw[hg]at h
  have h':a= .zL t l row:=h
  subst h'
  have:=List.all_eq_true.1 aZx _ (List.mem_of_getElem? hg)
  have h2:=Bool.and_eq_true_iff.1 this
  exact ⟨bC h2.1,fun k hk=>List.all_eq_true.1 h2.2 k hk⟩
theorem aZy {P:Program} {T T':Nat→gG} {S:fB} {t:TypeId} {l:L} {row:Row} {v:Value} (hl:Lay P t l) (hk:∀k∈l.ks,isI k=true) (h:Rep P T S (.ref t) v (.dp row)):Rep P T' S (.ref t) v (.dp row):=by
 generalize hc:C.dp row=c at h
 generalize hq:K.ref t=q at h
 cases h with
 |ref f q1 q2 q3 q4 q5=>
  cases hc
  cases hq
  obtain rfl:=q1.inj hl
  refine .ref f q1 q2 q3 q4 fun j k hj=> ?_
  have h1:=q5 j k hj
  have h2:=hk k (List.mem_of_getElem? hj)
  revert h1
  generalize f j=u
  generalize at_ row j=c
  cases k with
  |int q=>intro h1;cases h1;exact .int
  |_=>cases h2
 |_=>cases hc
theorem a1c {S:fB} {w W:World} (hst:eZ S w) (hgl:aDG Tryz.prog Zzn.T S) (hgz:aFT Zzn.T w) (hb:Below w.heap.size w W) (c:Nat) (hc:c<256):
 Calls Tryz.prog 49 #[.int .i64 ((c:Int)+256), .int .i64 16] W fun e w'=>e= .returned (.string ⟨(aGX c).toArray⟩)∧Below W.heap.size W w':=by
 have a9J:aFT Zzn.T W:=fun g t l row h=>by
  obtain ⟨cs,e,z,h1,h2⟩:=hgz g t l row h
  have hlt:g<w.heap.size:=by
   rcases Nat.lt_or_ge g w.heap.size with h' |h'
   ·exact h'
   ·simp[Array.getElem?_eq_none h']at h1
  exact ⟨cs,e,z,by rw[hb.block g hlt];exact h1,h2⟩
 obtain ⟨-,h⟩:=(aJ5 mixed Zzn.aZv 12).pc.2 49 _ _ _ _ (Zzn.a3Y c hc) rfl S W [.int .i64 ((c:Int)+256), .int .i64 16] (aH5 hst hb).2 hgl a9J ⟨rfl,rfl,fun i l hi=>by
  match i,hi with
  |0,hi=>cases hi;exact ⟨_,rfl, .int⟩
  |1,hi=>cases hi;exact ⟨_,rfl, .int⟩⟩
 refine h.mono ?_
 rintro e w' ⟨out,S',rfl,g1, -,ha⟩
 obtain ⟨sb,e1,e2⟩:=arg_str ha 0 rfl
 obtain ⟨v0,rfl⟩:∃a,out=[a]:=by
  match out,ha.aKN with
  |[a],_=>exact ⟨a,rfl⟩
 have e1':v0= .string sb:=e1
 have e2':[C.str (aGX c)]=[C.str sb.data.toList]:=e2
 subst e1'
 simp only[List.cons.injEq,C.str.injEq,and_true]at e2'
 refine ⟨?_,⟨g1.os,g1.tape,g1.output,g1.size,fun k hk=>g1.block k hk (fun h=>h)⟩⟩
 rw[e2']
 rfl
theorem a3j (T:Nat→gG) (hT:∀g,T (pN+g)=Zzn.gl.getD g .none):s6 Tryz.prog T 30 [.one .str] [.one .str] (aZr cH 4294967296):=by
 intro rows out h S w vs hst hgl hgz hargs
 refine ⟨Go.Proofs.enters_of Tryz.func30 (by kernel_rfl) rfl _ _, ?_⟩
 have hT:∀g t l row,Zzn.T (pN+g)= .zL t l row→T (pN+g)= .zL t l row:=fun g t l row h=>by rw[hT,←a1b];exact h
 obtain ⟨sb,e1,e2⟩:=arg_str hargs 0 rfl
 obtain ⟨v0,rfl⟩:∃a,vs=[a]:=by
  match vs,hargs.aKN with
  |[a],_=>exact ⟨a,rfl⟩
 obtain ⟨r0,rfl⟩:∃a,rows=[a]:=by
  match rows,hargs.aCj with
  |[a],_=>exact ⟨a,rfl⟩
 simp only[List.getD_cons_zero]at e1
 have e2':r0=[.str sb.data.toList]:=e2
 subst e2' e1
 unfold aZr at h
 simp only at h
 split at h
 ·rename_i hb
  simp only[Option.some.injEq]at h
  subst h
  have hG:aDG Tryz.prog Zzn.T S:=fun g t l row h=>by
   obtain ⟨h1,h2⟩:=aVE h
   exact aZy h1 h2 (hgl g t l row (hT g t l row h))
  have hZ:aFT Zzn.T w:=fun g t l row h=>hgz g t l row (hT g t l row h)
  refine (Go.Proofs.Bld.quote sb w (by rw[Lib.size_eq];exact hb) (fun c W hc hb=>a1c hst hG hZ hb c hc)).mono ?_
  rintro ex w' ⟨rfl,hw⟩
  obtain ⟨g1,g2⟩:=aH5 hst hw
  exact ⟨_,S,rfl,g1,g2,aKX _⟩
 ·simp at h
theorem a3i (T:Nat→gG) (hT:∀g,T (pN+g)=Zzn.gl.getD g .none):s6 Tryz.prog T 12 [.one (.sl 9), .one .str] [.one .str] aR4:=
 aVy (Go.Proofs.enters_of Tryz.func12 (by kernel_rfl) rfl) (bC (by kernel_rfl)) (fun a c sep w=>Tryz.strings_Join_none a c sep w) (fun bk o c xs sep w h1 h2 h3 h4 h5=>Tryz.strings_Join bk o c xs sep w h1 h2 h3 h4 h5)
theorem a3k (T:Nat→gG) (hT:∀g,T (pN+g)=Zzn.gl.getD g .none):s6 Tryz.prog T 51 [.one .str, .one (.int .i64)] [.one .str] aXF:=
 aXG (Go.Proofs.enters_of Tryz.func51 (by kernel_rfl) rfl) (fun s w=>Tryz.strings_Repeat_zero s w) (fun s w=>Tryz.strings_Repeat_one s w) (fun s c w h1 h2 h3 h4=>Tryz.strings_Repeat_main s c w h1 h2 h3 h4)
end Go.Ev.oO
