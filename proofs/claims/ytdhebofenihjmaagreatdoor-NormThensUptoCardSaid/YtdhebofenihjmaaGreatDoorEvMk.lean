/-
  Arrays and structs of plain cells: their equality, and what a map does with them as keys.
-/
import Derived.Test.YtdhebofenihjmaaGreatDoorEvOa
import Derived.MapKept
import Derived.WideKeyRuns
import Derived.ChangeKeysEq
set_option linter.all false
namespace Go.Ev
variable {E:Env} {P:Program} {T:Nat→yF} {S S':yA} {pl wD:Pl} {St dD:Ev.St} {F:Fr} {a:Act} {w w':World}
def aA2:K→Bool | .int _=>true | .bool=>true | .str=>true |_=>false
def a6H (P:Program) (n:Nat) (e:TypeId) (ks:List K):Bool:=match ks with
 |k::_=>aA2 k&&aF5 P e (.one k)&&aEN ks (List.replicate n k)
 |[]=>false
def aHg (P:Program) (kt:TypeId) (kl:L):Bool:=match P.underlying kt,kl with
 |some (.struct fs),.agg ks=>rI P fs.toList 0 ks&& !P.stoodInHeld kt
 |some (.array n e),.agg ks=>a6H P n e ks
 |_,_=>false
def aIP:K→C→C→Bool
 | .int _,a,b=>a.uA==b.uA
 | .bool,a,b=>a.rJ==b.rJ
 | .str,a,b=>a.qE==b.qE
 |_,_,_=>false
theorem a0l (k:K) (ks:List K) (x y:Row):ceq (k::ks) x y=(aIP k (at_ x 0) (at_ y 0)&&ceq ks (x.drop 1) (y.drop 1)):=by
 cases k<;>simp[ceq,aIP]
theorem a6I:∀(ks:List K) (x y:Row),ceq ks x y=true→∀j k,ks[j]? =some k→aIP k (at_ x j) (at_ y j)=true
 |[],_,_,_,j,k,h=>by simp at h
 |k::ks,x,y,h,j,k',hj=>by
  rw[a0l,Bool.and_eq_true]at h
  cases j with
  |zero=>simp only[List.getElem?_cons_zero,Option.some.injEq]at hj;subst hj;exact h.1
  |succ j=>
   have:=a6I ks _ _ h.2 j k' (by simpa using hj)
   simpa[at_,List.getD_eq_getElem?_getD,Nat.add_comm 1 j]using this
theorem aWk {a b:ByteArray} (h:a.data.toList=b.data.toList):a=b:=by
 cases a;cases b
 simp only[ByteArray.mk.injEq]
 exact Array.toList_inj.1 h
theorem a4X {k:K} {u v:Value} {c d:C} (hk:aA2 k=true) (hu:gO P T S k u c) (hv:gO P T S k v d) (h:aIP k c d=true):u=v∧c=d:=by
 cases k<;>simp[aA2]at hk
 ·cases hu;cases hv;simp[aIP,C.uA]at h;subst h;exact ⟨rfl,rfl⟩
 ·cases hu;cases hv;simp[aIP,C.rJ]at h;subst h;exact ⟨rfl,rfl⟩
 ·cases hu;cases hv
  simp only[aIP,C.qE,beq_iff_eq]at h
  have:=aWk h
  subst this;exact ⟨rfl,rfl⟩
theorem a9I {x y:Row} (hl:x.length=y.length) (h:∀j,j<x.length→at_ x j=at_ y j):x=y:=by
 refine List.ext_getElem hl fun j h1 h2=> ?_
 have:=h j h1
 simpa[at_,List.getD_eq_getElem?_getD,h1,h2]using this
theorem a4Y {ks:List K} {cs ds:List Value} {r s:Row} (hk:∀k∈ks,aA2 k=true) (hu:yC P T S ks cs r) (hv:yC P T S ks ds s) (h:ceq ks r s=true):cs=ds∧r=s:=by
 have key:∀j,j<ks.length→cs.getD j undef=ds.getD j undef∧at_ r j=at_ s j:=fun j hj=>by
  have hkj:ks[j]? =some ks[j]:=List.getElem?_eq_getElem hj
  exact a4X (hk _ (List.getElem_mem hj)) (hu.cell j _ hkj) (hv.cell j _ hkj) (a6I ks r s h j _ hkj)
 refine ⟨List.ext_getElem (by rw[hu.mL,hv.mL]) fun j h1 h2=> ?_,a9I (by rw[hu.aBQ,hv.aBQ]) fun j hj=>(key j (by rw[←hu.aBQ];exact hj)).2⟩
 have:=(key j (by rw[←hu.mL];exact h1)).1
 simpa[List.getD_eq_getElem?_getD,h1,h2]using this
theorem aFn:∀{fs:List Field} {i:Nat} {ks:List K},rI P fs i ks=true→∀k∈ks,aA2 k=true
 |[],_,[],_,k,h=>by simp at h
 |[],_,_::_,h,_,_=>by simp[rI]at h
 |_::_,_,[],h,_,_=>by simp[rI]at h
 |f::fs,i,k0::ks,h,k,hk=>by
  simp only[rI,Bool.and_eq_true]at h
  rcases List.mem_cons.1 hk with rfl |hk
  ·have:=h.1.2
   cases k<;>simp_all[aA2]
  ·exact aFn h.2 k hk
theorem aNq {n:Nat} {e:TypeId} {ks:List K} (h:a6H P n e ks=true):∃k,aA2 k=true∧Lay P e (.one k)∧ks=List.replicate n k:=by
 unfold a6H at h
 split at h
 ·rename_i k r
  simp only[Bool.and_eq_true]at h
  exact ⟨k,h.1.1,aC h.1.2,aEO h.2⟩
 ·simp at h
theorem aUM {kt:TypeId} {kl:L} (hB:aHg P kt kl=true):∀k∈kl.ks,aA2 k=true:=by
 unfold aHg at hB
 split at hB
 ·simp only[Bool.and_eq_true]at hB
  exact aFn hB.1
 ·obtain ⟨k,h1,_,rfl⟩:=aNq hB
  intro k' hk'
  simp only[L.ks]at hk'
  rw[(List.mem_replicate.1 hk').2];exact h1
 ·simp at hB
theorem aOg {e:TypeId} {k:K} (hL:Lay P e (.one k)) (cs:Array Value) (i:Nat) (hi:i<cs.size):(Go.part e cs i).run P w= .ok (cs.toList.getD i undef) w:=by
 unfold Go.part
 rw[Sem.run_bind,hL.agg w]
 simp[hi]
theorem a2r {e:TypeId} {k:K} {d:Nat} {u v:Value} {c c':C} (hk:aA2 k=true) (hL:Lay P e (.one k)) (hu:gO P T S k u c) (hv:gO P T S k v c'):(Op.equalIn (d+1) e u v).run P w= .ok (aIP k c c') w:=by
 obtain ⟨u1,u2,u3⟩:=aA3 hL
 cases k<;>simp[aA2]at hk
 ·cases hu;cases hv
  rw[run_equalIn_int w d e _ _ _ _ (u1 _ rfl)];rfl
 ·cases hu;cases hv
  rw[run_equalIn_bool w d e _ _ (u2 rfl)];rfl
 ·cases hu;cases hv
  rw[run_equalIn_string w d e _ _ (u3 rfl)]
  simp[aIP,C.qE,ByteArray.toList_eq]
theorem aUN {e:TypeId} {k:K} {d:Nat} {u:Value} {c:C} (em:Bool) (hk:aA2 k=true) (hL:Lay P e (.one k)) (hu:gO P T S k u c):(Instr.checkKey em (d+1) e u).run P w= .ok () w:=by
 obtain ⟨u1,u2,u3⟩:=aA3 hL
 cases k<;>simp[aA2]at hk
 ·cases hu;simp[Instr.checkKey,run_underlying (u1 _ rfl)]
 ·cases hu;simp[Instr.checkKey,run_underlying (u2 rfl)]
 ·cases hu;simp[Instr.checkKey,run_underlying (u3 rfl)]
theorem a3A (r:Row) (i j:Nat):at_ (r.drop i) j=at_ r (i+j):=by simp[at_,List.getD_eq_getElem?_getD]
theorem aXs {e:TypeId} {k:K} {d:Nat} {xs ys:Array Value} {rx ry:Row} (hk:aA2 k=true) (hL:Lay P e (.one k)):
 ∀(m i:Nat),(∀j,j<m→gO P T S k (xs.toList.getD (i+j) undef) (at_ rx (i+j))∧gO P T S k (ys.toList.getD (i+j) undef) (at_ ry (i+j))∧i+j<xs.size∧i+j<ys.size)→
 (Op.eqItems (d+1) e 1 xs ys (List.range' i m)).run P w= .ok (ceq (List.replicate m k) (rx.drop i) (ry.drop i)) w
 |0,i,_=>by simp[Op.eqItems,ceq]
 |m+1,i,h=>by
  obtain ⟨h1,h2,h3,h4⟩:=h 0 (by omega)
  simp only[Nat.add_zero]at h1 h2 h3 h4
  have ih:=aXs (d:=d) hk hL m (i+1) (fun j hj=>by
   have:=h (j+1) (by omega)
   have e:i+(j+1)=i+1+j:=by omega
   rw[e]at this;exact this)
  rw[List.range'_succ,List.replicate_succ,a0l,a3A,a3A,List.drop_drop,List.drop_drop]
  simp only[Op.eqItems,Nat.mul_one,Sem.run_bind,aOg hL xs i h3,aOg hL ys i h4,a2r hk hL h1 h2,Result.andThen_ok,Nat.add_zero]
  cases aIP k (at_ rx i) (at_ ry i)with
  |true=>simpa using ih
  |false=>simp
theorem aXt {e:TypeId} {k:K} (hL:Lay P e (.one k)):∃i,P.info? e=some i∧P.cellsOf e=1:=by
 obtain ⟨i,h1,h2⟩:=hL.2
 refine ⟨i,h1, ?_⟩
 have:i.size=1:=h2
 simp[Program.cellsOf,h1,this]
theorem aUO {kt:TypeId} {kl:L} {u v:Value} {r s:Row} (hB:aHg P kt kl=true) (hu:cF P T S kl u r) (hv:cF P T S kl v s):(Op.equalIn 10000 kt u v).run P w= .ok (ceq kl.ks r s) w:=by
 unfold aHg at hB
 split at hB
 ·rename_i fs ks hut
  simp only[Bool.and_eq_true,Bool.not_eq_true']at hB
  obtain ⟨xs,rfl,hrx⟩:=hu
  obtain ⟨ys,rfl,hry⟩:=hv
  have hfo:P.fieldsOf kt=fs:=by simp[Program.fieldsOf,hut]
  have bI2:P.underlying kt=some (.struct (P.fieldsOf kt)):=by rw[hfo];exact hut
  rw[run_equalIn_struct w 9999 kt xs ys bI2 hB.2,hfo]
  have:=aLg (P:=P) (T:=T) (S:=S) (w:=w) (d:=9998) (xs:=xs) (ys:=ys) (rx:=r) (ry:=s) fs.toList 0 ks hB.1 (fun j k hj=>by
   have hj':=(List.getElem?_eq_some_iff.1 hj).1
   have h1:=hrx.mL;have h2:=hry.mL
   rw[Nat.zero_add]
   exact ⟨hrx.cell j k hj,hry.cell j k hj,by simp at h1;omega,by simp at h2;omega⟩)
  simpa[L.ks]using this
 ·rename_i n e ks hut
  obtain ⟨k,h1,h2,rfl⟩:=aNq hB
  obtain ⟨xs,rfl,hrx⟩:=hu
  obtain ⟨ys,rfl,hry⟩:=hv
  obtain ⟨i,hi,hc⟩:=aXt h2
  rw[run_equalIn_array w 9999 xs ys hut hi,hc,List.range_eq_range']
  have:=aXs (P:=P) (T:=T) (S:=S) (w:=w) (d:=9998) (xs:=xs) (ys:=ys) (rx:=r) (ry:=s) h1 h2 n 0 (fun j hj=>by
   have g1:=hrx.mL;have g2:=hry.mL
   rw[Nat.zero_add]
   have hkj:(List.replicate n k)[j]? =some k:=by simp[hj]
   exact ⟨hrx.cell j k hkj,hry.cell j k hkj,by simp at g1;omega,by simp at g2;omega⟩)
  simpa[L.ks]using this
 ·simp at hB
theorem aQj {d:Nat} {em:Bool} {xs:Array Value} {rx:Row}:∀(fs:List Field) (i:Nat) (ks:List K),rI P fs i ks=true→
 (∀j k,ks[j]? =some k→gO P T S k (xs.toList.getD (i+j) undef) (at_ rx (i+j))∧i+j<xs.size)→
 (forIn fs PUnit.unit (fun f (_:PUnit)=>(do {if f.name≠ "_" then {Instr.checkKey em (d+1) f.type (←Go.part f.type xs f.offset)};pure (ForInStep.yield PUnit.unit)}:Sem (ForInStep PUnit)))).run P w= .ok PUnit.unit w
 |[],i,[],_,_=>by simp
 |[],_,_::_,h,_=>by simp[rI]at h
 |_::_,_,[],h,_=>by simp[rI]at h
 |f::fs,i,k::ks,h,hr=>by
  have hpl:=aFn h k (by simp)
  simp only[rI,Bool.and_eq_true]at h
  obtain ⟨⟨⟨⟨h1,h2⟩,h3⟩,h4⟩,h5⟩:=h
  have hname:f.name≠ "_" :=by simpa using h1
  have hoff:=Nat.eq_of_beq_eq_true h2
  have hL:=aC h3
  obtain ⟨hx,hxl⟩:=hr 0 k rfl
  simp only[Nat.add_zero]at hx hxl
  have ih:=aQj (d:=d) (em:=em) fs (i+1) ks h5 (fun j k hj=>by
   have:=hr (j+1) k (by simpa using hj)
   have e:i+(j+1)=i+1+j:=by omega
   rw[e]at this;exact this)
  simp only[List.forIn_cons,Sem.run_bind,if_pos hname,hoff,aOg hL xs i hxl,aUN em hpl hL hx,Result.andThen_ok,Sem.run_pure]
  exact ih
theorem aSN {e:TypeId} {k:K} {d:Nat} {em:Bool} {xs:Array Value} {rx:Row} (hk:aA2 k=true) (hL:Lay P e (.one k)):
 ∀(m i:Nat),(∀j,j<m→gO P T S k (xs.toList.getD (i+j) undef) (at_ rx (i+j))∧i+j<xs.size)→
 (forIn (List.range' i m) PUnit.unit (fun q (_:PUnit)=>(do Instr.checkKey em (d+1) e (←Go.part e xs (q*(←sizeOf e)));pure (ForInStep.yield PUnit.unit):Sem (ForInStep PUnit)))).run P w= .ok PUnit.unit w
 |0,i,_=>by simp
 |m+1,i,h=>by
  obtain ⟨h1,h3⟩:=h 0 (by omega)
  simp only[Nat.add_zero]at h1 h3
  obtain ⟨ii,hi,hc⟩:=aXt hL
  have ih:=aSN (d:=d) (em:=em) hk hL m (i+1) (fun j hj=>by
   have:=h (j+1) (by omega)
   have e:i+(j+1)=i+1+j:=by omega
   rw[e]at this;exact this)
  rw[List.range'_succ]
  simp only[List.forIn_cons,Sem.run_bind,run_sizeOf w hi,hc,Nat.mul_one,aOg hL xs i h3,aUN em hk hL h1,Result.andThen_ok,Sem.run_pure]
  exact ih
theorem a2t {kt:TypeId} {kl:L} {u:Value} {r:Row} (em:Bool) (hB:aHg P kt kl=true) (hu:cF P T S kl u r):(Instr.checkKey em 10000 kt u).run P w= .ok () w:=by
 unfold aHg at hB
 split at hB
 ·rename_i fs ks hut
  simp only[Bool.and_eq_true,Bool.not_eq_true']at hB
  obtain ⟨xs,rfl,hrx⟩:=hu
  rw[show (10000:Nat)=9998+1+1 from rfl,Instr.checkKey]
  simp only[Sem.run_bind,run_underlying hut,Result.andThen_ok]
  rw[←Array.forIn_toList]
  have:=aQj (P:=P) (T:=T) (S:=S) (w:=w) (d:=9998) (em:=em) (xs:=xs) (rx:=r) fs.toList 0 ks hB.1 (fun j k hj=>by
   have hj':=(List.getElem?_eq_some_iff.1 hj).1
   have h1:=hrx.mL
   rw[Nat.zero_add]
   exact ⟨hrx.cell j k hj,by simp at h1;omega⟩)
  simp at this⊢
  rw[this];rfl
 ·rename_i n e ks hut
  obtain ⟨k,h1,h2,rfl⟩:=aNq hB
  obtain ⟨xs,rfl,hrx⟩:=hu
  rw[show (10000:Nat)=9998+1+1 from rfl,Instr.checkKey]
  simp only[Sem.run_bind,run_underlying hut,Result.andThen_ok]
  simp only[Std.Legacy.Range.forIn_eq_forIn_range',Std.Legacy.Range.size,Nat.sub_zero,Nat.add_one_sub_one,Nat.div_one]
  have:=aSN (P:=P) (T:=T) (S:=S) (w:=w) (d:=9998) (em:=em) (xs:=xs) (rx:=r) h1 h2 n 0 (fun j hj=>by
   have g1:=hrx.mL
   rw[Nat.zero_add]
   have hkj:(List.replicate n k)[j]? =some k:=by simp[hj]
   exact ⟨hrx.cell j k hkj,by simp at g1;omega⟩)
  simp at this⊢
  rw[this];rfl
 ·simp at hB
theorem aXu {kt:TypeId} {kl:L} (hB:aHg P kt kl=true):(match P.underlying kt with |some (.array _ _)|some (.struct _)=>true |_=>false)=true:=by
 unfold aHg at hB
 split at hB
 ·rename_i h;rw[h]
 ·rename_i h;rw[h]
 ·simp at hB
theorem a4Z {kt:TypeId} {kl:L} {u:Value} {r:Row} (hB:aHg P kt kl=true) (hu:cF P T S kl u r):Instr.sameBits 10000 u u=true:=by
 have hpl:=aUM hB
 have:∃ks cs,kl= .agg ks∧u= .agg cs∧yC P T S ks cs.toList r:=by
  unfold aHg at hB
  split at hB
  ·obtain ⟨xs,rfl,h⟩:=hu;exact ⟨_,_,rfl,rfl,h⟩
  ·obtain ⟨xs,rfl,h⟩:=hu;exact ⟨_,_,rfl,rfl,h⟩
  ·simp at hB
 obtain ⟨ks,cs,rfl,rfl,h⟩:=this
 rw[show (10000:Nat)=9999+1 from rfl,Instr.sameBits]
 simp only[beq_self_eq_true,Bool.true_and,List.all_eq_true]
 rintro ⟨x,y⟩ hxy
 rw[List.zip_eq_zipWith]at hxy
 obtain ⟨j,hj,he⟩:=List.mem_iff_getElem.1 hxy
 simp only[List.getElem_zipWith,Prod.mk.injEq]at he
 obtain ⟨e1,e2⟩:=he
 subst e1
 rw[←e2]
 have hj':j<cs.toList.length:=by simpa using hj
 have hjk:j<ks.length:=by rw[←h.mL];exact hj'
 have hc:=h.cell j ks[j] (List.getElem?_eq_getElem hjk)
 have hp:=hpl ks[j] (List.getElem_mem hjk)
 have hx:cs.toList.getD j undef=cs.toList[j]:=by rw[List.getD_eq_getElem?_getD,List.getElem?_eq_getElem hj'];rfl
 rw[hx]at hc
 generalize cs.toList[j]=v at hc
 generalize at_ r j=c at hc
 generalize ks[j]=k at hc hp
 cases k<;>simp[aA2]at hp<;>cases hc<;>simp[Instr.sameBits,MapKept.bytes_beq]
end Go.Ev
