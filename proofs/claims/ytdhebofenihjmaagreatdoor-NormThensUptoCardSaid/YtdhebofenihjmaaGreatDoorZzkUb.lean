/-
  norm.use, on a tree of its own, is the plain function useR.
-/
import Derived.Test.YtdhebofenihjmaaGreatDoorZzkUa
import Derived.Test.YtdhebofenihjmaaGreatDoorEvDa
set_option linter.all false
set_option maxRecDepth 100000
namespace Go.Ev.dJ
open Go.Proofs (Tryz.prog)
def uC:Row:=[.int 0,.str [],.str [],.bA,.int 0,.int 0,.int 0,.int 0,.int 0,.int 0,.str [],.bA,.bA,.bA]
def a9f:Option (List Row)→Option (Row×Bool)
 |some [o,[.bool ok]]=>some (o,ok)
 |_=>none
theorem aV4 {x:Option (List Row)} {o:Row} {ok:Bool} (h:a9f x=some (o,ok)):x=some [o,[.bool ok]]:=by
 unfold a9f at h
 split at h
 ·injection h with h;injection h with h1 h2;rw[h1,h2]
 ·cases h
noncomputable def aTY (st:Row):List Int→Row→Option (Row×Bool)
 |[],row=>a9f ((eA T).pc 44 [row,st,[.sl []]])
 |i::p,row=>if 0≤i∧i<((at_ row 13).rows.length:Int)then
   match aTY st p (aA (at_ row 13).rows i.toNat)with
   |some (k,true)=>some (row.set 13 (.sl ((at_ row 13).rows.set i.toNat k)),true)
   |some (_,false)=>some (uC,false)
   |none=>none
  else some (uC,false)
def mB (p:List Int):List Row:=p.map fun i=>[.int i]
theorem a4J (row st:Row) (pc:C) (h:pc.rows=[]):(eA T).pc 44 [row,st,[pc]]=(eA T).pc 44 [row,st,[.sl []]]:=by
 have e1:=aIE row st pc
 have e2:=aIE row st (.sl [])
 refine e1.trans (Eq.trans ?_ e2.symm)
 unfold aNM
 rw[if_pos (by rw[h];rfl),if_pos (by rfl)]
theorem a0X (pc:C) (x:Row) (r:List Row) (h:pc.rows=x::r):(eR pc 1 (pc.rows.length:Int)).rows=r:=by
 cases pc<;>simp[C.rows]at h
 subst h
 simp[eR,C.rows]
theorem aYt (st:Row):∀(p:List Int) (row z:Row) (pc:C),pc.rows=mB p→aTY st p row=some (z,false)→(eA T).pc 44 [row,st,[pc]]=some [z,[.bool false]]
 |[],row,z,pc,hp,h=>by
  rw[a4J row st pc hp];exact aV4 h
 |i::p,row,z,pc,hp,h=>by
  refine (aIE row st pc).trans ?_
  unfold aNM
  rw[aTY]at h
  have hl:pc.rows.length=p.length+1:=by rw[hp];simp[mB]
  have h0:(at_ (aA pc.rows 0) 0).uA=i:=by rw[hp];rfl
  rw[if_neg (by rw[hl];simp;omega),if_pos ⟨by omega,by rw[hl];omega⟩,h0]
  by_cases hi:0≤i∧i<((at_ row 13).rows.length:Int)
  ·rw[if_pos hi]at h
   have n1:¬decide (i<0)=true:=by simp;omega
   rw[if_neg n1]
   have n2:decide (i≥((at_ row 13).rows.length:Int))=false:=by simp;omega
   simp only[n2,Option.bind_some,cC,zB,eC,uB,wC,qC,dB,sA,if_true,Bool.false_eq_true,if_false]
   rw[if_pos hi,if_pos ⟨by omega,by rw[hl];omega,by omega⟩]
   have ht:(eR pc 1 (pc.rows.length:Int)).rows=mB p:=a0X pc _ _ hp
   cases hu:aTY st p (aA (at_ row 13).rows i.toNat)with
   |none=>rw[hu]at h;cases h
   |some q=>
    obtain ⟨k,ok⟩:=q
    rw[hu]at h
    cases ok with
    |true=>simp at h
    |false=>
     have ih:=aYt st p _ k _ ht hu
     have ih':(eA T).pc aPJ [aA (at_ row 13).rows i.toNat,st,[eR pc 1 (pc.rows.length:Int)]]=some [k,[.bool false]]:=ih
     rw[ih']
     injection h with h;injection h with h1 h2
     rw[←h1];rfl
  ·rw[if_neg hi]at h
   injection h with h;injection h with h1 h2
   rw[←h1]
   by_cases hn:i<0
   ·rw[if_pos (decide_eq_true hn)];rfl
   ·rw[if_neg (by simpa using hn)]
    have n2:decide (i≥((at_ row 13).rows.length:Int))=true:=by simp;omega
    rw[n2];rfl
theorem a4K {S:yA} {stv:Value} {aMX:Row} (hg:hO Tryz.prog T S) (hst:cF Tryz.prog T S aMW stv aMX):∀(p:List Int) (w:World) (lo hi:Nat) (cs:List Value) (row:Row) (pv:Value) (pc:C) (aMB:Row) (ok:Bool),
 Tree S w lo hi cs row→tD S w→xM T w→hi≤w.heap.size→gO Tryz.prog T S (.sl 3) pv pc→pc.rows=mB p→aTY aMX p row=some (aMB,ok)→
 Calls Tryz.prog 44 #[.agg cs.toArray,stv,pv] w fun e w'=>∃ov,e= .returned (.tuple #[.agg ov.toArray,.bool ok])∧a1E S w lo hi w' ov aMB
 |p,w,lo,hi,cs,row,pv,pc,aMB,false,ht,hin,hz,hhi,hp,hr,hu=>a1F ht hin hg hz hhi hst hp (aYt aMX p row aMB pc hr hu)
 |[],w,lo,hi,cs,row,pv,pc,aMB,true,ht,hin,hz,hhi,hp,hr,hu=>a1F ht hin hg hz hhi hst hp (by rw[a4J row aMX pc hr];exact aV4 hu)
 |i::p,w,lo,hi,cs,row,pv,pc,aMB,true,ht,hin,hz,hhi,hp,hr,hu=>by
  rw[aTY]at hu
  by_cases hi':0≤i∧i<((at_ row 13).rows.length:Int)
  ·rw[if_pos hi']at hu
   cases hk:aTY aMX p (aA (at_ row 13).rows i.toNat)with
   |none=>rw[hk]at hu;cases hu
   |some q=>
    obtain ⟨k,ok⟩:=q
    rw[hk]at hu
    cases ok with
    |false=>simp at hu
    |true=>
     injection hu with hu;injection hu with h1 h2
     obtain ⟨n,rfl⟩:∃n:Nat,i=n:=⟨i.toNat,by omega⟩
     rw[Int.toNat_natCast]at hk h1
     have hn:n<(at_ row 13).rows.length:=by omega
     obtain ⟨rows,hrow⟩:∃rows,at_ row 13= .sl rows:=by
      cases hc:at_ row 13<;>rw[hc]at hn<;>simp[C.rows]at hn
      exact ⟨_,rfl⟩
     have hrr:(at_ row 13).rows=rows:=by rw[hrow];rfl
     rw[hrr]at hk h1 hn
     rw[←h1]
     have hpc:pc= .sl (((n:Int)::p).map fun i=>[.int i]):=by
      cases pc<;>simp[C.rows,mB]at hr
      rw[hr];rfl
     rw[hpc]at hp
     have hkr:aA rows n=rows[n]:=by simp[aA,List.getD_eq_getElem?_getD,hn]
     rw[hkr]at hk
     exact bAG ht hin hg hz hhi hst hp hrow hn fun W l h kc pv' h1 h2 h3 h4 h5=>a4K hg hst p W l h kc _ pv' _ k true h1 h2 h3 h4 h5 rfl hk
  ·rw[if_neg hi']at hu;simp at hu
end Go.Ev.dJ
