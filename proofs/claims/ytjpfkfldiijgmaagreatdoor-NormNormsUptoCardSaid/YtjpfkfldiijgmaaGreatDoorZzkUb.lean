/-
  norm.use, on a tree of its own, is the plain function useR.
-/
import Derived.Test.YtjpfkfldiijgmaaGreatDoorZzkUa
import Derived.Test.YtjpfkfldiijgmaaGreatDoorEvDa
set_option linter.all false
set_option maxRecDepth 100000
namespace Go.Ev.jJ
open Go.Proofs (Tryz.prog)
def iF:Row:=[.int 0,.str [],.str [],.bA,.int 0,.int 0,.int 0,.int 0,.int 0,.int 0,.str [],.bA,.bA,.bA]
def a9t:Option (List Row)→Option (Row×Bool)
 |some [o,[.bool ok]]=>some (o,ok)
 |_=>none
theorem aWc {x:Option (List Row)} {o:Row} {ok:Bool} (h:a9t x=some (o,ok)):x=some [o,[.bool ok]]:=by
 unfold a9t at h
 split at h
 ·injection h with h;injection h with h1 h2;rw[h1,h2]
 ·cases h
noncomputable def aT7 (st:Row):List Int→Row→Option (Row×Bool)
 |[],row=>a9t ((cA T).pc 33 [row,st,[.sl []]])
 |i::p,row=>if 0≤i∧i<((at_ row 13).rows.length:Int)then
   match aT7 st p (aA (at_ row 13).rows i.toNat)with
   |some (k,true)=>some (row.set 13 (.sl ((at_ row 13).rows.set i.toNat k)),true)
   |some (_,false)=>some (iF,false)
   |none=>none
  else some (iF,false)
def dB (p:List Int):List Row:=p.map fun i=>[.int i]
theorem a4X (row st:Row) (pc:C) (h:pc.rows=[]):(cA T).pc 33 [row,st,[pc]]=(cA T).pc 33 [row,st,[.sl []]]:=by
 have e1:=aIQ row st pc
 have e2:=aIQ row st (.sl [])
 refine e1.trans (Eq.trans ?_ e2.symm)
 unfold aNU
 rw[if_pos (by rw[h];rfl),if_pos (by rfl)]
theorem a05 (pc:C) (x:Row) (r:List Row) (h:pc.rows=x::r):(qR pc 1 (pc.rows.length:Int)).rows=r:=by
 cases pc<;>simp[C.rows]at h
 subst h
 simp[qR,C.rows]
theorem aYD (st:Row):∀(p:List Int) (row z:Row) (pc:C),pc.rows=dB p→aT7 st p row=some (z,false)→(cA T).pc 33 [row,st,[pc]]=some [z,[.bool false]]
 |[],row,z,pc,hp,h=>by
  rw[a4X row st pc hp];exact aWc h
 |i::p,row,z,pc,hp,h=>by
  refine (aIQ row st pc).trans ?_
  unfold aNU
  rw[aT7]at h
  have hl:pc.rows.length=p.length+1:=by rw[hp];simp[dB]
  have h0:(at_ (aA pc.rows 0) 0).tA=i:=by rw[hp];rfl
  rw[if_neg (by rw[hl];simp;omega),if_pos ⟨by omega,by rw[hl];omega⟩,h0]
  by_cases hi:0≤i∧i<((at_ row 13).rows.length:Int)
  ·rw[if_pos hi]at h
   have n1:¬decide (i<0)=true:=by simp;omega
   rw[if_neg n1]
   have n2:decide (i≥((at_ row 13).rows.length:Int))=false:=by simp;omega
   simp only[n2,Option.bind_some,cC,aC,iC,xB,wC,rC,fB,wA,if_true,Bool.false_eq_true,if_false]
   rw[if_pos hi,if_pos ⟨by omega,by rw[hl];omega,by omega⟩]
   have ht:(qR pc 1 (pc.rows.length:Int)).rows=dB p:=a05 pc _ _ hp
   cases hu:aT7 st p (aA (at_ row 13).rows i.toNat)with
   |none=>rw[hu]at h;cases h
   |some q=>
    obtain ⟨k,ok⟩:=q
    rw[hu]at h
    cases ok with
    |true=>simp at h
    |false=>
     have ih:=aYD st p _ k _ ht hu
     have ih':(cA T).pc aPR [aA (at_ row 13).rows i.toNat,st,[qR pc 1 (pc.rows.length:Int)]]=some [k,[.bool false]]:=ih
     rw[ih']
     injection h with h;injection h with h1 h2
     rw[←h1];rfl
  ·rw[if_neg hi]at h
   injection h with h;injection h with h1 h2
   rw[←h1]
   by_cases hn:i<0
   ·rw[if_pos (decide_eq_true hn)];rfl
   ·rw[if_neg (by simpa using hn)]
    have n2:decide (i≥((at_ row 13).rows.length:Int))=true:=by simp;omega
    rw[n2];rfl
theorem a4Y {S:xA} {stv:Value} {aM5:Row} (hg:qO Tryz.prog T S) (hst:zE Tryz.prog T S aM4 stv aM5):∀(p:List Int) (w:World) (lo hi:Nat) (cs:List Value) (row:Row) (pv:Value) (pc:C) (aMJ:Row) (ok:Bool),
 Tree S w lo hi cs row→mD S w→fN T w→hi≤w.heap.size→oO Tryz.prog T S (.sl 3) pv pc→pc.rows=dB p→aT7 aM5 p row=some (aMJ,ok)→
 Calls Tryz.prog 33 #[.agg cs.toArray,stv,pv] w fun e w'=>∃ov,e= .returned (.tuple #[.agg ov.toArray,.bool ok])∧a1Q S w lo hi w' ov aMJ
 |p,w,lo,hi,cs,row,pv,pc,aMJ,false,ht,hin,hz,hhi,hp,hr,hu=>a1R ht hin hg hz hhi hst hp (aYD aM5 p row aMJ pc hr hu)
 |[],w,lo,hi,cs,row,pv,pc,aMJ,true,ht,hin,hz,hhi,hp,hr,hu=>a1R ht hin hg hz hhi hst hp (by rw[a4X row aM5 pc hr];exact aWc hu)
 |i::p,w,lo,hi,cs,row,pv,pc,aMJ,true,ht,hin,hz,hhi,hp,hr,hu=>by
  rw[aT7]at hu
  by_cases hi':0≤i∧i<((at_ row 13).rows.length:Int)
  ·rw[if_pos hi']at hu
   cases hk:aT7 aM5 p (aA (at_ row 13).rows i.toNat)with
   |none=>rw[hk]at hu;cases hu
   |some q=>
    obtain ⟨k,ok⟩:=q
    rw[hk]at hu
    cases ok with
    |false=>simp at hu
    |true=>
     injection hu with hu;injection hu with h1 h2
     obtain ⟨n,rfl⟩:∃n:Nat,i=n:=⟨i.toNat,by omega⟩
     rw[Int.toNat_natCast]at hk h1
     have hn:n<(at_ row 13).rows.length:=by omega
     obtain ⟨rows,hrow⟩:∃rows,at_ row 13= .sl rows:=by
      cases hc:at_ row 13<;>rw[hc]at hn<;>simp[C.rows]at hn
      exact ⟨_,rfl⟩
     have hrr:(at_ row 13).rows=rows:=by rw[hrow];rfl
     rw[hrr]at hk h1 hn
     rw[←h1]
     have hpc:pc= .sl (((n:Int)::p).map fun i=>[.int i]):=by
      cases pc<;>simp[C.rows,dB]at hr
      rw[hr];rfl
     rw[hpc]at hp
     have hkr:aA rows n=rows[n]:=by simp[aA,List.getD_eq_getElem?_getD,hn]
     rw[hkr]at hk
     exact bAU ht hin hg hz hhi hst hp hrow hn fun W l h kc pv' h1 h2 h3 h4 h5=>a4Y hg hst p W l h kc _ pv' _ k true h1 h2 h3 h4 h5 rfl hk
  ·rw[if_neg hi']at hu;simp at hu
end Go.Ev.jJ
