/-
  The library's Join and Repeat, and functions of one string, as functions that are given.
-/
import Derived.Test.YtfonaepdedbhhaaGreatDoorEvZa
import Derived.Lib.Join
import Derived.Lib.Repeat
import Derived.Below
set_option linter.all false
namespace Go.Ev
open Go.RowKit (Below)
variable {P:Program} {T:Nat→gG} {w:World}
theorem aH5 {S:fB} {w w':World} (hst:eZ S w) (h:Below w.heap.size w w'):Grow (fun _=>False) S w S w'∧eZ S w':=by
 refine ⟨⟨h.os,h.tape,h.output,h.size,fun b hb _=>h.block b hb,S.le_refl,fun _ _ _ _=>rfl⟩,fun b o u hs=> ?_⟩
 have:=hst b o u hs
 have hlt:b<w.heap.size:=World.block_lt_of_cell? w ⟨b,o,none⟩ this
 rw[World.cell?_of_block (w:=w) (h.block b hlt)];exact this
theorem aKX {S:fB} (l:List UInt8):iF P T S [.one .str] [.string ⟨l.toArray⟩] [[.str l]]:=by
 refine ⟨rfl,rfl,fun i k hi=> ?_⟩
 match i,hi with
 |0,hi=>
  simp only[List.getElem?_cons_zero,Option.some.injEq]at hi
  subst hi
  refine ⟨.str l,rfl, ?_⟩
  have:=Rep.str (P:=P) (T:=T) (S:=S) (b:=⟨l.toArray⟩)
  simpa using this
theorem arg_str {S:fB} {ps:List L} {vs:List Value} {rows:List Row} (h:iF P T S ps vs rows) (i:Nat) (hi:ps[i]? =some (.one .str)):∃b:ByteArray,vs.getD i undef= .string b∧aA rows i=[.str b.data.toList]:=by
 obtain ⟨c,hc,hr⟩:=h.arg i _ hi
 generalize vs.getD i undef=v at hr
 cases hr
 exact ⟨_,rfl,hc⟩
theorem a02 {S:fB} {ps:List L} {vs:List Value} {rows:List Row} (h:iF P T S ps vs rows) (i:Nat) (hi:ps[i]? =some (.one (.int .i64))):∃n:Int,vs.getD i undef= .int .i64 n∧aA rows i=[.int n]:=by
 obtain ⟨c,hc,hr⟩:=h.arg i _ hi
 generalize vs.getD i undef=v at hr
 cases hr
 exact ⟨_,rfl,hc⟩
def aFY (c:C):List (List UInt8):=c.rows.map fun r=>(at_ r 0).mD
def aR4:List Row→Option (List Row)
 |[[c],[.str sep]]=>if c.rows.length≤140737488355328∧(Lib.join (aFY c) sep).length≤140737488355328 then some [[.str (Lib.join (aFY c) sep)]]else none
 |_=>none
theorem aVy {f:Nat} {e:TypeId} (he:∀args w,(callFunc f args).run P w= .ok (.enter f args) w) (hL:Lay P e (.one .str))
 (h0:∀(a:Option Addr) (c:Nat) (sep:ByteArray) (w:World),Calls P f #[.slice a 0 c, .string sep] w fun e w'=>e= .returned (.string ⟨#[]⟩)∧w'=w)
 (h1:∀(bk o c:Nat) (xs:List ByteArray) (sep:ByteArray) (w:World),(∀(j:Nat) x,xs[j]? =some x→w.cell? ⟨bk,o+j,none⟩=some (.string x))→bk<w.heap.size→xs.length≤140737488355328→xs.length≤c→
   (Lib.join (xs.map (·.data.toList)) sep.data.toList).length≤140737488355328→
   Calls P f #[.slice (some ⟨bk,o,none⟩) xs.length c, .string sep] w fun e w'=>e= .returned (.string ⟨(Lib.join (xs.map (·.data.toList)) sep.data.toList).toArray⟩)∧Below w.heap.size w w'):
 s6 P T f [.one (.sl e), .one .str] [.one .str] aR4:=by
 intro rows out h S w vs hst hgl hgz hargs
 refine ⟨he _ _, ?_⟩
 obtain ⟨sb,e1,e2⟩:=arg_str hargs 1 rfl
 obtain ⟨c,hc,hr⟩:=hargs.arg 0 _ rfl
 obtain ⟨v0,v1,rfl⟩:∃a b,vs=[a,b]:=by
  match vs,hargs.aKN with
  |[a,b],_=>exact ⟨a,b,rfl⟩
 obtain ⟨r0,r1,rfl⟩:∃a b,rows=[a,b]:=by
  match rows,hargs.aCj with
  |[a,b],_=>exact ⟨a,b,rfl⟩
 simp only[List.getD_cons_zero,List.getD_cons_succ]at e1 hr
 have hc':r0=[c]:=hc
 have e2':r1=[.str sb.data.toList]:=e2
 subst hc' e2' e1
 unfold aR4 at h
 simp only at h
 split at h
 ·rename_i hb
  simp only[Option.some.injEq]at h
  subst h
  have fin:∀l:List UInt8,l=Lib.join (aFY c) sb.data.toList→∀w',Below w.heap.size w w'→∃out' S',Ending.returned (.string ⟨l.toArray⟩)= .returned (aKO out')∧Grow (fun _=>False) S w S' w'∧eZ S' w'∧iF P T S' [.one .str] out' [[.str (Lib.join (aFY c) sb.data.toList)]]:=fun l hl w' hw=>by
   subst hl
   obtain ⟨g1,g2⟩:=aH5 hst hw
   exact ⟨[.string ⟨(Lib.join (aFY c) sb.data.toList).toArray⟩],S,rfl,g1,g2,aKX _⟩
  cases hr with
  |fA=>
   refine (h0 none 0 sb w).mono ?_
   rintro ex w' ⟨rfl,rfl⟩
   exact fin [] rfl _ (Below.refl _ _)
  | @sl _ l rws a len cap g q1 q2 q3 q4 q5 q6 q7=>
    obtain rfl:=q1.inj hL
    by_cases hz:len=0
    ·subst hz
     have:rws=[]:=List.length_eq_zero_iff.1 q2
     subst this
     refine (h0 (some a) cap sb w).mono ?_
     rintro ex w' ⟨rfl,rfl⟩
     exact fin [] rfl _ (Below.refl _ _)
    ·have hsp:=q5 hz
     obtain ⟨bk,of,sp⟩:=a
     simp only at hsp
     subst hsp
     have hx:∀i,i<len→∃b:ByteArray,g i 0= .string b∧at_ (aA rws i) 0= .str b.data.toList:=fun i hi=>by
      have:=q7 i 0 .str hi rfl
      generalize g i 0=u at this
      generalize at_ (aA rws i) 0=cc at this
      cases this
      exact ⟨_,rfl,rfl⟩
     let xs:List ByteArray:=(List.range len).map fun i=>match g i 0 with | .string b=>b |_=>default
     have hxl:xs.length=len:=by simp[xs]
     have hxa:∀i (hi:i<len),g i 0= .string (xs[i]'(by rw[hxl];exact hi)):=fun i hi=>by
      obtain ⟨b,hb1,_⟩:=hx i hi
      simp only[xs,List.getElem_map,List.getElem_range,hb1]
     have a52:aFY (.sl rws)=xs.map (·.data.toList):=by
      apply List.ext_getElem
      ·simp[aFY,C.rows,hxl,q2]
      ·intro i i1 i2
       have hi:i<len:=by simpa[hxl]using i2
       obtain ⟨b,hb1,hb2⟩:=hx i hi
       have hri:aA rws i=rws[i]'(by omega):=by simp[aA,List.getD_eq_getElem?_getD,show i<rws.length by omega]
       have:=hxa i hi
       rw[hb1]at this
       have hbe:xs[i]'(by rw[hxl];exact hi)=b:=by cases this;rfl
       simp only[aFY,C.rows,List.getElem_map]
       rw[←hri,hb2,hbe];rfl
     have hcell:∀(j:Nat) x,xs[j]? =some x→w.cell? ⟨bk,of+j,none⟩=some (.string x):=fun j x hj=>by
      have hj':j<xs.length:=(List.getElem?_eq_some_iff.1 hj).1
      have:=hst _ _ _ (q6 j 0 (by omega) (by decide))
      rw[List.getElem?_eq_getElem hj']at hj
      cases hj
      have e:of+j*L.n (.one .str)+0=of+j:=by simp[L.n,L.ks]
      rw[e,hxa j (by omega)]at this
      exact this
     have hbk:bk<w.heap.size:=World.block_lt_of_cell? w ⟨bk,of+0,none⟩ (hcell 0 _ (List.getElem?_eq_getElem (by omega)))
     rw[a52]at hb fin
     have hk:=h1 bk of cap xs sb w hcell hbk (by rw[hxl,←q2];exact hb.1) (by omega) hb.2
     rw[hxl]at hk
     refine hk.mono ?_
     rintro ex w' ⟨rfl,hw⟩
     have:=fin _ rfl w' hw
     rw[a52]
     exact this
 ·simp at h
def aZr (g:List UInt8→List UInt8) (bA:Nat):List Row→Option (List Row)
 |[[.str s]]=>if s.length≤bA then some [[.str (g s)]]else none
 |_=>none
def aXF:List Row→Option (List Row)
 |[[.str s],[.int n]]=>if s.length=1∧0≤n∧n≤1000 then some [[.str (Lib.repeatL s n.toNat)]]else none
 |_=>none
theorem aXG {f:Nat} (he:∀args w,(callFunc f args).run P w= .ok (.enter f args) w)
 (h0:∀(s:ByteArray) (w:World),Calls P f #[.string s, .int .i64 0] w fun e w'=>e= .returned (.string ⟨#[]⟩)∧w'=w)
 (h1:∀(s:ByteArray) (w:World),Calls P f #[.string s, .int .i64 1] w fun e w'=>e= .returned (.string s)∧w'=w)
 (h2:∀(s:ByteArray) (c:Nat) (w:World),2≤c→c≤9223372036854775807→s.size*c≤140737488355328→0<s.size→Calls P f #[.string s, .int .i64 c] w fun e w'=>e= .returned (.string ⟨(Lib.repeatL s.data.toList c).toArray⟩)∧Below w.heap.size w w'):
 s6 P T f [.one .str, .one (.int .i64)] [.one .str] aXF:=by
 intro rows out h S w vs hst hgl hgz hargs
 refine ⟨he _ _, ?_⟩
 obtain ⟨sb,e1,e2⟩:=arg_str hargs 0 rfl
 obtain ⟨n,e3,e4⟩:=a02 hargs 1 rfl
 obtain ⟨v0,v1,rfl⟩:∃a b,vs=[a,b]:=by
  match vs,hargs.aKN with
  |[a,b],_=>exact ⟨a,b,rfl⟩
 obtain ⟨r0,r1,rfl⟩:∃a b,rows=[a,b]:=by
  match rows,hargs.aCj with
  |[a,b],_=>exact ⟨a,b,rfl⟩
 simp only[List.getD_cons_zero,List.getD_cons_succ]at e1 e3
 have e2':r0=[.str sb.data.toList]:=e2
 have e4':r1=[.int n]:=e4
 subst e2' e4' e1 e3
 unfold aXF at h
 simp only at h
 split at h
 ·rename_i hb
  simp only[Option.some.injEq]at h
  subst h
  have hsz:sb.size=1:=by have:=hb.1;simpa using this
  have fin:∀l:List UInt8,l=Lib.repeatL sb.data.toList n.toNat→∀w',Below w.heap.size w w'→∃out' S',Ending.returned (.string ⟨l.toArray⟩)= .returned (aKO out')∧Grow (fun _=>False) S w S' w'∧eZ S' w'∧iF P T S' [.one .str] out' [[.str (Lib.repeatL sb.data.toList n.toNat)]]:=fun l hl w' hw=>by
   subst hl
   obtain ⟨g1,g2⟩:=aH5 hst hw
   exact ⟨[.string ⟨(Lib.repeatL sb.data.toList n.toNat).toArray⟩],S,rfl,g1,g2,aKX _⟩
  obtain ⟨m,rfl⟩:∃m:Nat,n=(m:Int):=⟨n.toNat,by omega⟩
  match m,hb with
  |0,_=>
   refine (h0 sb w).mono ?_
   rintro ex w' ⟨rfl,rfl⟩
   exact fin [] (by simp[Lib.repeatL]) _ (Below.refl _ _)
  |1,_=>
   refine (h1 sb w).mono ?_
   rintro ex w' ⟨rfl,rfl⟩
   have:=fin sb.data.toList (by simp[Lib.repeatL]) _ (Below.refl _ _)
   simpa using this
  |m+2,hb=>
   refine (h2 sb (m+2) w (by omega) (by omega) (by rw[hsz];omega) (by omega)).mono ?_
   rintro ex w' ⟨rfl,hw⟩
   exact fin _ rfl _ hw
 ·simp at h
end Go.Ev
