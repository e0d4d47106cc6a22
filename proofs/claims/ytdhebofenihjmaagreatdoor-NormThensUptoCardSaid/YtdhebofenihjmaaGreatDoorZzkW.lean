/-
  norm.Use, as a function that is given.
-/
import Derived.Test.YtdhebofenihjmaaGreatDoorZzkD
import Derived.Test.YtdhebofenihjmaaGreatDoorZzkV
import Derived.Test.YtdhebofenihjmaaGreatDoorZzkUb
set_option linter.all false
set_option maxRecDepth 100000
namespace Go.Ev.dJ
open Go.Proofs (Tryz.prog)
open Go.Proofs.Nrm (a1G xL)
open Go.RowKit (Below)
def pathOf (aV5:Row):List Int:=(at_ aV5 0).rows.map fun r=>(at_ r 0).uA
def aV6:Option (List Row)→Option Int
 |some [[.int n]]=>some n
 |_=>none
theorem a1H {x:Option (List Row)} {n:Int} (h:aV6 x=some n):x=some [[.int n]]:=by
 unfold aV6 at h
 split at h
 ·injection h with h;rw[h]
 ·cases h
open Classical in
noncomputable def sB:List Row→Option (List Row)
 |[a5Z,aV5]=>if ∃l:dA,l.row=a5Z∧l.fB≤4294967296 then
    match aV6 ((eA T).pc 13 [a5Z])with
    |some n=>if n=0 then
      match (eA T).pc 19 [a5Z]with
      |some [bLH]=>(aTY aV5 (pathOf aV5) bLH).map fun p=>[p.1,[.bool p.2]]
      |_=>none
     else some [uC,[.bool false]]
    |_=>none
  else none
 |_=>none
theorem bHZ {α:Type} {l:List α} (h:l.length=3):∃a b c,l=[a,b,c]:=by
 match l,h with
 |[a,b,c],_=>exact ⟨a,b,c,rfl⟩
theorem a9g (S:yA):yC Tryz.prog T S (full ksL 29) [Value.int IntKind.i64 0,Value.string {data:=#[]},Value.string {data:=#[]},Value.slice none 0 0,Value.int IntKind.i64 0,Value.int IntKind.i64 0,Value.int IntKind.i64 0,Value.int IntKind.u8 0,Value.int IntKind.i64 0,Value.int IntKind.i64 0,Value.string {data:=#[]},Value.slice none 0 0,Value.slice none 0 0,Value.slice none 0 0] uC:=
 ⟨rfl,rfl,fun j k hk=>by
   rcases j with _ |_ |_ |_ |_ |_ |_ |_ |_ |_ |_ |_ |_ |_ |j
   ·obtain rfl:K.int .i64=k:=by simpa[full,ksL]using hk
    exact .int
   ·obtain rfl:K.str=k:=by simpa[full,ksL]using hk
    exact .str
   ·obtain rfl:K.str=k:=by simpa[full,ksL]using hk
    exact .str
   ·obtain rfl:K.sl 9=k:=by simpa[full,ksL]using hk
    exact .bA
   ·obtain rfl:K.int .i64=k:=by simpa[full,ksL]using hk
    exact .int
   ·obtain rfl:K.int .i64=k:=by simpa[full,ksL]using hk
    exact .int
   ·obtain rfl:K.int .i64=k:=by simpa[full,ksL]using hk
    exact .int
   ·obtain rfl:K.int .u8=k:=by simpa[full,ksL]using hk
    exact .int
   ·obtain rfl:K.int .i64=k:=by simpa[full,ksL]using hk
    exact .int
   ·obtain rfl:K.int .i64=k:=by simpa[full,ksL]using hk
    exact .int
   ·obtain rfl:K.str=k:=by simpa[full,ksL]using hk
    exact .str
   ·obtain rfl:K.sl 75=k:=by simpa[full,ksL]using hk
    exact .bA
   ·obtain rfl:K.sl 49=k:=by simpa[full,ksL]using hk
    exact .bA
   ·obtain rfl:K.sl 29=k:=by simpa[full,ksL]using hk
    exact .bA
   ·simp[full,ksL]at hk⟩
theorem aUr {S:yA} {ks:List K} {cs:List Value} {row:Row} (h:yC Tryz.prog T S ks cs row):∀u∈cs,u.oneCell'=true:=fun u hu=>by
 obtain ⟨j,hj⟩:=List.mem_iff_getElem?.1 hu
 have hjl:j<ks.length:=by rw[←h.mL];exact (List.getElem?_eq_some_iff.1 hj).1
 have:=(h.cell j _ (List.getElem?_eq_getElem hjl)).wB.1
 rwa[List.getD_eq_getElem?_getD,hj]at this
theorem a50 {S:yA} {v:Value} {c:C} (h:gO Tryz.prog T S (.sl 3) v c):c.rows=mB (c.rows.map fun r=>(at_ r 0).uA):=by
 have aRn:Lay Tryz.prog 3 (.one (.int .i64)):=aC (by kernel_rfl)
 obtain ⟨f,a,cap, -, -, -, -,h5⟩:=aYs aRn h
 unfold mB
 rw[List.map_map]
 refine (List.ext_getElem? fun i=> ?_).symm
 rw[List.getElem?_map]
 by_cases hi:i<c.rows.length
 ·rw[List.getElem?_eq_getElem hi]
  have h1:=h5 i hi
  have e:aA c.rows i=c.rows[i]:=by simp[aA,List.getD_eq_getElem?_getD,hi]
  rw[e]at h1
  have hl:c.rows[i].length=1:=h1.aBQ
  obtain ⟨x,hx⟩:∃x,c.rows[i]=[x]:=by
   match c.rows[i],hl with
   |[x],_=>exact ⟨x,rfl⟩
  have h2:=h1.cell 0 (.int .i64) rfl
  rw[hx]at h2
  have h3:∃n,x= .int n:=by
   have h2':gO Tryz.prog T S (.int .i64) (f i 0) x:=h2
   generalize f i 0=u at h2'
   cases h2' with
   |int=>exact ⟨_,rfl⟩
  obtain ⟨n,rfl⟩:=h3
  rw[hx];rfl
 ·rw[List.getElem?_eq_none (by omega)];rfl
def RU (S:yA) (w:World) (out:List Row) (q:List Value) (ok:Bool) (W:World):Prop:=∃S2 aMB,aD1 S w S2 W∧Below w.heap.size w W∧yC Tryz.prog T S2 (full ksL 29) q aMB∧out=[aMB,[.bool ok]]
def GA (S:yA) (w:World) (W:World):Prop:=∃S1,aD1 S w S1 W∧Below w.heap.size w W
def GB (S:yA) (w:World) (l:dA) (r:List Value) (W W':World):Prop:=∃S0 S1,aD1 S w S0 W∧Below w.heap.size w W∧Grow (fun _=>False) S0 W S1 W'∧tD S1 W'∧Tree S1 W' W.heap.size W'.heap.size r l.norm.row
theorem aIK {w W W':World} (h:Below w.heap.size w W) (hg:W.grownBy W' none):Below w.heap.size w W':=h.grown hg h.size (fun j h=>nomatch h)
theorem a5y (hvc:∀v:aB,v.fB≤4294967296→(eA T).pc 42 [v.row]=some [v.row]) (hcp:∀l:dA,l.fB≤4294967296→(eA T).pc 19 [l.row]=some [l.norm.row])
 (rows out:List Row) (hG:sB rows=some out) (S:yA) (w:World) (vs:List Value) (hin:tD S w) (hg:hO Tryz.prog T S) (hz:xM T w) (ha:fE Tryz.prog T S [.agg (full ksL 29),aMW] vs rows):
 Calls Tryz.prog 21 vs.toArray w fun e w'=>∃out' S',e= .returned (aPe out')∧Grow (fun _=>False) S w S' w'∧tD S' w'∧fE Tryz.prog T S' [.agg (full ksL 29),.one .bool] out' out:=by
 obtain ⟨v0,v1,rfl⟩:∃a b,vs=[a,b]:=by
  match vs,ha.aNo with
  |[a,b],_=>exact ⟨a,b,rfl⟩
 obtain ⟨a5Z,aV5,rfl⟩:∃a b,rows=[a,b]:=by
  match rows,ha.aBQ with
  |[a,b],_=>exact ⟨a,b,rfl⟩
 obtain ⟨cv,e0,hr⟩:=ha.arg 0 _ rfl
 have e0:v0= .agg cv:=e0
 subst e0
 have hr:yC Tryz.prog T S (full ksL 29) cv.toList a5Z:=hr
 obtain ⟨sv,e1,hs⟩:=ha.arg 1 _ rfl
 have e1:v1= .agg sv:=e1
 subst e1
 have hs:yC Tryz.prog T S [.sl 3,.int .i64,.int .i64] sv.toList aV5:=hs
 obtain ⟨cl,hcl⟩:∃cl,cl=cv.toList:=⟨_,rfl⟩
 have hcv:cv=cl.toArray:=by rw[hcl]
 rw[←hcl]at hr
 subst hcv
 obtain ⟨sl,hsl⟩:∃sl,sl=sv.toList:=⟨_,rfl⟩
 have hsv:sv=sl.toArray:=by rw[hsl]
 rw[←hsl]at hs
 subst hsv
 clear hcl hsl
 obtain ⟨c0,c1,c2,c3,c4,c5,c6,c7,c8,c9,c10,c11,c12,c13,rfl⟩:=aN8 (hr.mL:cl.length=14)
 obtain ⟨s0,s1,s2,rfl⟩:=bHZ (hs.mL:sl.length=3)
 unfold sB at hG
 dsimp only at hG
 by_cases hex:∃l:dA,l.row=a5Z∧l.fB≤4294967296
 ·rw[if_pos hex]at hG
  obtain ⟨l,rfl,hb⟩:=hex
  obtain ⟨n,bH0⟩:∃n,aV6 ((eA T).pc 13 [l.row])=some n:=by
   revert hG
   cases aV6 ((eA T).pc 13 [l.row])with
   |none=>intro hG;cases hG
   |some n=>intro _;exact ⟨n,rfl⟩
  have h13:=a1H bH0
  rw[bH0]at hG
  dsimp only at hG
  have oc:=aUr hr
  have os:=aUr hs
  have aHW:(T 13).sig=some ([.agg (full ksL 29)],[.one (.int .i64)]):=by kernel_rfl
  refine (a1G w c0 c1 c2 c3 c4 c5 c6 c7 c8 c9 c10 c11 c12 c13 s0 s1 s2
   (oc _ (by simp)) (oc _ (by simp)) (oc _ (by simp)) (oc _ (by simp)) (oc _ (by simp)) (oc _ (by simp)) (oc _ (by simp)) (oc _ (by simp)) (oc _ (by simp)) (oc _ (by simp)) (oc _ (by simp)) (oc _ (by simp)) (oc _ (by simp)) (oc _ (by simp)) (os _ (by simp)) (os _ (by simp)) (os _ (by simp))
   (RU S w out) (fun W=>GA S w W∧n=0) (fun r W W'=>GB S w l r W W'∧n=0) (Go.Proofs.Nrm.hd fun W h=> ?_) (Go.Proofs.Nrm.hd fun W hB hs'=> ?_) (Go.Proofs.Nrm.hd fun W h=> ?_) (Go.Proofs.Nrm.hd fun r0 r1 r2 r3 r4 r5 r6 r7 r8 r9 r10 r11 r12 r13 W W' h=> ?_)).mono ?_
  ·obtain ⟨⟨S1,F,B⟩,h2⟩:=h
   exact ⟨⟨S1,F.keep (Go.Proofs.Nrm.aHQ _ none) (fun b h=>nomatch h),aIK B (Go.Proofs.Nrm.aHQ _ none)⟩,h2⟩
  ·have F:=aD1.start hin hB hs'
   refine (aZM aHW h13 S W [.agg #[c0,c1,c2,c3,c4,c5,c6,c7,c8,c9,c10,c11,c12,c13]] F.yM hg (F.sz hz) (.cons ⟨_,rfl,hr⟩ .nil)).mono ?_
   rintro e W' ⟨out',S',rfl,g1,g2,ha'⟩
   obtain ⟨x,rfl⟩:∃a,out'=[a]:=by
    match out',ha'.aNo with
    |[a],_=>exact ⟨a,rfl⟩
   obtain ⟨c,ec,hx⟩:=ha'.arg 0 _ rfl
   have ec:([.int n]:Row)=[c]:=ec
   obtain rfl:C.int n=c:=by injection ec
   have hx:gO Tryz.prog T S' (.int .i64) x (.int n):=hx
   have ex:x= .int .i64 n:=by cases hx;rfl
   refine ⟨n,by rw[ex];rfl,aHR g1,fun hn=> ?_,fun hn=>⟨⟨S',F.call g1 g2,aIK hB (aHR g1)⟩,hn⟩⟩
   rw[if_neg hn]at hG
   exact ⟨S',uC,F.call g1 g2,aIK hB (aHR g1),a9g S',(Option.some.inj hG).symm⟩
  ·obtain ⟨⟨S1,F,B⟩,h2⟩:=h
   refine (a1B hvc l hb (hr.mono F.le) F.yM (hg.mono F.le) (F.sz hz)).mono ?_
   rintro e W' ⟨ov,S2,rfl,g1,g2,g3⟩
   have hlen:ov.length=14:=g3.head.1
   have bLI:yC Tryz.prog T (snap S2 W' (fun b=>W.heap.size≤b∧b<W'.heap.size)) (full ksL 29) ov l.norm.row:=g3.data a4B g2 (fun b h1 h2=>⟨h1,h2⟩)
   have oo:=aUr bLI
   obtain ⟨r0,r1,r2,r3,r4,r5,r6,r7,r8,r9,r10,r11,r12,r13,rfl⟩:=aN8 hlen
   exact ⟨r0,r1,r2,r3,r4,r5,r6,r7,r8,r9,r10,r11,r12,r13,rfl,⟨oo _ (by simp),oo _ (by simp),oo _ (by simp),oo _ (by simp),oo _ (by simp),oo _ (by simp),oo _ (by simp),oo _ (by simp),oo _ (by simp),oo _ (by simp),oo _ (by simp),oo _ (by simp),oo _ (by simp),oo _ (by simp)⟩,aHR g1,⟨S1,S2,F,B,g1,g2,g3⟩,h2⟩
  ·obtain ⟨⟨S1,S2,F,B,g1,g2,g3⟩,hn⟩:=h
   rw[if_pos hn,hcp l hb]at hG
   dsimp only at hG
   obtain ⟨⟨aMB,ok⟩,hu,hout⟩:=Option.map_eq_some_iff.1 hG
   have hrs:cF Tryz.prog T S2 aMW (.agg #[s0,s1,s2]) aV5:=(show cF Tryz.prog T S aMW (.agg #[s0,s1,s2]) aV5 from ⟨_,rfl,hs⟩).mono (yA.le_trans F.le g1.mono)
   have hp:gO Tryz.prog T S2 (.sl 3) s0 (at_ aV5 0):=(hs.cell 0 _ rfl).mono (yA.le_trans F.le g1.mono)
   have F2:=F.call g1 g2
   refine (a4K (hg.mono (yA.le_trans F.le g1.mono)) hrs (pathOf aV5) W' W.heap.size W'.heap.size [r0,r1,r2,r3,r4,r5,r6,r7,r8,r9,r10,r11,r12,r13] l.norm.row s0 (at_ aV5 0) aMB ok g3 g2 (F2.sz hz) (Nat.le_refl _) hp (a50 hp) hu).mono ?_
   rintro e W2 ⟨ov,rfl,u⟩
   have hlen:ov.length=14:=u.rep.mL
   have oo:=aUr u.rep
   have hgb:W.grownBy W2 none:=⟨u.os.trans g1.os,u.tape.trans g1.tape,u.output.trans g1.output,Nat.le_trans g1.size u.size,fun k hk _=>(u.block k (Nat.lt_of_lt_of_le hk g1.size) (by omega)).trans (g1.block k hk (fun x=>x))⟩
   have hS:=F.size
   have hnot:∀b,b<w.heap.size+3→¬((W.heap.size≤b∧b<W'.heap.size)∨W'.heap.size≤b):=fun b hb=>by have:=g1.size;omega
   have hRU:RU S w out ov ok W2:=⟨_,aMB,⟨yA.le_trans F2.le (aII u.yM),aZL u.yM,fun b o hb=>(aKS (hnot b (by omega))).trans (F2.same b o hb),fun b o h1 h2=>(aKS (hnot b h2)).trans (F2.mine b o h1 h2),fun b hb=>(hgb.block b (by omega) (fun h=>nomatch h)).trans (F.old b hb),by have:=hgb.size;omega⟩,aIK B hgb,u.rep,hout.symm⟩
   obtain ⟨r0,r1,r2,r3,r4,r5,r6,r7,r8,r9,r10,r11,r12,r13,rfl⟩:=aN8 hlen
   exact ⟨r0,r1,r2,r3,r4,r5,r6,r7,r8,r9,r10,r11,r12,r13,ok,rfl,⟨oo _ (by simp),oo _ (by simp),oo _ (by simp),oo _ (by simp),oo _ (by simp),oo _ (by simp),oo _ (by simp),oo _ (by simp),oo _ (by simp),oo _ (by simp),oo _ (by simp),oo _ (by simp),oo _ (by simp),oo _ (by simp)⟩,hgb,hRU⟩
  ·rintro e w' ⟨q0,q1,q2,q3,q4,q5,q6,q7,q8,q9,q10,q11,q12,q13,ok,W2,rfl,hsz,⟨S2,aMB,F,B,hq,rfl⟩,rfl⟩
   obtain ⟨b1,b2,b3,b4⟩:=Go.Proofs.Nrm.jK (w.heap.size+2) [q0,q1,q2,q3,q4,q5,q6,q7,q8,q9,q10,q11,q12,q13] W2 0
   refine ⟨[.agg #[q0,q1,q2,q3,q4,q5,q6,q7,q8,q9,q10,q11,q12,q13],.bool ok],S2,rfl,⟨b1.trans B.os,b2.trans B.tape,b3.trans B.output,by rw[b4];exact B.size,fun b hb _=>(Go.Proofs.Nrm.qG (by omega) _ W2 0).trans (B.block b hb),F.le,fun b o hb _=>F.same b o hb⟩,fun b o v e=> ?_,.cons ⟨_,rfl,hq⟩ (.cons ⟨_,rfl,.bool⟩ .nil)⟩
   refine Go.Proofs.Nrm.aTl (a:=⟨b,o,none⟩) (fun x=> ?_) (F.yM _ _ _ e)
   have x:b=w.heap.size+2:=x
   rw[F.mine b o (by omega) (by omega)]at e
   cases e
 ·rw[if_neg hex]at hG;cases hG
end Go.Ev.dJ
