/-
  norm.use: what it does with a tree of its own.
-/
import Derived.Test.YtdhebofenihjmaaGreatDoorZzkTa
import Derived.Test.YtdhebofenihjmaaGreatDoorZzkU
import Derived.Test.YtdhebofenihjmaaGreatDoorZEq
set_option linter.all false
set_option maxRecDepth 100000
namespace Go.Ev.dJ
open Go.Proofs (Tryz.prog)
open Go.Proofs.Nrm (a1D Aft)
open Go.RowKit (Below)
theorem aN8 {α:Type} {l:List α} (h:l.length=14):∃a0 a1 a2 a3 a4 a5 a6 a7 a8 a9 a10 a11 a12 a13,l=[a0,a1,a2,a3,a4,a5,a6,a7,a8,a9,a10,a11,a12,a13]:=by
 match l,h with
 |[a0,a1,a2,a3,a4,a5,a6,a7,a8,a9,a10,a11,a12,a13],_=>exact ⟨a0,a1,a2,a3,a4,a5,a6,a7,a8,a9,a10,a11,a12,a13,rfl⟩
def ksL:List K:=[.int .i64,.str,.str,.sl 9,.int .i64,.int .i64,.int .i64,.int .u8,.int .i64,.int .i64,.str,.sl 75,.sl 49]
def aMW:L:= .agg [.sl 3,.int .i64,.int .i64]
theorem a4B:Lay Tryz.prog 29 (.agg (full ksL 29)):=aC (by kernel_rfl)
theorem mixed:Tryz.prog.follows .mixedOrders=true:=by kernel_rfl
theorem aZM {f:Nat} {ps rs:List L} {rows out:List Row} (aHW:(T f).sig=some (ps,rs)) (h:(eA T).pc f rows=some out) (S:yA) (w:World) (vs:List Value) (h1:tD S w) (h2:hO Tryz.prog T S) (h3:xM T w) (h4:fE Tryz.prog T S ps vs rows):
 Calls Tryz.prog f vs.toArray w fun e w'=>∃out' S',e= .returned (aPe out')∧Grow (fun _=>False) S w S' w'∧tD S' w'∧fE Tryz.prog T S' rs out' out:=by
 obtain ⟨n,hn⟩:=(gQ T).1 h
 exact ((aOj mixed bGY n).pc.2 f rows out ps rs hn aHW S w vs h1 h2 h3 h4).2
structure a1E (S:yA) (w:World) (lo hi:Nat) (w':World) (ov:List Value) (aMB:Row):Prop where
 os:w'.os=w.os
 tape:w'.tape=w.tape
 output:w'.output=w.output
 size:w.heap.size≤w'.heap.size
 block:∀k,k<w.heap.size→¬(lo≤k∧k<hi)→w'.heap[k]? =w.heap[k]?
 yM:tD S w'
 rep:yC Tryz.prog T (snap S w' (fun b=>(lo≤b∧b<hi)∨w.heap.size≤b)) (full ksL 29) ov aMB
abbrev Tree:=aKT Tryz.prog T ksL 29
theorem a1F {S:yA} {w:World} {lo hi:Nat} {cs:List Value} {row aMX:Row} {pc:C} {stv pv:Value} {aMB:Row} {ok:Bool} (ht:Tree S w lo hi cs row) (hin:tD S w) (hg:hO Tryz.prog T S) (hz:xM T w) (hhi:hi≤w.heap.size)
 (hst:cF Tryz.prog T S aMW stv aMX) (hp:gO Tryz.prog T S (.sl 3) pv pc) (h:(eA T).pc 44 [row,aMX,[pc]]=some [aMB,[.bool ok]]):
 Calls Tryz.prog 44 #[.agg cs.toArray,stv,pv] w fun e w'=>∃ov,e= .returned (.tuple #[.agg ov.toArray,.bool ok])∧a1E S w lo hi w' ov aMB:=by
 have hd:=ht.data (Q:=fun b=>lo≤b∧b<hi) a4B hin (fun b h1 h2=>⟨h1,h2⟩)
 have hle:=aII hin (Q:=fun b=>lo≤b∧b<hi)
 have bLp:=aZL hin (Q:=fun b=>lo≤b∧b<hi)
 have bLq:fE Tryz.prog T (snap S w (fun b=>lo≤b∧b<hi)) [.agg (full ksL 29),aMW,.one (.sl 3)] [.agg cs.toArray,stv,pv] [row,aMX,[pc]]:=
  .cons ⟨_,rfl,hd⟩ (.cons (hst.mono hle) (.cons ⟨_,rfl,hp.mono hle⟩ .nil))
 have aHW:(T 44).sig=some ([.agg (full ksL 29),aMW,.one (.sl 3)],[.agg (full ksL 29),.one .bool]):=by kernel_rfl
 refine (aZM aHW h _ w _ bLp (hg.mono hle) hz bLq).mono ?_
 rintro e w' ⟨out',S',rfl,g1,g2,ha⟩
 obtain ⟨v0,v1,rfl⟩:∃a b,out'=[a,b]:=by
  match out',ha.aNo with
  |[a,b],_=>exact ⟨a,b,rfl⟩
 obtain ⟨cv,e0,hr⟩:=ha.arg 0 _ rfl
 obtain ⟨c1,e1,hb⟩:=ha.arg 1 _ rfl
 have e0':v0= .agg cv:=e0
 have e1':([.bool ok]:Row)=[c1]:=e1
 obtain rfl:C.bool ok=c1:=by injection e1'
 have hb':gO Tryz.prog T S' .bool v1 (.bool ok):=hb
 have ev1:v1= .bool ok:=by cases hb';rfl
 have hr':yC Tryz.prog T S' (full ksL 29) cv.toList aMB:=hr
 refine ⟨cv.toList,by rw[e0',ev1];rfl,g1.os,g1.tape,g1.output,g1.size,fun k hk _=>g1.block k hk (fun h=>h),fun b o v e=>g2 _ _ _ (g1.mono _ _ _ (hle _ _ _ e)),hr'.mono fun b o v e=> ?_⟩
 by_cases hq:(lo≤b∧b<hi)∨w.heap.size≤b
 ·rw[aOs hq];exact g2 _ _ _ e
 ·rw[aKS hq]
  have hb1:b<w.heap.size:=by omega
  have:=g1.new b o hb1 (fun h=>h)
  rw[this,aKS (fun h=>hq (.inl h))]at e
  exact e
theorem bAG {S:yA} {w:World} {lo hi:Nat} {cs:List Value} {row aMX:Row} {stv pv:Value} {i:Nat} {p:List Int} {rows:List Row} {aSB:Row} (ht:Tree S w lo hi cs row) (hin:tD S w) (hg:hO Tryz.prog T S) (hz:xM T w) (hhi:hi≤w.heap.size)
 (hst:cF Tryz.prog T S aMW stv aMX) (hp:gO Tryz.prog T S (.sl 3) pv (.sl (((i:Int)::p).map fun i=>[.int i]))) (hrow:at_ row 13= .sl rows) (hi':i<rows.length)
 (ih:∀(W:World) (l h:Nat) (kc:List Value) (pv':Value),Tree S W l h kc rows[i]→tD S W→xM T W→h≤W.heap.size→gO Tryz.prog T S (.sl 3) pv' (.sl (p.map fun i=>[.int i]))→
   Calls Tryz.prog 44 #[.agg kc.toArray,stv,pv'] W fun e W'=>∃ov,e= .returned (.tuple #[.agg ov.toArray,.bool true])∧a1E S W l h W' ov aSB):
 Calls Tryz.prog 44 #[.agg cs.toArray,stv,pv] w fun e w'=>∃ov,e= .returned (.tuple #[.agg ov.toArray,.bool true])∧a1E S w lo hi w' ov (row.set 13 (.sl (rows.set i aSB))):=by
 have hlen:cs.length=14:=ht.head.1
 cases ht with
 |nil h1 h2 h3=>have h3':at_ row 13= .bA:=h3;rw[h3']at hrow;cases hrow
 | @node _ _ _ _ b cap cur qP Lo Hi h1 h2 h3 h4 h5 h6 h7 h8 h9 h10 h11 h12=>
   obtain rfl:qP=rows:=by
    have h3':at_ row 13= .sl qP:=h3
    rw[h3']at hrow;injection hrow
   obtain ⟨q1,q2,q3,q4⟩:=h10 i qP[i] (List.getElem?_eq_getElem hi')
   have bE0:=h12 i _ (List.getElem?_eq_getElem hi')
   have hbw:b<w.heap.size:=by omega
   obtain ⟨c0,c1,c2,c3,c4,c5,c6,c7,c8,c9,c10,c11,c12,c13,rfl⟩:=aN8 hlen
   have bLr:c13= .slice (some ⟨b,0,none⟩) qP.length cap:=h2
   subst bLr
   have oc0:c0.oneCell'=true:=(h1.2.2 0 _ rfl).wB.1
   have oc1:c1.oneCell'=true:=(h1.2.2 1 _ rfl).wB.1
   have oc2:c2.oneCell'=true:=(h1.2.2 2 _ rfl).wB.1
   have oc3:c3.oneCell'=true:=(h1.2.2 3 _ rfl).wB.1
   have oc4:c4.oneCell'=true:=(h1.2.2 4 _ rfl).wB.1
   have oc5:c5.oneCell'=true:=(h1.2.2 5 _ rfl).wB.1
   have oc6:c6.oneCell'=true:=(h1.2.2 6 _ rfl).wB.1
   have oc7:c7.oneCell'=true:=(h1.2.2 7 _ rfl).wB.1
   have oc8:c8.oneCell'=true:=(h1.2.2 8 _ rfl).wB.1
   have oc9:c9.oneCell'=true:=(h1.2.2 9 _ rfl).wB.1
   have a1v:c10.oneCell'=true:=(h1.2.2 10 _ rfl).wB.1
   have a1w:c11.oneCell'=true:=(h1.2.2 11 _ rfl).wB.1
   have a89:c12.oneCell'=true:=(h1.2.2 12 _ rfl).wB.1
   have hsz:cur.size=cap*14:=h8
   have him:i*14+14≤cur.size:=by
    have:(i+1)*14≤cap*14:=Nat.mul_le_mul_right _ (by omega)
    omega
   have hkl:((cur.toList.drop (i*(ksL.length+1))).take (ksL.length+1)).length=14:=bE0.head.1
   obtain ⟨k0,k1,k2,k3,k4,k5,k6,k7,k8,k9,k10,k11,k12,k13,hkc⟩:=aN8 hkl
   have aIJ:∀j x,[k0,k1,k2,k3,k4,k5,k6,k7,k8,k9,k10,k11,k12,k13][j]? =some x→w.cell? ⟨b,i*14+j,none⟩=some x:=fun j x hx=>by
    have hx':((cur.toList.drop (i*14)).take 14)[j]? =some x:=by
     have e:(cur.toList.drop (i*14)).take 14=[k0,k1,k2,k3,k4,k5,k6,k7,k8,k9,k10,k11,k12,k13]:=hkc
     rw[e];exact hx
    have hj:j<14:=by
     rcases Nat.lt_or_ge j 14 with h |h
     ·exact h
     ·rw[List.getElem?_take_eq_none h]at hx';cases hx'
    rw[List.getElem?_take_of_lt hj,List.getElem?_drop]at hx'
    refine Go.Proofs.Nrm.cell_of h6 _ _ ?_
    rw[←Array.getElem?_toList];exact hx'
   rw[hkc]at bE0
   have hk0:=aIJ 0 _ rfl
   have hk1:=aIJ 1 _ rfl
   have hk2:=aIJ 2 _ rfl
   have hk3:=aIJ 3 _ rfl
   have hk4:=aIJ 4 _ rfl
   have hk5:=aIJ 5 _ rfl
   have hk6:=aIJ 6 _ rfl
   have hk7:=aIJ 7 _ rfl
   have hk8:=aIJ 8 _ rfl
   have hk9:=aIJ 9 _ rfl
   have bEJ:=aIJ 10 _ rfl
   have bEK:=aIJ 11 _ rfl
   have bEL:=aIJ 12 _ rfl
   have bEM:=aIJ 13 _ rfl
   cases hp with
   | @sl _ l _ a len bAH f g1 g2 g3 g4 g5 g6 g7=>
     obtain rfl:l= .one (.int .i64):=g1.inj (aC (by kernel_rfl))
     have bA1:len=p.length+1:=by rw[←g2];simp
     obtain ⟨ab,ao,asp⟩:=a
     have hsp:asp=none:=g5 (by omega)
     subst hsp
     have hc0:=g6 0 0 (by omega) (by decide)
     have hr0:gO Tryz.prog T S (.int .i64) (f 0 0) (.int (i:Int)):=g7 0 0 (.int .i64) (by omega) rfl
     have hf0:f 0 0= .int .i64 i:=by
      generalize f 0 0=v at hr0
      cases hr0;rfl
     rw[hf0]at hc0
     have hp0:w.cell? ⟨ab,ao,none⟩=some (.int .i64 i):=by
      have:=hin _ _ _ hc0
      simpa using this
     have bHW:gO Tryz.prog T S (.sl 3) (.slice (if bAH=1 then some (⟨ab,ao,none⟩:Addr)else some ⟨ab,ao+1,none⟩) (len - 1) (bAH - 1)) (.sl (p.map fun i=>[.int i])):=by
      have hl1:len - 1=p.length:=by omega
      by_cases hp1:bAH=1
      ·rw[if_pos hp1,hl1]
       have bQB:p.length=0:=by omega
       exact .sl (fun _ _=>undef) g1 (by simp) (by omega) (fun r hr=>by
        obtain ⟨x, -,rfl⟩:=List.mem_map.1 hr
        rfl) (fun h=>rfl) (fun i j hi _=>by omega) (fun i j k hi _=>by omega)
      ·rw[if_neg hp1,hl1]
       refine .sl (fun i j=>f (i+1) j) g1 (by simp) (by omega) (fun r hr=>by
        obtain ⟨x, -,rfl⟩:=List.mem_map.1 hr
        rfl) (fun h=>rfl) (fun i j hi hj=> ?_) (fun i j k hi hk=> ?_)
       ·have:=g6 (i+1) j (by omega) hj
        rw[←this]
        have hn1:(L.one (.int .i64)).n=1:=rfl
        rw[hn1]
        congr 1;show ao+1+i*1+j=ao+(i+1)*1+j;omega
       ·exact g7 (i+1) j k (by omega) hk
     obtain ⟨sa,hsv,hsr⟩:=hst
     have hs3:sa.toList.length=3:=hsr.mL
     obtain ⟨sp,ru,at',hsa⟩:∃x y z,sa.toList=[x,y,z]:=by
      match sa.toList,hs3 with
      |[x,y,z],_=>exact ⟨x,y,z,rfl⟩
     have bLs:stv= .agg #[sp,ru,at']:=by
      rw[hsv];congr 1
      exact Array.ext' hsa
     have bQC:cF Tryz.prog T S aMW stv aMX:=⟨sa,hsv,hsr⟩
     rw[bLs]at ih⊢
     have hBW:∀{W:World},Below w.heap.size w W→∀k,k<w.heap.size→W.heap[k]? =w.heap[k]? :=fun h=>h.block
     refine (a1D w c0 c1 c2 c3 c4 c5 c6 c7 c8 c9 c10 c11 c12 b qP.length cap ab ao len bAH sp ru at' i (by omega) g3 hp0 hi' hbw cur h6 k0 k1 k2 k3 k4 k5 k6 k7 k8 k9 k10 k11 k12 k13 hk0 hk1 hk2 hk3 hk4 hk5 hk6 hk7 hk8 hk9 bEJ bEK bEL bEM oc0 oc1 oc2 oc3 oc4 oc5 oc6 oc7 oc8 oc9 a1v a1w a89 _ rfl (fun k=>Lo i≤k∧k<Hi i) (by omega) (fun k hk=>by omega)
      (fun W W' rs=>a1E S W (Lo i) (Hi i) W' rs aSB) (fun W hb hs=> ?_)).mono ?_
     ·have bLt:tD S W:=fun x o v e=>by
       have h1:=hin _ _ _ e
       rw[World.cell?_of_block (hb.block _ (World.block_lt_of_cell? w ⟨x,o,none⟩ h1))];exact h1
      have hzW:xM T W:=fun g t l row h=>by
       obtain ⟨cs,e,z,q1,q2⟩:=hz g t l row h
       have hlt:g<w.heap.size:=by
        rcases Nat.lt_or_ge g w.heap.size with h' |h'
        ·exact h'
        ·simp[Array.getElem?_eq_none h']at q1
       exact ⟨cs,e,z,(hb.block g hlt).trans q1,q2⟩
      have htW:Tree S W (Lo i) (Hi i) [k0,k1,k2,k3,k4,k5,k6,k7,k8,k9,k10,k11,k12,k13] qP[i]:=bE0.keep S.le_refl (fun x _ hx=>hb.block x (by omega)) (fun _ _ _ _=>rfl)
      refine (ih W (Lo i) (Hi i) _ _ htW bLt hzW (by omega) bHW).mono ?_
      rintro e W' ⟨ov,rfl,hu⟩
      have vE:ov.length=14:=hu.rep.mL
      obtain ⟨r0,r1,r2,r3,r4,r5,r6,r7,r8,r9,r10,r11,r12,r13,rfl⟩:=aN8 vE
      exact ⟨r0,r1,r2,r3,r4,r5,r6,r7,r8,r9,r10,r11,r12,r13,rfl,⟨(hu.rep.cell 0 _ rfl).wB.1,(hu.rep.cell 1 _ rfl).wB.1,(hu.rep.cell 2 _ rfl).wB.1,(hu.rep.cell 3 _ rfl).wB.1,(hu.rep.cell 4 _ rfl).wB.1,(hu.rep.cell 5 _ rfl).wB.1,(hu.rep.cell 6 _ rfl).wB.1,(hu.rep.cell 7 _ rfl).wB.1,(hu.rep.cell 8 _ rfl).wB.1,(hu.rep.cell 9 _ rfl).wB.1,(hu.rep.cell 10 _ rfl).wB.1,(hu.rep.cell 11 _ rfl).wB.1,(hu.rep.cell 12 _ rfl).wB.1,(hu.rep.cell 13 _ rfl).wB.1⟩,hu.size,hu.block,hu⟩
     ·rintro e w' ⟨rfl,W,W',r0,r1,r2,r3,r4,r5,r6,r7,r8,r9,r10,r11,r12,r13,hb,hs,hu,ha⟩
      have hWb:W.heap[b]? =some (.cells cur 29 (0,0)):=(hb.block b hbw).trans h6
      have bLu:W'.heap[b]? =some (.cells cur 29 (0,0)):=(hu.block b (by omega) (by omega)).trans hWb
      have bE1:tD S w':=fun x o v e=>by
       have h1:=hin _ _ _ e
       have hx:=World.block_lt_of_cell? w ⟨x,o,none⟩ h1
       have hxb:x≠b:=fun q=>by rw[q,h9 o]at e;cases e
       have bHX:=World.block_lt_of_cell? W' ⟨x,o,none⟩ (hu.yM _ _ _ e)
       rw[World.cell?_of_block (ha.same x bHX hxb (.inl hx))];exact hu.yM _ _ _ e
      have hsize:W.heap.size≤W'.heap.size:=hu.size
      refine ⟨_,rfl,ha.os.trans (hu.os.trans hb.os),ha.tape.trans (hu.tape.trans hb.tape),ha.output.trans (hu.output.trans hb.output),by have:=ha.size;omega,fun k hk hn=> ?_,bE1, ?_⟩
      ·rw[ha.same k (by omega) (by omega) (.inl hk),hu.block k (by omega) (by omega)];exact hb.block k hk
      ·refine a88 (w:=w) (w2:=w') (cur:=cur) (lo:=lo) (hi:=hi) (Lo:=Lo) (Hi:=Hi) (Sk:=snap S W' (fun b=>(Lo i≤b∧b<Hi i)∨W.heap.size≤b)) a4B h1 h2 h4 h5 h7 h8 h10 h11 h12 i hi' [r0,r1,r2,r3,r4,r5,r6,r7,r8,r9,r10,r11,r12,r13] aSB hu.rep (a5W S.le_refl bE1 (fun x hx=> ?_) (fun x hx hxl=> ?_)) bE1 (fun x h1 h2=> .inl ⟨h1,h2⟩) (ha.blk cur 29 bLu (by show i*14+14≤cur.size;exact him)) ?_ (fun j hj=> ?_) (fun x hx1 hx2 hxb hxn=> ?_)
       ·rcases hx with h |h
        ·exact .inl ⟨by omega,by omega⟩
        ·exact .inr (by omega)
       ·exact ha.same x hxl (by rcases hx with h |h<;>omega) (hx.elim (fun h=> .inl (by omega)) (fun h=> .inr h))
       ·simp;omega
       ·have:=a5X cur.toList [r0,r1,r2,r3,r4,r5,r6,r7,r8,r9,r10,r11,r12,r13] 14 i j cap rfl (by simpa using hsz) (by omega) (by omega)
        exact this
       ·rw[ha.same x (by omega) hxb (.inl (by omega)),hu.block x (by omega) hxn];exact hb.block x (by omega)
end Go.Ev.dJ
