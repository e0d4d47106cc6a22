/-
  Trees of one's own: a lens whose lists of kids no one else holds.
-/
import Derived.Test.YtdhebofenihjmaaGreatDoorEvZa
set_option linter.all false
namespace Go.Ev
variable {P:Program} {T:Nat→yF} {S S':yA} {w w':World}
def snap (S:yA) (w:World) (Q:Nat→Prop) [DecidablePred Q]:yA:=fun b o=>if Q b then w.cell? ⟨b,o,none⟩else S b o
section
variable {Q:Nat→Prop} [DecidablePred Q]
theorem aII (h:tD S w):S.le (snap S w Q):=fun b o v e=>by
 unfold snap;split
 ·exact h _ _ _ e
 ·exact e
theorem aZL (h:tD S w):tD (snap S w Q) w:=fun b o v e=>by
 unfold snap at e;split at e
 ·exact e
 ·exact h _ _ _ e
theorem aOs {b o:Nat} (h:Q b):snap S w Q b o=w.cell? ⟨b,o,none⟩:=by unfold snap;rw[if_pos h]
theorem aKS {b o:Nat} (h:¬Q b):snap S w Q b o=S b o:=by unfold snap;rw[if_neg h]
theorem a5W {Q':Nat→Prop} [DecidablePred Q'] (hS:S.le S') (hin:tD S' w') (hq:∀b,Q b→Q' b) (hb:∀b,Q b→b<w.heap.size→w'.heap[b]? =w.heap[b]?):(snap S w Q).le (snap S' w' Q'):=fun b o v e=>by
 unfold snap at e
 split at e
 ·rename_i h
  rw[aOs (hq b h),World.cell?_of_block (hb b h (World.block_lt_of_cell? w ⟨b,o,none⟩ e))];exact e
 ·unfold snap;split
  ·exact hin _ _ _ (hS _ _ _ e)
  ·exact hS _ _ _ e
end
def Head (P:Program) (T:Nat→yF) (S:yA) (ks:List K) (cs:List Value) (row:Row):Prop:=
 cs.length=ks.length+1∧row.length=ks.length+1∧∀j k,ks[j]? =some k→gO P T S k (cs.getD j undef) (at_ row j)
theorem Head.mono {ks:List K} {cs:List Value} {row:Row} (h:Head P T S ks cs row) (hS:S.le S'):Head P T S' ks cs row:=⟨h.1,h.2.1,fun j k hk=>(h.2.2 j k hk).mono hS⟩
inductive aKT (P:Program) (T:Nat→yF) (ks:List K) (t:TypeId) (S:yA) (w:World):Nat→Nat→List Value→Row→Prop
 |nil {lo hi cs row}:Head P T S ks cs row→cs.getD ks.length undef= .slice none 0 0→at_ row ks.length= .bA→aKT P T ks t S w lo hi cs row
 |node {lo hi cs row b cap cur rows} (Lo Hi:Nat→Nat):Head P T S ks cs row→cs.getD ks.length undef= .slice (some ⟨b,0,none⟩) rows.length cap→at_ row ks.length= .sl rows→
   lo≤b→b<hi→w.heap[b]? =some (.cells cur t (0,0))→rows.length≤cap→cur.size=cap*(ks.length+1)→(∀o,S b o=none)→
   (∀i r,rows[i]? =some r→r.length=ks.length+1∧lo≤Lo i∧Hi i≤hi∧(b<Lo i∨Hi i≤b))→
   (∀i j,i<j→j<rows.length→Hi i≤Lo j)→
   (∀i r,rows[i]? =some r→aKT P T ks t S w (Lo i) (Hi i) ((cur.toList.drop (i*(ks.length+1))).take (ks.length+1)) r)→aKT P T ks t S w lo hi cs row
variable {ks:List K} {t:TypeId}
theorem aKT.keep {lo hi:Nat} {cs:List Value} {row:Row} (h:aKT P T ks t S w lo hi cs row):S.le S'→(∀b,lo≤b→b<hi→w'.heap[b]? =w.heap[b]?)→(∀b o,lo≤b→b<hi→S' b o=S b o)→aKT P T ks t S' w' lo hi cs row:=by
 induction h with
 |nil h1 h2 h3=>exact fun hS _ _=> .nil (h1.mono hS) h2 h3
 |node Lo Hi h1 h2 h3 h4 h5 h6 h7 h8 h9 h10 h11 h12 ih=>
  intro hS hw hs
  refine .node Lo Hi (h1.mono hS) h2 h3 h4 h5 ((hw _ h4 h5).trans h6) h7 h8 (fun o=>(hs _ o h4 h5).trans (h9 o)) h10 h11 fun i r hi=> ?_
  obtain ⟨-,g2,g3, -⟩:=h10 i r hi
  exact ih i r hi hS (fun b hb1 hb2=>hw b (by omega) (by omega)) (fun b o hb1 hb2=>hs b o (by omega) (by omega))
theorem aKT.head {lo hi:Nat} {cs:List Value} {row:Row} (h:aKT P T ks t S w lo hi cs row):Head P T S ks cs row:=by cases h<;>assumption
def full (ks:List K) (t:TypeId):List K:=ks++[.sl t]
theorem aN9:(full ks t).length=ks.length+1:=by simp[full]
theorem bAr {j:Nat} {k:K} (h:(full ks t)[j]? =some k):ks[j]? =some k∨(j=ks.length∧k= .sl t):=by
 unfold full at h
 by_cases hj:j<ks.length
 ·rw[List.getElem?_append_left hj]at h;exact .inl h
 ·rw[List.getElem?_append_right (by omega)]at h
  have h0:j - ks.length=0:=by
   rcases Nat.eq_zero_or_pos (j - ks.length)with e |e
   ·exact e
   ·rw[List.getElem?_eq_none (by simp;omega)]at h;cases h
  rw[h0]at h
  simp only[List.getElem?_cons_zero,Option.some.injEq]at h
  exact .inr ⟨by omega,h.symm⟩
theorem Head.rep {cs:List Value} {row:Row} (h:Head P T S ks cs row) (hl:gO P T S (.sl t) (cs.getD ks.length undef) (at_ row ks.length)):yC P T S (full ks t) cs row:=
 ⟨by rw[aN9];exact h.1,by rw[aN9];exact h.2.1,fun j k hk=>by
   rcases bAr hk with h1 |⟨rfl,rfl⟩
   ·exact h.2.2 j k h1
   ·exact hl⟩
theorem aPZ {w:World} {b:Nat} {cur:Array Value} {t:TypeId} (h:w.heap[b]? =some (.cells cur t (0,0))) (o:Nat) (ho:o<cur.size):w.cell? ⟨b,o,none⟩=some (cur.getD o undef):=by
 rw[cell_of_row w _ _ _ _ _ h]
 simp[ho]
theorem a1C {b cap:Nat} {cur:Array Value} {rows:List Row} {S:yA} (aRn:Lay P t (.agg (full ks t))) (h7:rows.length≤cap) (h8:cur.size=cap*(ks.length+1))
 (hS:∀o,o<cur.size→S b o=some (cur.getD o undef)) (hr:∀i r,rows[i]? =some r→yC P T S (full ks t) ((cur.toList.drop (i*(ks.length+1))).take (ks.length+1)) r):
 gO P T S (.sl t) (.slice (some ⟨b,0,none⟩) rows.length cap) (.sl rows):=by
 have hn:(L.agg (full ks t)).n=ks.length+1:=aN9
 refine .sl (fun i j=>cur.getD (i*(ks.length+1)+j) undef) aRn rfl h7 (fun r hr'=> ?_) (fun _=>rfl) (fun i j hi hj=> ?_) fun i j k hi hk=> ?_
 ·obtain ⟨i,hi⟩:=List.mem_iff_getElem?.1 hr'
  rw[hn,←aN9 (t:=t)];exact (hr i r hi).aBQ
 ·rw[hn]at hj
  have hlt:i*(ks.length+1)+j<cur.size:=by
   rw[h8]
   calc i*(ks.length+1)+j<i*(ks.length+1)+(ks.length+1):=by omega
    _=(i+1)*(ks.length+1):=by rw[Nat.add_mul,Nat.one_mul]
    _≤cap*(ks.length+1):=Nat.mul_le_mul_right _ (by omega)
  rw[hn,Nat.zero_add]
  exact hS _ hlt
 ·have hk':(full ks t)[j]? =some k:=hk
  have hj:j<ks.length+1:=by rw[←aN9 (t:=t)];exact (List.getElem?_eq_some_iff.1 hk').1
  have h1:=(hr i rows[i] (List.getElem?_eq_getElem hi)).cell j k hk'
  have e1:aA rows i=rows[i]:=by simp[aA,List.getD_eq_getElem?_getD,hi]
  rw[e1]
  have e2:((cur.toList.drop (i*(ks.length+1))).take (ks.length+1)).getD j undef=cur.getD (i*(ks.length+1)+j) undef:=by
   simp[List.getD_eq_getElem?_getD,hj,Array.getD_eq_getD_getElem?]
  rw[←e2];exact h1
theorem aKT.data {Q:Nat→Prop} [DecidablePred Q] {lo hi:Nat} {cs:List Value} {row:Row} (aRn:Lay P t (.agg (full ks t))) (h:aKT P T ks t S w lo hi cs row) (hin:tD S w):(∀b,lo≤b→b<hi→Q b)→yC P T (snap S w Q) (full ks t) cs row:=by
 induction h with
 |nil h1 h2 h3=>
  intro _
  refine (h1.mono (aII hin)).rep ?_
  rw[h2,h3];exact .bA
 |node Lo Hi h1 h2 h3 h4 h5 h6 h7 h8 h9 h10 h11 h12 ih=>
  intro hq
  refine (h1.mono (aII hin)).rep ?_
  rw[h2,h3]
  refine a1C aRn h7 h8 (fun o ho=> ?_) fun i r hi=> ?_
  ·rw[aOs (hq _ h4 h5)];exact aPZ h6 o ho
  ·obtain ⟨-,g2,g3, -⟩:=h10 i r hi
   exact ih i r hi fun b hb1 hb2=>hq b (by omega) (by omega)
theorem a88 {Q:Nat→Prop} [DecidablePred Q] {Sk:yA} {w2:World} {lo hi b cap:Nat} {cs:List Value} {row:Row} {cur bAs:Array Value} {rows:List Row} {Lo Hi:Nat→Nat} (aRn:Lay P t (.agg (full ks t)))
 (h1:Head P T S ks cs row) (h2:cs.getD ks.length undef= .slice (some ⟨b,0,none⟩) rows.length cap) (h4:lo≤b) (h5:b<hi) (h7:rows.length≤cap) (h8:cur.size=cap*(ks.length+1))
 (h10:∀i r,rows[i]? =some r→r.length=ks.length+1∧lo≤Lo i∧Hi i≤hi∧(b<Lo i∨Hi i≤b)) (h11:∀i j,i<j→j<rows.length→Hi i≤Lo j)
 (h12:∀i r,rows[i]? =some r→aKT P T ks t S w (Lo i) (Hi i) ((cur.toList.drop (i*(ks.length+1))).take (ks.length+1)) r)
 (i:Nat) (hi':i<rows.length) (kc:List Value) (aSB:Row) (hkc:yC P T Sk (full ks t) kc aSB) (hSk:Sk.le (snap S w2 Q)) (hin:tD S w2) (hQ:∀b,lo≤b→b<hi→Q b)
 (hb2:w2.heap[b]? =some (.cells bAs t (0,0))) (hc2:bAs.size=cur.size) (bK4:∀j,j<rows.length→(bAs.toList.drop (j*(ks.length+1))).take (ks.length+1)=if j=i then kc else (cur.toList.drop (j*(ks.length+1))).take (ks.length+1))
 (hw2:∀b',lo≤b'→b'<hi→b'≠b→¬(Lo i≤b'∧b'<Hi i)→w2.heap[b']? =w.heap[b']?):
 yC P T (snap S w2 Q) (full ks t) cs (row.set ks.length (.sl (rows.set i aSB))):=by
 have hh:=h1.mono (aII hin (Q:=Q))
 have hrl:ks.length<row.length:=by rw[h1.2.1];omega
 have bHR:Head P T (snap S w2 Q) ks cs (row.set ks.length (.sl (rows.set i aSB))):=⟨hh.1,by rw[List.length_set];exact hh.2.1,fun j k hk=>by
  have hj:j<ks.length:=(List.getElem?_eq_some_iff.1 hk).1
  have:at_ (row.set ks.length (.sl (rows.set i aSB))) j=at_ row j:=by
   simp only[Ev.at_,List.getD_eq_getElem?_getD]
   rw[List.getElem?_set_ne (by omega)]
  rw[this];exact hh.2.2 j k hk⟩
 refine bHR.rep ?_
 have bHS:at_ (row.set ks.length (.sl (rows.set i aSB))) ks.length= .sl (rows.set i aSB):=by
  simp only[Ev.at_,List.getD_eq_getElem?_getD]
  rw[List.getElem?_set_self hrl];rfl
 have hlen:(rows.set i aSB).length=rows.length:=List.length_set
 rw[bHS,h2,←hlen]
 refine a1C (cur:=bAs) aRn (by rw[hlen];exact h7) (by rw[hc2];exact h8) (fun o ho=> ?_) fun j r hj=> ?_
 ·rw[aOs (hQ _ h4 h5)];exact aPZ hb2 o ho
 ·have hjl:j<rows.length:=by rw[←hlen];exact (List.getElem?_eq_some_iff.1 hj).1
  rw[bK4 j hjl]
  by_cases e:j=i
  ·subst e
   rw[List.getElem?_set_self hjl]at hj
   obtain rfl:aSB=r:=Option.some.inj hj
   rw[if_pos rfl];exact hkc.mono hSk
  ·rw[if_neg e]
   rw[List.getElem?_set_ne (fun x=>e x.symm)]at hj
   obtain ⟨-,g2,g3,g4⟩:=h10 j r hj
   have bP3:Hi j≤Lo i∨Hi i≤Lo j:=by
    rcases Nat.lt_or_gt_of_ne e with h |h
    ·exact .inl (h11 j i h hi')
    ·exact .inr (h11 i j h hjl)
   have hk:aKT P T ks t S w2 (Lo j) (Hi j) ((cur.toList.drop (j*(ks.length+1))).take (ks.length+1)) r:=(h12 j r hj).keep S.le_refl (fun b' hb1 bK5=>hw2 b' (by omega) (by omega) (by omega) (by omega)) (fun _ _ _ _=>rfl)
   exact hk.data aRn hin fun b' hb1 bK5=>hQ b' (by omega) (by omega)
theorem a5X {α:Type} (xs kc:List α) (m i j n:Nat) (hm:kc.length=m) (hx:xs.length=n*m) (hi:i<n) (hj:j<n):
 ((xs.take (i*m)++kc++xs.drop (i*m+m)).drop (j*m)).take m=if j=i then kc else (xs.drop (j*m)).take m:=by
 have him:i*m+m≤n*m:=by
  have:(i+1)*m≤n*m:=Nat.mul_le_mul_right _ (by omega)
  rwa[Nat.add_mul,Nat.one_mul]at this
 have hjm:j*m+m≤n*m:=by
  have:(j+1)*m≤n*m:=Nat.mul_le_mul_right _ (by omega)
  rwa[Nat.add_mul,Nat.one_mul]at this
 have ht:(xs.take (i*m)).length=i*m:=by rw[List.length_take];omega
 refine List.ext_getElem? fun q=> ?_
 by_cases hq:q<m
 ·rw[List.getElem?_take_of_lt hq,List.getElem?_drop]
  by_cases e:j=i
  ·subst e
   rw[if_pos rfl,List.getElem?_append_left (by simp[ht,hm];omega),List.getElem?_append_right (by rw[ht];omega),ht]
   congr 1;omega
  ·rw[if_neg e,List.getElem?_take_of_lt hq,List.getElem?_drop]
   rcases Nat.lt_or_gt_of_ne e with h |h
   ·have:(j+1)*m≤i*m:=Nat.mul_le_mul_right _ (by omega)
    rw[Nat.add_mul,Nat.one_mul]at this
    rw[List.getElem?_append_left (by simp[ht,hm];omega),List.getElem?_append_left (by rw[ht];omega),List.getElem?_take_of_lt (by omega)]
   ·have:(i+1)*m≤j*m:=Nat.mul_le_mul_right _ (by omega)
    rw[Nat.add_mul,Nat.one_mul]at this
    rw[List.getElem?_append_right (by simp[ht,hm];omega),List.getElem?_drop]
    congr 1
    simp[ht,hm];omega
 ·rw[List.getElem?_take_eq_none (by omega)]
  split
  ·rw[List.getElem?_eq_none (by omega)]
  ·rw[List.getElem?_take_eq_none (by omega)]
end Go.Ev
