/-
  lens.Copy gives a tree of one's own.
-/
import Derived.Test.YtdhebofenihjmaaGreatDoorZzkC
import Derived.Test.YtdhebofenihjmaaGreatDoorZzkUa
import Derived.Test.YtdhebofenihjmaaGreatDoorEvDa
set_option linter.all false
set_option maxRecDepth 100000
namespace Go.Ev.dJ
open Go.Proofs (Tryz.prog)
open Go.Proofs.Nrm (aOr Hd hd)
open Go.RowKit (Below)
def ksV:List K:=[.int .i64,.int .i64,.str,.sl 75]
def ksP:List K:=ksV++ksV
theorem bCR:Lay Tryz.prog 49 (.agg ksP):=aC (by kernel_rfl)
theorem bHQ:Lay Tryz.prog 9 (.one .str):=aC (by kernel_rfl)
theorem a1y (l:dA):l.norm.row=[.int l.op,.str l.name,.str l.to,nK true (l.names.map fF),.int l.n,.int l.low,.int l.high,.int l.sep,.int l.v.k,.int l.v.n,.str l.v.s,l.v.fc,nK true (l.pairs.map tA),nK true (l.kids.map fun l=>l.norm.row)]:=by
 cases l
 simp only[dA.norm,dA.row,dA.op,dA.name,dA.to,dA.nb,dA.names,dA.n,dA.low,dA.high,dA.sep,dA.v,dA.pb,dA.pairs,dA.kids,dA.kc,dA.tR,dA.aJ6,List.map_map]
 rfl
def chunk (s i:Nat) (xs:List Value):List Value:=(xs.drop (i*s)).take s
structure aFX (R:Nat→List Value→Prop) (s m:Nat) (xs:List Value):Prop where
 len:xs.length=m*s
 all:∀i,i<m→R i (chunk s i xs)
theorem aFX.nil {R:Nat→List Value→Prop} {s:Nat}:aFX R s 0 []:=⟨by simp,fun i h=>by omega⟩
theorem a3m {s i m:Nat} {xs ys:List Value} (hx:xs.length=m*s) (hi:i<m):chunk s i (xs++ys)=chunk s i xs:=by
 have h1:i*s+s≤m*s:=by
  have:(i+1)*s≤m*s:=Nat.mul_le_mul_right _ (by omega)
  rwa[Nat.add_mul,Nat.one_mul]at this
 unfold chunk
 rw[List.drop_append_of_le_length (by omega),List.take_append_of_le_length (by simp;omega)]
theorem a3n {s m:Nat} {xs ys:List Value} (hx:xs.length=m*s) (hy:ys.length=s):chunk s m (xs++ys)=ys:=by
 unfold chunk
 rw[←hx,List.drop_left,←hy,List.take_length]
theorem aFX.snoc {R R':Nat→List Value→Prop} {s m:Nat} {xs ys:List Value} (h:aFX R s m xs) (hy:ys.length=s) (hR:∀i zs,i<m→R i zs→R' i zs) (hr:R' m ys):aFX R' s (m+1) (xs++ys):=
 ⟨by rw[List.length_append,h.len,hy,Nat.add_mul,Nat.one_mul],fun i hi=>by
   by_cases e:i<m
   ·rw[a3m h.len e];exact hR _ _ e (h.all i e)
   ·obtain rfl:i=m:=by omega
    rw[a3n h.len hy];exact hr⟩
theorem aFX.mono {R R':Nat→List Value→Prop} {s m:Nat} {xs:List Value} (h:aFX R s m xs) (hR:∀i zs,i<m→R i zs→R' i zs):aFX R' s m xs:=⟨h.len,fun i hi=>hR _ _ hi (h.all i hi)⟩
theorem a5T {s i j:Nat} {xs:List Value} (hj:j<s):(chunk s i xs).getD j undef=xs.getD (i*s+j) undef:=by
 unfold chunk
 simp[List.getD_eq_getElem?_getD,hj]
structure aD1 (S:yA) (w:World) (S1:yA) (W:World):Prop where
 le:S.le S1
 yM:tD S1 W
 same:∀b o,b<w.heap.size→S1 b o=S b o
 mine:∀b o,w.heap.size≤b→b<w.heap.size+3→S1 b o=none
 old:∀b,b<w.heap.size→W.heap[b]? =w.heap[b]?
 size:w.heap.size+3≤W.heap.size
variable {S S1 S2:yA} {w W W':World}
theorem aD1.above (h:aD1 S w S1 W) {b:Nat} (hb:W.heap.size≤b) (o:Nat):S1 b o=none:=by
 cases e:S1 b o with
 |none=>rfl
 |some v=>
  have h1:=World.block_lt_of_cell? W ⟨b,o,none⟩ (h.yM _ _ _ e)
  have h2:b<W.heap.size:=h1
  omega
theorem aD1.keep {row:Option Nat} (h:aD1 S w S1 W) (hg:W.grownBy W' row) (hr:∀b,row=some b→w.heap.size≤b∧∀o,S1 b o=none):aD1 S w S1 W':=
 ⟨h.le,fun b o v e=>by
   refine hg.cell (a:=⟨b,o,none⟩) (h.yM _ _ _ e) fun x=> ?_
   have:=(hr b x.symm).2 o
   rw[this]at e;(cases e),h.same,h.mine,fun b hb=>(hg.block b (by have:=h.size;omega) (fun x=>by have:=(hr b x.symm).1;omega)).trans (h.old b hb),Nat.le_trans h.size hg.size⟩
theorem aD1.set (h:aD1 S w S1 W) {p:Addr} {u:Value} (h1:w.heap.size≤p.block) (h2:p.block<w.heap.size+3):aD1 S w S1 (W.setCell p u):=
 ⟨h.le,fun b o v e=>by
   refine Go.Proofs.Nrm.qB (a:=⟨b,o,none⟩) (h.yM _ _ _ e) fun x=> ?_
   have x:p.block=b:=x
   rw[h.mine b o (by omega) (by omega)]at e;(cases e),h.same,h.mine,fun b hb=>(Below.heap_setCell W p u b (by omega)).trans (h.old b hb),by have:=h.size;simp[World.setCell];omega⟩
theorem aD1.call (h:aD1 S w S1 W) (hg:Grow (fun _=>False) S1 W S2 W') (hi:tD S2 W'):aD1 S w S2 W':=by
 have hs:=h.size
 exact ⟨yA.le_trans h.le hg.mono,hi,fun b o hb=>(hg.new b o (by omega) (fun x=>x)).trans (h.same b o hb),fun b o h1 h2=>(hg.new b o (by omega) (fun x=>x)).trans (h.mine b o h1 h2),
  fun b hb=>(hg.block b (by omega) (fun x=>x)).trans (h.old b hb),Nat.le_trans hs hg.size⟩
theorem aD1.snap (h:aD1 S w S1 W) (x:Option Nat) (hx:∀b,x=some b→w.heap.size+3≤b):aD1 S w (snap S1 W (fun b=>x=some b)) W:=
 ⟨yA.le_trans h.le (aII h.yM),aZL h.yM,fun b o hb=>by rw[aKS (fun e=>by have:=hx b e;omega)];exact h.same b o hb,
   fun b o h1 h2=>by rw[aKS (fun e=>by have:=hx b e;omega)];exact h.mine b o h1 h2,h.old,h.size⟩
theorem aD1.sz (h:aD1 S w S1 W) (hz:xM T w):xM T W:=fun g t l row e=>by
 obtain ⟨cs,e',z,h1,h2⟩:=hz g t l row e
 have hg:g<w.heap.size:=by
  rcases Nat.lt_or_ge g w.heap.size with x |x
  ·exact x
  ·simp[Array.getElem?_eq_none x]at h1
 exact ⟨cs,e',z,(h.old g hg).trans h1,h2⟩
theorem aHR (hg:Grow (fun _=>False) S1 W S2 W'):W.grownBy W' none:=⟨hg.os,hg.tape,hg.output,hg.size,fun k hk _=>hg.block k hk (fun x=>x)⟩
def aF3 (w:World) (S1:yA) (W:World) (v:Value):Prop:=∀b,v.ownBlock=some b→w.heap.size+3≤b∧b<W.heap.size∧∀o,S1 b o=none
theorem aF3.nil:aF3 w S1 W (.slice none 0 0):=fun b h=>by simp[Value.ownBlock]at h
theorem aF3.row {v:Value} (h:aF3 w S1 W v) (b:Nat) (e:v.ownBlock=some b):w.heap.size≤b∧∀o,S1 b o=none:=⟨by have:=(h b e).1;omega,(h b e).2.2⟩
theorem aF3.call {v:Value} (h:aF3 w S1 W v) (hg:Grow (fun _=>False) S1 W S2 W'):aF3 w S2 W' v:=fun b e=>by
 obtain ⟨a1,a2,a3⟩:=h b e
 exact ⟨a1,Nat.lt_of_lt_of_le a2 hg.size,fun o=>(hg.new b o a2 (fun x=>x)).trans (a3 o)⟩
theorem aYs {e:TypeId} {l:L} {v:Value} {c:C} (aRn:Lay Tryz.prog e l) (h:gO Tryz.prog T S (.sl e) v c):∃(f:Nat→Nat→Value) (a:Option Addr) (cap:Nat),v= .slice a c.rows.length cap∧(a=none→c.rows.length=0∧cap=0)∧
 (∀ad,a=some ad→0<c.rows.length→ad.spot=none)∧(∀ad,a=some ad→∀i j,i<c.rows.length→j<l.n→S ad.block (ad.off+i*l.n+j)=some (f i j))∧∀i,i<c.rows.length→yC Tryz.prog T S l.ks ((List.range l.n).map (f i)) (aA c.rows i):=by
 cases h with
 |bA=>exact ⟨fun _ _=>undef,none,0,rfl,fun _=>⟨rfl,rfl⟩,fun ad h=>(by cases h),fun ad h=>(by cases h),fun i h=>(by simp[C.rows]at h)⟩
 | @sl _ l' rows a len cap f g1 g2 g3 g4 g5 g6 g7=>
   obtain rfl:l'=l:=g1.inj aRn
   subst g2
   refine ⟨f,some a,cap,rfl,fun h=>(by cases h),fun ad h hp=> ?_,fun ad h i j hi hj=> ?_,fun i hi=>⟨by simp[L.n], ?_,fun j k hk=> ?_⟩⟩
   ·injection h with h;subst h;exact g5 (by simp[C.rows]at hp;omega)
   ·injection h with h;subst h;exact g6 i j hi hj
   ·have hr:aA (C.rows (.sl rows)) i∈rows:=by
     have hi':i<rows.length:=hi
     have:aA rows i=rows[i]:=by simp[aA,List.getD_eq_getElem?_getD,hi']
     show aA rows i∈rows
     rw[this];exact List.getElem_mem hi'
    exact g4 _ hr
   ·have hj:j<l'.n:=(List.getElem?_eq_some_iff.1 hk).1
    have:((List.range l'.n).map (f i)).getD j undef=f i j:=by simp[List.getD_eq_getElem?_getD,hj]
    rw[this];exact g7 i j k hi hk
theorem a1z {e:TypeId} {l:L} {s n base:Nat} {v:Value} {xs:List Value} {rows:List Row} (aRn:Lay Tryz.prog e l) (hs:l.n=s) (ho:W.ownsRow base e s v n xs) (h0:n=0→v= .slice none 0 0) (hn:rows.length=n)
 (hS:∀b o,v.ownBlock=some b→S b o=W.cell? ⟨b,o,none⟩) (hr:∀i,i<n→yC Tryz.prog T S l.ks (chunk s i xs) (aA rows i)):gO Tryz.prog T S (.sl e) v (nK true rows):=by
 rcases Nat.eq_zero_or_pos n with e0 |e0
 ·rw[h0 e0]
  have:rows=[]:=List.eq_nil_of_length_eq_zero (by omega)
  rw[this];exact .bA
 ·have hsl:nK true rows= .sl rows:=by cases rows with
   |nil=>simp at hn;omega
   |cons a r=>rfl
  rw[hsl]
  rcases ho.2 with ⟨rfl,rfl⟩|⟨g,cap,cur,rfl,hb,hh,hle,hmx,hsz,ht⟩
  ·omega
  ·subst hs
   have hat:∀i j,i<n→j<l.n→i*l.n+j<n*l.n:=fun i j hi hj=>by
    have:(i+1)*l.n≤n*l.n:=Nat.mul_le_mul_right _ (by omega)
    rw[Nat.add_mul,Nat.one_mul]at this;omega
   have hcap:n*l.n≤cap*l.n:=Nat.mul_le_mul_right _ hle
   have hx:∀q,q<n*l.n→xs.getD q undef=cur.getD q undef:=fun q hq=>by
    rw[←ht];simp[List.getD_eq_getElem?_getD,hq,Array.getD_eq_getD_getElem?]
   refine .sl (fun i j=>cur.getD (i*l.n+j) undef) aRn hn hle (fun r hr'=> ?_) (fun _=>rfl) (fun i j hi hj=> ?_) fun i j k hi hk=> ?_
   ·obtain ⟨i,hi⟩:=List.mem_iff_getElem?.1 hr'
    have hi2:i<n:=by rw[←hn];exact (List.getElem?_eq_some_iff.1 hi).1
    have:=(hr i hi2).aBQ
    have e1:aA rows i=r:=by simp[aA,List.getD_eq_getElem?_getD,hi]
    rw[e1]at this;exact this
   ·have:=hat i j hi hj
    rw[Nat.zero_add,hS g _ rfl]
    exact aPZ hh _ (by omega)
   ·have hj:j<l.n:=(List.getElem?_eq_some_iff.1 hk).1
    have h1:=(hr i hi).cell j k hk
    rw[a5T hj,hx _ (hat i j hi hj)]at h1
    exact h1
end Go.Ev.dJ
namespace Go.Ev.dJ
open Go.Proofs (Tryz.prog)
open Go.Proofs.Nrm (aOr Hd hd)
open Go.RowKit (Below)
variable {S S1 S2:yA} {w W W':World}
theorem aP0 {e:TypeId} {l:L} {v:Value} {c:C} {rows:List Row} {n:Nat} (aRn:Lay Tryz.prog e l) (h:gO Tryz.prog T S (.sl e) v c) (hc:c.rows=rows) (hn:rows.length=n):∃(f:Nat→Nat→Value) (a:Option Addr) (cap:Nat),v= .slice a n cap∧(a=none→n=0∧cap=0)∧
 (∃b o,0<n→a=some ⟨b,o,none⟩)∧(∀ad,a=some ad→∀i j,i<n→j<l.n→S ad.block (ad.off+i*l.n+j)=some (f i j))∧(∀ad,a=some ad→0<n→ad.spot=none)∧∀i,i<n→yC Tryz.prog T S l.ks ((List.range l.n).map (f i)) (aA rows i):=by
 obtain ⟨f,a,cap,h1,h2,h3,h4,h5⟩:=aYs aRn h
 subst hc;subst hn
 refine ⟨f,a,cap,h1,h2, ?_,h4,h3,h5⟩
 cases a with
 |none=>exact ⟨0,0,fun h=>by have:=(h2 rfl).1;omega⟩
 |some ad=>
  obtain ⟨b,o,sp⟩:=ad
  exact ⟨b,o,fun h=>by have:sp=none:=h3 _ rfl h;rw[this]⟩
theorem bCS {v:aB} (hv:(eA T).pc 42 [v.row]=some [v.row]) {cs:List Value} (hr:yC Tryz.prog T S ksV cs v.row) (hin:tD S w) (hg:hO Tryz.prog T S) (hz:xM T w):
 Calls Tryz.prog 42 #[.agg cs.toArray] w fun e w'=>∃ov S',e= .returned (.agg ov.toArray)∧Grow (fun _=>False) S w S' w'∧tD S' w'∧yC Tryz.prog T S' ksV ov v.row:=by
 have aHW:(T 42).sig=some ([.agg ksV],[.agg ksV]):=by kernel_rfl
 refine (aZM aHW hv _ w [.agg cs.toArray] hin hg hz (.cons ⟨_,rfl,hr⟩ .nil)).mono ?_
 rintro e w' ⟨out',S',rfl,g1,g2,ha⟩
 obtain ⟨v0,rfl⟩:∃a,out'=[a]:=by
  match out',ha.aNo with
  |[a],_=>exact ⟨a,rfl⟩
 obtain ⟨cv,e0,h0⟩:=ha.arg 0 _ rfl
 have e0':v0= .agg cv:=e0
 exact ⟨cv.toList,S',by rw[e0'];rfl,g1,g2,h0⟩
def aN7 (l:List (aB×aB)):List aB:=l.flatMap fun p=>[p.1,p.2]
theorem aHS:∀(l:List (aB×aB)) (i:Nat),(aN7 l)[2*i]? =l[i]?.map (·.1)∧(aN7 l)[2*i+1]? =l[i]?.map (·.2)
 |[],i=>by simp[aN7]
 |p::r,0=>by simp[aN7]
 |p::r,i+1=>by
  have h:=aHS r i
  have e:aN7 (p::r)=p.1::p.2::aN7 r:=rfl
  rw[e,show 2*(i+1)=2*i+1+1 by omega,show 2*i+1+1+1=(2*i+1)+1+1 by omega]
  simpa using h
theorem a84 {p:aB×aB} {p0 p1 p2 p3 p4 p5 p6 p7:Value} (h:yC Tryz.prog T S ksP [p0,p1,p2,p3,p4,p5,p6,p7] (tA p)):yC Tryz.prog T S ksV [p0,p1,p2,p3] p.1.row:=
 ⟨rfl,rfl,fun j k hk=>by
   rcases j with _ |_ |_ |_ |j
   ·exact h.cell 0 k hk
   ·exact h.cell 1 k hk
   ·exact h.cell 2 k hk
   ·exact h.cell 3 k hk
   ·simp[ksV]at hk⟩
theorem a86 {p:aB×aB} {p0 p1 p2 p3 p4 p5 p6 p7:Value} (h:yC Tryz.prog T S ksP [p0,p1,p2,p3,p4,p5,p6,p7] (tA p)):yC Tryz.prog T S ksV [p4,p5,p6,p7] p.2.row:=
 ⟨rfl,rfl,fun j k hk=>by
   rcases j with _ |_ |_ |_ |j
   ·exact h.cell 4 k hk
   ·exact h.cell 5 k hk
   ·exact h.cell 6 k hk
   ·exact h.cell 7 k hk
   ·simp[ksV]at hk⟩
theorem a5U {p:aB×aB} {xs ys:List Value} (h1:yC Tryz.prog T S ksV xs p.1.row) (h2:yC Tryz.prog T S ksV ys p.2.row):yC Tryz.prog T S ksP (xs++ys) (tA p):=by
 obtain ⟨p0,p1,p2,p3,rfl⟩:=aXj h1.mL
 obtain ⟨p4,p5,p6,p7,rfl⟩:=aXj h2.mL
 refine ⟨rfl,rfl,fun j k hk=> ?_⟩
 rcases j with _ |_ |_ |_ |_ |_ |_ |_ |j
 ·exact h1.cell 0 k hk
 ·exact h1.cell 1 k hk
 ·exact h1.cell 2 k hk
 ·exact h1.cell 3 k hk
 ·exact h2.cell 0 k hk
 ·exact h2.cell 1 k hk
 ·exact h2.cell 2 k hk
 ·exact h2.cell 3 k hk
 ·simp[ksP,ksV]at hk
theorem a3o {i:Nat} {xs:List Value}:chunk 8 i xs=chunk 4 (2*i) xs++chunk 4 (2*i+1) xs:=by
 unfold chunk
 rw[show (2*i+1)*4=2*i*4+4 by omega,show i*8=2*i*4 by omega,←List.drop_drop,show (8:Nat)=4+4 from rfl,List.take_add]
section
variable (S:yA) (w:World) (l:dA)
def G0 (nv:Value) (ds:List Value) (W:World):Prop:=∃S1,aD1 S w S1 W∧gO Tryz.prog T S1 (.sl 9) nv (nK true (l.names.map fF))∧yC Tryz.prog T S1 ksV ds l.v.row
def bEI (S1:yA) (i:Nat) (ys:List Value):Prop:=∃u,(aN7 l.pairs)[i]? =some u∧yC Tryz.prog T S1 ksV ys u.row
def G1 (nv:Value) (ds:List Value) (k:Nat) (W:World) (pv:Value) (xs news:List Value):Prop:=∃S1 m,aD1 S w S1 W∧gO Tryz.prog T S1 (.sl 9) nv (nK true (l.names.map fF))∧yC Tryz.prog T S1 ksV ds l.v.row∧
 aF3 w S1 W pv∧xs.length=k*8∧(k=0→pv= .slice none 0 0)∧aFX (bEI l S1) 4 m (xs++news)
def aZN (S2:yA) (W:World) (kv:Value) (Lo Hi:Nat→Nat) (i:Nat) (ys:List Value):Prop:=∃u,l.kids[i]? =some u∧Tree S2 W (Lo i) (Hi i) ys u.norm.row∧w.heap.size+3≤Lo i∧Lo i≤Hi i∧Hi i≤W.heap.size∧∀b,kv.ownBlock=some b→b<Lo i∨Hi i≤b
def G2 (nv:Value) (ds:List Value) (pv:Value) (pxs:List Value) (k:Nat) (W:World) (kv:Value) (xs news:List Value):Prop:=∃S2 m Lo Hi,aD1 S w S2 W∧gO Tryz.prog T S2 (.sl 9) nv (nK true (l.names.map fF))∧yC Tryz.prog T S2 ksV ds l.v.row∧
 gO Tryz.prog T S2 (.sl 49) pv (nK true (l.pairs.map tA))∧aF3 w S2 W kv∧xs.length=k*14∧(k=0→kv= .slice none 0 0)∧aFX (aZN w l S2 W kv Lo Hi) 14 m (xs++news)∧∀i j,i<j→j<m→Hi i≤Lo j
end
variable {l:dA} {nv pv pv' kv kv':Value} {ds xs pxs news:List Value} {k n:Nat} {p:Addr} {u:Value}
theorem aF3.keep {v:Value} (h:aF3 w S1 W v) (hs:W.heap.size≤W'.heap.size):aF3 w S1 W' v:=fun b e=>by
 obtain ⟨a1,a2,a3⟩:=h b e
 exact ⟨a1,by omega,a3⟩
theorem aV3 (W:World) (p:Addr) (u:Value):(W.setCell p u).heap.size=W.heap.size:=by simp[World.setCell]
theorem G0.set (h:G0 S w l nv ds W) (h1:w.heap.size≤p.block) (h2:p.block<w.heap.size+3):G0 S w l nv ds (W.setCell p u):=by
 obtain ⟨S1,F,a,b⟩:=h
 exact ⟨S1,F.set h1 h2,a,b⟩
theorem G1.keep (h:G1 S w l nv ds k W pv xs news) (hg:W.grownBy W' pv.ownBlock):G1 S w l nv ds k W' pv xs news:=by
 obtain ⟨S1,m,F,a,b,o,c⟩:=h
 exact ⟨S1,m,F.keep hg o.row,a,b,o.keep hg.size,c⟩
theorem G1.set (h:G1 S w l nv ds k W pv xs news) (h1:w.heap.size≤p.block) (h2:p.block<w.heap.size+3):G1 S w l nv ds k (W.setCell p u) pv xs news:=by
 obtain ⟨S1,m,F,a,b,o,c⟩:=h
 exact ⟨S1,m,F.set h1 h2,a,b,o.keep (by rw[aV3];exact Nat.le_refl _),c⟩
theorem a1A {s:Nat} {e:TypeId} {v v':Value} {xs:List Value} {q:Nat} (F:aD1 S w S1 W) (o:aF3 w S1 W v) (hs:W.heap.size≤W'.heap.size) (ho:W'.ownsRow n e s v' q xs) (hat:v'.ownBlock=v.ownBlock∨v'.ownBlock=some W.heap.size):aF3 w S1 W' v':=fun b eb=>by
 rcases hat with h |h
 ·exact o.keep hs b (h▸eb)
 ·rw[h]at eb
  injection eb with eb
  subst eb
  exact ⟨F.size,(ho.lt _ h).2,fun x=>F.above (Nat.le_refl _) x⟩
theorem G1.app (h1:W.ownsRow n 49 8 pv k xs) (h2:W'.ownsRow n 49 8 pv' (k+1) (xs++news)) (hg:W.grownBy W' pv.ownBlock) (hat:pv'.ownBlock=pv.ownBlock∨pv'.ownBlock=some W.heap.size) (h:G1 S w l nv ds k W pv xs news):G1 S w l nv ds (k+1) W' pv' (xs++news) []:=by
 obtain ⟨S1,m,F,a,b,o, -, -,c⟩:=h
 exact ⟨S1,m,F.keep hg o.row,a,b,a1A F o hg.size h2 hat,h2.1,fun e=>by omega,by rw[List.append_nil];exact c⟩
theorem G1.pairs (hn:w.heap.size+3≤n) (ho:W.ownsRow n 49 8 pv l.pairs.length xs) (h:G1 S w l nv ds l.pairs.length W pv xs []):G2 S w l nv ds pv xs 0 W (.slice none 0 0) [] []:=by
 obtain ⟨S1,m,F,a,b,o,hx,h0,c⟩:=h
 rw[List.append_nil]at c
 have hm:m=2*l.pairs.length:=by have:=c.len;omega
 subst hm
 have hle:=aII F.yM (Q:=fun b=>pv.ownBlock=some b)
 refine ⟨snap S1 W (fun b=>pv.ownBlock=some b),0,fun _=>0,fun _=>0,F.snap _ (fun b e=>(o b e).1),a.mono hle,b.mono hle, ?_,aF3.nil,rfl,fun _=>rfl,aFX.nil,fun i j h1 h2=>absurd h2 (Nat.not_lt_zero _)⟩
 refine a1z bCR rfl ho h0 (by simp) (fun b o e=>aOs e) fun i hi=> ?_
 obtain ⟨u1,e1,r1⟩:=c.all (2*i) (by omega)
 obtain ⟨u2,e2,r2⟩:=c.all (2*i+1) (by omega)
 rw[(aHS _ _).1,List.getElem?_eq_getElem hi]at e1
 rw[(aHS _ _).2,List.getElem?_eq_getElem hi]at e2
 simp only[Option.map_some,Option.some.injEq]at e1 e2
 subst e1;subst e2
 rw[iC _ _ _ hi]
 show yC Tryz.prog T _ ksP (chunk 8 i xs) _
 rw[a3o]
 exact a5U (r1.mono hle) (r2.mono hle)
theorem aZN.keep {kv:Value} {Lo Hi:Nat→Nat} {i:Nat} {ys:List Value} (h:aZN w l S2 W kv Lo Hi i ys) (hg:W.grownBy W' kv.ownBlock):aZN w l S2 W' kv Lo Hi i ys:=by
 obtain ⟨u,a1,a2,a3,a4,a5,a6⟩:=h
 exact ⟨u,a1,a2.keep S2.le_refl (fun b h1 h2=>hg.block b (by omega) (fun e=>by rcases a6 b e.symm with x |x<;>omega)) (fun _ _ _ _=>rfl),a3,a4,Nat.le_trans a5 hg.size,a6⟩
theorem G2.keep (h:G2 S w l nv ds pv pxs k W kv xs news) (hg:W.grownBy W' kv.ownBlock):G2 S w l nv ds pv pxs k W' kv xs news:=by
 obtain ⟨S1,m,Lo,Hi,F,a,b,a3,o,c1,c2,c3,c4⟩:=h
 exact ⟨S1,m,Lo,Hi,F.keep hg o.row,a,b,a3,o.keep hg.size,c1,c2,c3.mono (fun i zs _ h=>h.keep hg),c4⟩
theorem G2.set (h:G2 S w l nv ds pv pxs k W kv xs news) (h1:w.heap.size≤p.block) (h2:p.block<w.heap.size+3):G2 S w l nv ds pv pxs k (W.setCell p u) kv xs news:=by
 obtain ⟨S1,m,Lo,Hi,F,a,b,a3,o,c1,c2,c3,c4⟩:=h
 refine ⟨S1,m,Lo,Hi,F.set h1 h2,a,b,a3,o.keep (by rw[aV3];exact Nat.le_refl _),c1,c2,c3.mono (fun i zs _ h=> ?_),c4⟩
 obtain ⟨u,a1,a2,a3,a4,a5,a6⟩:=h
 exact ⟨u,a1,a2.keep S1.le_refl (fun b h1 h2=>Below.heap_setCell _ p _ b (by omega)) (fun _ _ _ _=>rfl),a3,a4,by rw[aV3];exact a5,a6⟩
theorem G2.app (h2:W'.ownsRow n 29 14 kv' (k+1) (xs++news)) (hg:W.grownBy W' kv.ownBlock) (hat:kv'.ownBlock=kv.ownBlock∨kv'.ownBlock=some W.heap.size) (h:G2 S w l nv ds pv pxs k W kv xs news):G2 S w l nv ds pv pxs (k+1) W' kv' (xs++news) []:=by
 obtain ⟨S1,m,Lo,Hi,F,a,b,a3,o,c1,c2,c3,c4⟩:=h
 refine ⟨S1,m,Lo,Hi,F.keep hg o.row,a,b,a3,a1A F o hg.size h2 hat,h2.1,fun e=>by omega,by
  rw[List.append_nil]
  refine c3.mono fun i zs _ h=> ?_
  obtain ⟨u,a1,a2,a3,a4,a5,a6⟩:=h.keep hg
  obtain ⟨-, -, -, -, -,q5,q6⟩:=h
  refine ⟨u,a1,a2,a3,a4,a5,fun b e=> ?_⟩
  rcases hat with x |x
  ·exact q6 b (x▸e)
  ·rw[x]at e;injection e with e;omega,c4⟩
theorem G1.half {v:aB} {cs:List Value} {q:Nat} (hg:hO Tryz.prog T S) (hz:xM T w) (hv:(eA T).pc 42 [v.row]=some [v.row]) (hr:yC Tryz.prog T S ksV cs v.row) (hq:(xs++news).length=q*4) (hl:(aN7 l.pairs)[q]? =some v) (h:G1 S w l nv ds k W pv xs news):
 Calls Tryz.prog 42 #[.agg cs.toArray] W fun e W'=>∃ov,e= .returned (.agg ov.toArray)∧ov.length=4∧(∀u∈ov,u.oneCell'=true)∧W.grownBy W' none∧G1 S w l nv ds k W' pv xs (news++ov):=by
 obtain ⟨S1,m,F,a,b,o,c1,c2,c3⟩:=h
 refine (bCS hv (hr.mono F.le) F.yM (hg.mono F.le) (F.sz hz)).mono ?_
 rintro e W' ⟨ov,S2,rfl,g1,g2,g3⟩
 have hm:m=q:=by have:=c3.len;omega
 subst hm
 refine ⟨ov,rfl,g3.mL,fun u hu=> ?_,aHR g1,S2,m+1,F.call g1 g2,a.mono g1.mono,b.mono g1.mono,o.call g1,c1,c2, ?_⟩
 ·obtain ⟨j,hj⟩:=List.mem_iff_getElem?.1 hu
  have hjl:j<ksV.length:=by rw[←g3.mL];exact (List.getElem?_eq_some_iff.1 hj).1
  have:=(g3.cell j _ (List.getElem?_eq_getElem hjl)).wB.1
  rwa[List.getD_eq_getElem?_getD,hj]at this
 ·rw[←List.append_assoc]
  exact c3.snoc g3.mL (fun i zs _ h=>by obtain ⟨u,h1,h2⟩:=h;exact ⟨u,h1,h2.mono g1.mono⟩) ⟨v,hl,g3⟩
end Go.Ev.dJ
namespace Go.Ev.dJ
open Go.Proofs (Tryz.prog)
open Go.Proofs.Nrm (aOr Hd)
open Go.RowKit (Below)
theorem G2.kid {S:yA} {w W:World} {l k:dA} {nv pv kv:Value} {ds pxs xs cs:List Value} {i:Nat} (hg:hO Tryz.prog T S) (hz:xM T w) (hi:l.kids[i]? =some k) (hr:yC Tryz.prog T S (full ksL 29) cs k.row)
 (ih:∀(S:yA) (w:World),yC Tryz.prog T S (full ksL 29) cs k.row→tD S w→hO Tryz.prog T S→xM T w→Calls Tryz.prog 19 #[.agg cs.toArray] w fun e w'=>∃ov S',e= .returned (.agg ov.toArray)∧Grow (fun _=>False) S w S' w'∧tD S' w'∧Tree S' w' w.heap.size w'.heap.size ov k.norm.row)
 (h:G2 S w l nv ds pv pxs i W kv xs []):
 Calls Tryz.prog 19 #[.agg cs.toArray] W fun e W'=>∃ov,e= .returned (.agg ov.toArray)∧ov.length=14∧(∀u∈ov,u.oneCell'=true)∧W.grownBy W' none∧G2 S w l nv ds pv pxs i W' kv xs ov:=by
 obtain ⟨S1,m,Lo,Hi,F,a,b,a3,o,c1,c2,c3,c4⟩:=h
 rw[List.append_nil]at c3
 have hm:m=i:=by have:=c3.len;omega
 subst hm
 refine (ih S1 W (hr.mono F.le) F.yM (hg.mono F.le) (F.sz hz)).mono ?_
 rintro e W' ⟨ov,S2,rfl,g1,g2,g3⟩
 have hh:Head Tryz.prog T S2 ksL ov k.norm.row:=g3.head
 have hlen:ov.length=14:=hh.1
 have hone:∀u∈ov,u.oneCell'=true:=fun u hu=>by
  obtain ⟨j,hj⟩:=List.mem_iff_getElem?.1 hu
  have hjl:j<14:=by rw[←hlen];exact (List.getElem?_eq_some_iff.1 hj).1
  by_cases e:j<13
  ·have hjk:j<ksL.length:=e
   have:=(hh.2.2 j _ (List.getElem?_eq_getElem hjk)).wB.1
   rwa[List.getD_eq_getElem?_getD,hj]at this
  ·obtain rfl:j=13:=by omega
   have hu':ov.getD ksL.length undef=u:=by rw[List.getD_eq_getElem?_getD];show (ov[13]?).getD undef=u;rw[hj];rfl
   cases g3 with
   |nil q1 q2 q3=>rw[←hu',q2];rfl
   |node q0 q00 q1 q2=>rw[←hu',q2];rfl
 refine ⟨ov,rfl,hlen,hone,aHR g1,S2,m+1,(fun j=>if j=m then W.heap.size else Lo j),(fun j=>if j=m then W'.heap.size else Hi j),F.call g1 g2,a.mono g1.mono,b.mono g1.mono,a3.mono g1.mono,o.call g1,c1,c2, ?_,fun p q h1 h2=> ?_⟩
 ·refine c3.snoc hlen (fun j zs hj h=> ?_) ?_
  ·obtain ⟨u,a1,a2,a3,a4,a5,a6⟩:=h
   have e:j≠m:=by omega
   refine ⟨u,a1, ?_, ?_, ?_, ?_, ?_⟩
   ·simp only[if_neg e]
    exact a2.keep g1.mono (fun b h1 h2=>g1.block b (by omega) (fun x=>x)) (fun b o h1 h2=>g1.new b o (by omega) (fun x=>x))
   ·simp only[if_neg e];exact a3
   ·simp only[if_neg e];exact a4
   ·simp only[if_neg e];exact Nat.le_trans a5 g1.size
   ·simp only[if_neg e];exact a6
  ·refine ⟨k,hi, ?_, ?_, ?_, ?_, ?_⟩
   ·simp only[if_true];exact g3
   ·simp only[if_true];exact F.size
   ·simp only[if_true];exact g1.size
   ·simp only[if_true];exact Nat.le_refl _
   ·simp only[if_true];exact fun b e=> .inl (o b e).2.1
 ·by_cases e:q=m
  ·have e1:p≠m:=by omega
   simp only[if_neg e1,if_pos e]
   obtain ⟨u,a1,a2,a3,a4,a5,a6⟩:=c3.all p (by omega)
   exact a5
  ·have e1:p≠m:=by omega
   simp only[if_neg e1,if_neg e]
   exact c4 p q h1 (by omega)
theorem aD1.start {S:yA} {w W:World} (hin:tD S w) (hB:Below w.heap.size w W) (hs:w.heap.size+3≤W.heap.size):aD1 S w S W:=
 ⟨S.le_refl,fun b o v e=>by
   have h1:=hin _ _ _ e
   have hb:b<w.heap.size:=World.block_lt_of_cell? w ⟨b,o,none⟩ h1
   rw[World.cell?_of_block (hB.block b hb)];exact h1,fun _ _ _=>rfl,fun b o h1 h2=>by
   cases e:S b o with
   |none=>rfl
   |some v=>
    have hb:b<w.heap.size:=World.block_lt_of_cell? w ⟨b,o,none⟩ (hin _ _ _ e)
    omega,fun b hb=>hB.block b hb,hs⟩
theorem a5V {n:Nat} {f:Nat→Nat→Value} {i:Nat} (hi:i<n):chunk 1 i ((List.range n).map fun i=>f i 0)=(List.range 1).map (f i):=by
 unfold chunk
 rw[Nat.mul_one]
 refine List.ext_getElem? fun q=> ?_
 cases q with
 |zero=>simp[hi]
 |succ q=>simp;omega
theorem a1B (hvc:∀v:aB,v.fB≤4294967296→(eA T).pc 42 [v.row]=some [v.row]) (l:dA) (hb:l.fB≤4294967296) {S:yA} {w:World} {cs:List Value} (hr:yC Tryz.prog T S (full ksL 29) cs l.row) (hin:tD S w) (hg:hO Tryz.prog T S) (hz:xM T w):
 Calls Tryz.prog 19 #[.agg cs.toArray] w fun e w'=>∃ov S',e= .returned (.agg ov.toArray)∧Grow (fun _=>False) S w S' w'∧tD S' w'∧Tree S' w' w.heap.size w'.heap.size ov l.norm.row:=by
 have hbe:=l.eG
 have aBk:∀k∈l.kids,∀(cs:List Value) (S:yA) (w:World),yC Tryz.prog T S (full ksL 29) cs k.row→tD S w→hO Tryz.prog T S→xM T w→Calls Tryz.prog 19 #[.agg cs.toArray] w fun e w'=>∃ov S',e= .returned (.agg ov.toArray)∧Grow (fun _=>False) S w S' w'∧tD S' w'∧Tree S' w' w.heap.size w'.heap.size ov k.norm.row:=
  fun k hk cs S w h1 h2 h3 h4=>by
   have:=dA.sD hk
   have:=dA.aEP hk
   exact a1B hvc k (by omega) h1 h2 h3 h4
 obtain ⟨c0,c1,c2,c3,c4,c5,c6,c7,c8,c9,c10,c11,c12,c13,rfl⟩:=aN8 (hr.mL:cs.length=14)
 have q0:gO Tryz.prog T S (.int .i64) c0 (.int l.op):=hr.cell 0 _ rfl
 have q1:gO Tryz.prog T S .str c1 (.str l.name):=hr.cell 1 _ rfl
 have q2:gO Tryz.prog T S .str c2 (.str l.to):=hr.cell 2 _ rfl
 have q3:gO Tryz.prog T S (.sl 9) c3 (nK l.nb (l.names.map fF)):=hr.cell 3 _ rfl
 have q4:gO Tryz.prog T S (.int .i64) c4 (.int l.n):=hr.cell 4 _ rfl
 have q5:gO Tryz.prog T S (.int .i64) c5 (.int l.low):=hr.cell 5 _ rfl
 have q6:gO Tryz.prog T S (.int .i64) c6 (.int l.high):=hr.cell 6 _ rfl
 have q7:gO Tryz.prog T S (.int .u8) c7 (.int l.sep):=hr.cell 7 _ rfl
 have q8:gO Tryz.prog T S (.int .i64) c8 (.int l.v.k):=hr.cell 8 _ rfl
 have q9:gO Tryz.prog T S (.int .i64) c9 (.int l.v.n):=hr.cell 9 _ rfl
 have q10:gO Tryz.prog T S .str c10 (.str l.v.s):=hr.cell 10 _ rfl
 have q11:gO Tryz.prog T S (.sl 75) c11 l.v.fc:=hr.cell 11 _ rfl
 have q12:gO Tryz.prog T S (.sl 49) c12 (nK l.pb (l.pairs.map tA)):=hr.cell 12 _ rfl
 have q13:gO Tryz.prog T S (.sl 29) c13 l.kc:=hr.cell 13 _ rfl
 obtain ⟨fn,na,nc,rfl,n1,⟨nb,no,n2⟩,n3,n4,n5⟩:=aP0 bHQ q3 (kC _ _) (List.length_map _)
 obtain ⟨fp,qa,qc,rfl,p1,⟨qb,qo,p2⟩,p3,p4,p5⟩:=aP0 bCR q12 (kC _ _) (List.length_map _)
 obtain ⟨fk,ka,kc,rfl,k1,⟨kb,ko,k2⟩,k3,k4,k5⟩:=aP0 a4B q13 (dA.gD l) (List.length_map _)
 have hnl:=uR l.names
 have hpl:=s9 l.pairs
 have hkl:=dA.aBo l.kids
 have hkb:∀k,k<l.kids.length→∃k0 k1 k2 k3 k4 k5 k6 k7 k8 k9 k10 k11 k12 k13:Value,(w.cell? ⟨kb,ko+k*14,none⟩=some k0∧w.cell? ⟨kb,ko+k*14+1,none⟩=some k1∧w.cell? ⟨kb,ko+k*14+2,none⟩=some k2∧w.cell? ⟨kb,ko+k*14+3,none⟩=some k3∧w.cell? ⟨kb,ko+k*14+4,none⟩=some k4∧w.cell? ⟨kb,ko+k*14+5,none⟩=some k5∧w.cell? ⟨kb,ko+k*14+6,none⟩=some k6∧w.cell? ⟨kb,ko+k*14+7,none⟩=some k7∧w.cell? ⟨kb,ko+k*14+8,none⟩=some k8∧w.cell? ⟨kb,ko+k*14+9,none⟩=some k9∧w.cell? ⟨kb,ko+k*14+10,none⟩=some k10∧w.cell? ⟨kb,ko+k*14+11,none⟩=some k11∧w.cell? ⟨kb,ko+k*14+12,none⟩=some k12∧w.cell? ⟨kb,ko+k*14+13,none⟩=some k13)∧(k0.oneCell'=true∧k1.oneCell'=true∧k2.oneCell'=true∧k3.oneCell'=true∧k4.oneCell'=true∧k5.oneCell'=true∧k6.oneCell'=true∧k7.oneCell'=true∧k8.oneCell'=true∧k9.oneCell'=true∧k10.oneCell'=true∧k11.oneCell'=true∧k12.oneCell'=true∧k13.oneCell'=true)∧
  ∀nv ds pv pxs W kv xs,G2 S w l nv ds pv pxs k W kv xs []→Calls Tryz.prog 19 #[.agg #[k0,k1,k2,k3,k4,k5,k6,k7,k8,k9,k10,k11,k12,k13]] W fun e W'=>∃r0 r1 r2 r3 r4 r5 r6 r7 r8 r9 r10 r11 r12 r13,e= .returned (.agg #[r0,r1,r2,r3,r4,r5,r6,r7,r8,r9,r10,r11,r12,r13])∧(r0.oneCell'=true∧r1.oneCell'=true∧r2.oneCell'=true∧r3.oneCell'=true∧r4.oneCell'=true∧r5.oneCell'=true∧r6.oneCell'=true∧r7.oneCell'=true∧r8.oneCell'=true∧r9.oneCell'=true∧r10.oneCell'=true∧r11.oneCell'=true∧r12.oneCell'=true∧r13.oneCell'=true)∧W.grownBy W' none∧G2 S w l nv ds pv pxs k W' kv xs [r0,r1,r2,r3,r4,r5,r6,r7,r8,r9,r10,r11,r12,r13]:=by
  intro k hk
  have ha:=k2 (by omega)
  have hrow:aA (l.kids.map dA.row) k=l.kids[k].row:=iC _ _ _ hk
  have hk5:=k5 k hk
  rw[hrow]at hk5
  have hk5:yC Tryz.prog T S (full ksL 29) [fk k 0,fk k 1,fk k 2,fk k 3,fk k 4,fk k 5,fk k 6,fk k 7,fk k 8,fk k 9,fk k 10,fk k 11,fk k 12,fk k 13] l.kids[k].row:=hk5
  have hc:∀j,j<14→w.cell? ⟨kb,ko+k*14+j,none⟩=some (fk k j):=fun j hj=>hin _ _ _ (k3 _ ha k j hk hj)
  have ho:∀j,j<14→(fk k j).oneCell'=true:=fun j hj=>by
   have hjl:j<(full ksL 29).length:=hj
   have:=(hk5.cell j _ (List.getElem?_eq_getElem hjl)).wB.1
   have e:[fk k 0,fk k 1,fk k 2,fk k 3,fk k 4,fk k 5,fk k 6,fk k 7,fk k 8,fk k 9,fk k 10,fk k 11,fk k 12,fk k 13].getD j undef=fk k j:=by
    rcases j with _ |_ |_ |_ |_ |_ |_ |_ |_ |_ |_ |_ |_ |_ |j
    all_goals first |rfl |(exfalso;omega)
   rw[e]at this;exact this
  refine ⟨fk k 0,fk k 1,fk k 2,fk k 3,fk k 4,fk k 5,fk k 6,fk k 7,fk k 8,fk k 9,fk k 10,fk k 11,fk k 12,fk k 13,⟨hc 0 (by omega),hc 1 (by omega),hc 2 (by omega),hc 3 (by omega),hc 4 (by omega),hc 5 (by omega),hc 6 (by omega),hc 7 (by omega),hc 8 (by omega),hc 9 (by omega),hc 10 (by omega),hc 11 (by omega),hc 12 (by omega),hc 13 (by omega)⟩,⟨ho 0 (by omega),ho 1 (by omega),ho 2 (by omega),ho 3 (by omega),ho 4 (by omega),ho 5 (by omega),ho 6 (by omega),ho 7 (by omega),ho 8 (by omega),ho 9 (by omega),ho 10 (by omega),ho 11 (by omega),ho 12 (by omega),ho 13 (by omega)⟩,fun nv ds pv pxs W kv xs hG=> ?_⟩
  refine (G2.kid hg hz (List.getElem?_eq_getElem hk) hk5 (aBk _ (List.getElem_mem hk) _) hG).mono ?_
  rintro e W' ⟨ov,rfl,h1,h2,h3,h4⟩
  obtain ⟨r0,r1,r2,r3,r4,r5,r6,r7,r8,r9,r10,r11,r12,r13,rfl⟩:=aN8 h1
  exact ⟨r0,r1,r2,r3,r4,r5,r6,r7,r8,r9,r10,r11,r12,r13,rfl,⟨h2 _ (by simp),h2 _ (by simp),h2 _ (by simp),h2 _ (by simp),h2 _ (by simp),h2 _ (by simp),h2 _ (by simp),h2 _ (by simp),h2 _ (by simp),h2 _ (by simp),h2 _ (by simp),h2 _ (by simp),h2 _ (by simp),h2 _ (by simp)⟩,h3,h4⟩
 have hpb:∀k,k<l.pairs.length→∃p0 p1 p2 p3 p4 p5 p6 p7:Value,(w.cell? ⟨qb,qo+k*8,none⟩=some p0∧w.cell? ⟨qb,qo+k*8+1,none⟩=some p1∧w.cell? ⟨qb,qo+k*8+2,none⟩=some p2∧w.cell? ⟨qb,qo+k*8+3,none⟩=some p3∧w.cell? ⟨qb,qo+k*8+4,none⟩=some p4∧w.cell? ⟨qb,qo+k*8+5,none⟩=some p5∧w.cell? ⟨qb,qo+k*8+6,none⟩=some p6∧w.cell? ⟨qb,qo+k*8+7,none⟩=some p7)∧(p0.oneCell'=true∧p1.oneCell'=true∧p2.oneCell'=true∧p3.oneCell'=true∧p4.oneCell'=true∧p5.oneCell'=true∧p6.oneCell'=true∧p7.oneCell'=true)∧
  (∀nv ds W pv xs,G1 S w l nv ds k W pv xs []→Calls Tryz.prog 42 #[.agg #[p0,p1,p2,p3]] W fun e W'=>∃d0 d1 d2 d3,e= .returned (.agg #[d0,d1,d2,d3])∧(d0.oneCell'=true∧d1.oneCell'=true∧d2.oneCell'=true∧d3.oneCell'=true)∧W.grownBy W' none∧G1 S w l nv ds k W' pv xs [d0,d1,d2,d3])∧
  (∀nv ds W pv xs d0 d1 d2 d3,G1 S w l nv ds k W pv xs [d0,d1,d2,d3]→Calls Tryz.prog 42 #[.agg #[p4,p5,p6,p7]] W fun e W'=>∃e0 e1 e2 e3,e= .returned (.agg #[e0,e1,e2,e3])∧(e0.oneCell'=true∧e1.oneCell'=true∧e2.oneCell'=true∧e3.oneCell'=true)∧W.grownBy W' none∧G1 S w l nv ds k W' pv xs [d0,d1,d2,d3,e0,e1,e2,e3]):=by
  intro k hk
  have ha:=p2 (by omega)
  have hrow:aA (l.pairs.map tA) k=tA l.pairs[k]:=iC _ _ _ hk
  have hk5:=p5 k hk
  rw[hrow]at hk5
  have hk5:yC Tryz.prog T S ksP [fp k 0,fp k 1,fp k 2,fp k 3,fp k 4,fp k 5,fp k 6,fp k 7] (tA l.pairs[k]):=hk5
  have hc:∀j,j<8→w.cell? ⟨qb,qo+k*8+j,none⟩=some (fp k j):=fun j hj=>hin _ _ _ (p3 _ ha k j hk hj)
  have ho:∀j,j<8→(fp k j).oneCell'=true:=fun j hj=>by
   have hjl:j<ksP.length:=hj
   have:=(hk5.cell j _ (List.getElem?_eq_getElem hjl)).wB.1
   have e:[fp k 0,fp k 1,fp k 2,fp k 3,fp k 4,fp k 5,fp k 6,fp k 7].getD j undef=fp k j:=by
    rcases j with _ |_ |_ |_ |_ |_ |_ |_ |j
    all_goals first |rfl |(exfalso;omega)
   rw[e]at this;exact this
  have hm:=u9 (List.getElem_mem hk)
  have hv1:=hvc l.pairs[k].1 (by omega)
  have hv2:=hvc l.pairs[k].2 (by omega)
  have g1:=(aHS l.pairs k).1
  have g2:=(aHS l.pairs k).2
  rw[List.getElem?_eq_getElem hk]at g1 g2
  refine ⟨fp k 0,fp k 1,fp k 2,fp k 3,fp k 4,fp k 5,fp k 6,fp k 7,⟨hc 0 (by omega),hc 1 (by omega),hc 2 (by omega),hc 3 (by omega),hc 4 (by omega),hc 5 (by omega),hc 6 (by omega),hc 7 (by omega)⟩,⟨ho 0 (by omega),ho 1 (by omega),ho 2 (by omega),ho 3 (by omega),ho 4 (by omega),ho 5 (by omega),ho 6 (by omega),ho 7 (by omega)⟩,fun nv ds W pv xs hG=> ?_,fun nv ds W pv xs d0 d1 d2 d3 hG=> ?_⟩
  ·have hx:xs.length=k*8:=by obtain ⟨_,_,_,_,_,_,h,_⟩:=hG;exact h
   refine (G1.half hg hz hv1 (a84 hk5) (q:=2*k) (by rw[List.append_nil];omega) g1 hG).mono ?_
   rintro e W' ⟨ov,rfl,h1,h2,h3,h4⟩
   obtain ⟨d0,d1,d2,d3,rfl⟩:=aXj h1
   exact ⟨d0,d1,d2,d3,rfl,⟨h2 _ (by simp),h2 _ (by simp),h2 _ (by simp),h2 _ (by simp)⟩,h3,h4⟩
  ·have hx:xs.length=k*8:=by obtain ⟨_,_,_,_,_,_,h,_⟩:=hG;exact h
   refine (G1.half hg hz hv2 (a86 hk5) (q:=2*k+1) (by simp;omega) g2 hG).mono ?_
   rintro e W' ⟨ov,rfl,h1,h2,h3,h4⟩
   obtain ⟨d4,d5,d6,d7,rfl⟩:=aXj h1
   exact ⟨d4,d5,d6,d7,rfl,⟨h2 _ (by simp),h2 _ (by simp),h2 _ (by simp),h2 _ (by simp)⟩,h3,h4⟩
 have hne:∀i,i<l.names.length→(fn i 0).oneCell'=true:=fun i hi=>by
  have:=((n5 i hi).cell 0 .str rfl).wB.1
  exact this
 refine (aOr w c0 c1 c2 c4 c5 c6 c7 c8 c9 c10 c11 na qa ka l.names.length nc l.pairs.length qc l.kids.length kc
  q0.wB.1 q1.wB.1 q2.wB.1 q4.wB.1 q5.wB.1 q6.wB.1 q7.wB.1 q8.wB.1 q9.wB.1 q10.wB.1 q11.wB.1 ((List.range l.names.length).map fun i=>fn i 0) n1 (by simp) (fun ad hd j u hu=> ?_) (fun u hu=> ?_) (by omega)
  (by omega) (by omega) qb qo kb ko p2 k2 (G0 S w l) (G1 S w l)
  (Go.Proofs.Nrm.hd fun nv ds W h=> ?_) (Go.Proofs.Nrm.hd fun nv ds W p u h h1 h2=>h.set h1 h2) (G2 S w l)
  (Go.Proofs.Nrm.hd fun nv ds k W W' pv xs news h hg=>h.keep hg) (Go.Proofs.Nrm.hd fun nv ds k W p u pv xs news h h1 h2=>h.set h1 h2)
  (Go.Proofs.Nrm.hd fun nv ds k n W W' pv pv' xs news h1 h2 h3 h4 h5 h6 h7=>h7.app h3 h4 h5 h6)
  (Go.Proofs.Nrm.hd fun nv ds W pv xs n h1 h2 h3=>h3.pairs h1 h2)
  (Go.Proofs.Nrm.hd fun nv ds pv pxs k W W' kv xs news h hg=>h.keep hg) (Go.Proofs.Nrm.hd fun nv ds pv pxs k W p u kv xs news h h1 h2=>h.set h1 h2)
  (Go.Proofs.Nrm.hd fun nv ds pv pxs k n W W' kv kv' xs news h1 h2 h3 h4 h5 h6 h7=>h7.app h4 h5 h6)
  (Go.Proofs.Nrm.hd hkb) (Go.Proofs.Nrm.hd hpb) (Go.Proofs.Nrm.hd fun W nv hB hs ho h0=> ?_)).mono ?_
 ·have hj:j<l.names.length:=by have:=(List.getElem?_eq_some_iff.1 hu).1;simpa using this
  have hu':u=fn j 0:=by simp[hj]at hu;exact hu.symm
  obtain ⟨ab,ao,asp⟩:=ad
  have hsp:asp=none:=n4 _ hd (by omega)
  subst hsp
  have:=hin _ _ _ (n3 _ hd j 0 hj (by decide))
  rw[hu',Addr.add_lit]
  simpa[L.n,L.ks]using this
 ·obtain ⟨i,hi,rfl⟩:=List.mem_map.1 hu
  exact hne i (by simpa using hi)
 ·obtain ⟨S1,F,a,b⟩:=h
  exact ⟨S1,0,F,a,b,aF3.nil,rfl,fun _=>rfl,aFX.nil⟩
 ·have F:=aD1.start hin hB hs
  have F2:=F.snap nv.ownBlock (fun b e=>(ho.lt b e).1)
  have hle:=aII F.yM (Q:=fun b=>nv.ownBlock=some b)
  have hv:=hvc l.v (by omega)
  have hrv:yC Tryz.prog T S ksV [c8,c9,c10,c11] l.v.row:=⟨rfl,rfl,fun j k hk=>by
   rcases j with _ |_ |_ |_ |j
   ·obtain rfl:K.int .i64=k:=by simpa[ksV]using hk
    exact q8
   ·obtain rfl:K.int .i64=k:=by simpa[ksV]using hk
    exact q9
   ·obtain rfl:K.str=k:=by simpa[ksV]using hk
    exact q10
   ·obtain rfl:K.sl 75=k:=by simpa[ksV]using hk
    exact q11
   ·simp[ksV]at hk⟩
  have hnm:gO Tryz.prog T (snap S W (fun b=>nv.ownBlock=some b)) (.sl 9) nv (nK true (l.names.map fF)):=
   a1z bHQ rfl ho h0 (by simp) (fun b o e=>aOs e) fun i hi=>by
    show yC Tryz.prog T _ _ (chunk 1 i _) _
    rw[a5V hi];exact (n5 i hi).mono hle
  refine (bCS hv (hrv.mono hle) F2.yM (hg.mono hle) (F2.sz hz)).mono ?_
  rintro e W' ⟨ov,S2,rfl,g1,g2,g3⟩
  obtain ⟨d0,d1,d2,d3,rfl⟩:=aXj g3.mL
  exact ⟨d0,d1,d2,d3,rfl,⟨(g3.cell 0 _ rfl).wB.1,(g3.cell 1 _ rfl).wB.1,(g3.cell 2 _ rfl).wB.1,(g3.cell 3 _ rfl).wB.1⟩,aHR g1,S2,F2.call g1 g2,hnm.mono g1.mono,g3⟩
 ·rintro e w' ⟨nv,d0,d1,d2,d3,pv,pxs,kv,kxs,n,rfl, -,hB,hn,ho,S2,m,Lo,Hi,F,a1,a2,a3,a4,a5,a6,a7,a8⟩
  rw[List.append_nil]at a7
  have hm:m=l.kids.length:=by have:=a7.len;omega
  subst hm
  refine ⟨[c0,c1,c2,nv,c4,c5,c6,c7,d0,d1,d2,d3,pv,kv],S2,rfl,⟨hB.os,hB.tape,hB.output,hB.size,fun b hb _=>hB.block b hb,F.le,fun b o hb _=>F.same b o hb⟩,F.yM, ?_⟩
  rw[a1y]
  have hh:Head Tryz.prog T S2 ksL [c0,c1,c2,nv,c4,c5,c6,c7,d0,d1,d2,d3,pv,kv] [.int l.op,.str l.name,.str l.to,nK true (l.names.map fF),.int l.n,.int l.low,.int l.high,.int l.sep,.int l.v.k,.int l.v.n,.str l.v.s,l.v.fc,nK true (l.pairs.map tA),nK true (l.kids.map fun l=>l.norm.row)]:=⟨rfl,rfl,fun j k hk=>by
   rcases j with _ |_ |_ |_ |_ |_ |_ |_ |_ |_ |_ |_ |_ |j
   ·obtain rfl:K.int .i64=k:=by simpa[ksL]using hk
    exact q0.mono F.le
   ·obtain rfl:K.str=k:=by simpa[ksL]using hk
    exact q1.mono F.le
   ·obtain rfl:K.str=k:=by simpa[ksL]using hk
    exact q2.mono F.le
   ·obtain rfl:K.sl 9=k:=by simpa[ksL]using hk
    exact a1
   ·obtain rfl:K.int .i64=k:=by simpa[ksL]using hk
    exact q4.mono F.le
   ·obtain rfl:K.int .i64=k:=by simpa[ksL]using hk
    exact q5.mono F.le
   ·obtain rfl:K.int .i64=k:=by simpa[ksL]using hk
    exact q6.mono F.le
   ·obtain rfl:K.int .u8=k:=by simpa[ksL]using hk
    exact q7.mono F.le
   ·obtain rfl:K.int .i64=k:=by simpa[ksL]using hk
    exact a2.cell 0 _ rfl
   ·obtain rfl:K.int .i64=k:=by simpa[ksL]using hk
    exact a2.cell 1 _ rfl
   ·obtain rfl:K.str=k:=by simpa[ksL]using hk
    exact a2.cell 2 _ rfl
   ·obtain rfl:K.sl 75=k:=by simpa[ksL]using hk
    exact a2.cell 3 _ rfl
   ·obtain rfl:K.sl 49=k:=by simpa[ksL]using hk
    exact a3
   ·simp[ksL]at hk⟩
  rcases Nat.eq_zero_or_pos l.kids.length with e0 |e0
  ·have e1:l.kids=[]:=List.eq_nil_of_length_eq_zero e0
   refine .nil hh (a6 e0) ?_
   rw[e1];rfl
  ·rcases ho.2 with ⟨rfl,e1⟩|⟨g,cap,cur,rfl,hb,hh',hle,hmx,hsz,ht⟩
   ·omega
   ·have ho4:=a4 g rfl
    have hcg:cur.size=cap*14:=hsz
    have hlen:(l.kids.map fun l=>l.norm.row).length=l.kids.length:=List.length_map _
    have bK3:nK true (l.kids.map fun l=>l.norm.row)= .sl (l.kids.map fun l=>l.norm.row):=by
     cases hk:l.kids with
     |nil=>rw[hk]at e0;simp at e0
     |cons a r=>rfl
    have aMZ:∀i r,(l.kids.map fun l=>l.norm.row)[i]? =some r→∃hi:i<l.kids.length,r=l.kids[i].norm.row:=fun i r h=>by
     have hi:i<l.kids.length:=by rw[←hlen];exact (List.getElem?_eq_some_iff.1 h).1
     refine ⟨hi, ?_⟩
     rw[List.getElem?_map,List.getElem?_eq_getElem hi]at h
     simpa using h.symm
    have hat:∀i (hi:i<l.kids.length),Tree S2 w' (Lo i) (Hi i) (chunk 14 i kxs) l.kids[i].norm.row∧w.heap.size+3≤Lo i∧Lo i≤Hi i∧Hi i≤w'.heap.size∧(g<Lo i∨Hi i≤g):=fun i hi=>by
     obtain ⟨u,b1,b2,b3,b4,b5,b6⟩:=a7.all i hi
     rw[List.getElem?_eq_getElem hi]at b1
     obtain rfl:=Option.some.inj b1
     exact ⟨b2,b3,b4,b5,b6 g rfl⟩
    refine .node (b:=g) (cap:=cap) (cur:=cur) (rows:=l.kids.map fun k:dA=>(dA.norm k).row) Lo Hi hh (by rw[hlen];rfl) bK3 (by omega) ho4.2.1 hh' (by rw[hlen];exact hle) hcg ho4.2.2 (fun i r h=> ?_) (fun i j h1 h2=>a8 i j h1 (by rw[hlen]at h2;exact h2)) fun i r h=> ?_
    ·obtain ⟨hi,rfl⟩:=aMZ i r h
     obtain ⟨b2,b3,b4,b5,b6⟩:=hat i hi
     exact ⟨by rw[a1y];rfl,by omega,b5,b6⟩
    ·obtain ⟨hi,rfl⟩:=aMZ i r h
     obtain ⟨b2,b3,b4,b5,b6⟩:=hat i hi
     have e:(cur.toList.drop (i*(ksL.length+1))).take (ksL.length+1)=chunk 14 i kxs:=by
      rw[←ht]
      unfold chunk
      have:(i+1)*14≤l.kids.length*14:=Nat.mul_le_mul_right _ (by omega)
      rw[Nat.add_mul,Nat.one_mul]at this
      show (cur.toList.drop (i*14)).take 14=_
      rw[List.drop_take,List.take_take,Nat.min_eq_left (by omega)]
     rw[e];exact b2
 termination_by SizeOf.sizeOf l
end Go.Ev.dJ
