/-
  lens.Copy, walked.
-/
import Derived.Test.YtdhebofenihjmaaGreatDoorZzkU
import Derived.Test.YtdhebofenihjmaaGreatDoorEvMa
import Derived.OwnWalk
import Derived.Laws.AppendOwnNone
import Derived.Maps.AppendAt
set_option linter.all false
namespace Go.Proofs.Nrm
open Go.RowKit
theorem aRl {P:Program} (w:World) {ops:Array Oper} {rest:List Oper} {o:Oper} {a:Act} {Q:Exit→Act→World→Prop} (hgd:o.guard=none) (s x:Operand) (t:TypeId)
 (ho:o.op= .call {callee:= .builtin .append,args:=#[s,x],argTypes:=#[t,t]})
 (base:Nat) (e:TypeId) (i:TypeInfo) (z:Value) (size bytes:Nat) (ht:P.underlying t=some (.slice e)) (hi:P.info? e=some i) (hz:i.zero=some z)
 (hsize:i.size=size) (hby:i.bytes=bytes) (hzs:z.cells.size=size) (hsz:0<size)
 (v:Value) (n:Nat) (xs:List Value) (hs:a.eval s=v) (hown:w.ownsRow base e size v n xs)
 (ao:Option Addr) (m c:Nat) (news:List Value) (hx:a.eval x= .slice ao m c) (hl:news.length=m*size) (hnone:ao=none→m=0∧c=0) (hnews:∀ad,ao=some ad→∀j u,news[j]? =some u→w.cell? (ad.add j)=some u) (h1:∀u∈news,u.oneCell'=true)
 (h63:n+m≤maxLen) (hbytes:(n+m)*bytes≤140737488355328) (hbase:base≤w.heap.size)
 (h:∀v' w',w'.ownsRow base e size v' (n+m) (xs++news)→w.grownBy w' v.ownBlock→(m=0→v'=v)→wpList P ops Q rest (a.put o.dst v') w'):wpList P ops Q (o::rest) a w:=by
 by_cases hm:m=0
 ·subst hm
  have hne:news=[]:=List.eq_nil_of_length_eq_zero (by simpa using hl)
  subst hne
  refine wpList_plain hgd fun K hK'=> ?_
  have hrun:(Builtin.append_ #[t,t] o.type #[v,.slice ao 0 c]).run P w= .ok v w:=by
   have hsrc:Go.Src P i.size t (.slice ao 0 c) 0 [] w:=by
    cases ao with
    |none=>obtain ⟨-,rfl⟩:=hnone rfl;exact Src.ofNil w ht _
    |some ad=>exact Src.ofSlice w ht ad 0 c [] (by simp) (by simp) (by simp)
   rcases hown.2 with ⟨rfl,rfl⟩|⟨g,cap,cur,rfl, -, -,hle, -⟩
   ·exact Go.Ev.aAu w ht hi none 0 0 (Nat.le_refl _) _ hsrc
   ·exact Go.Ev.aAu w ht hi _ n cap hle _ hsrc
  unfold Oper.wp
  simp[execOp,ho,resolve,invoke,builtin,hs,hx,hrun,Result.andThen]
  exact hK' _ _ (by simpa using h v w (by simpa using hown) (World.grownBy.refl _ _) (fun _=>rfl))
 cases ao with
 |some ad=>exact wpList_append_own w hgd s x t ho base e i z size bytes ht hi hz hsize hby hzs hsz v n xs hs hown ad m c news hx hl (hnews ad rfl) h1 h63 hbytes hbase fun v' w' a b _=>h v' w' a b fun e=>absurd e hm
 |none=>
  exact absurd (hnone rfl).1 hm
theorem aO2 {P:Program} {w:World} {o:Oper} {a:Act} {K:Act→World→Prop} {Q:Exit→Act→World→Prop} (s x:Operand) (t:TypeId)
 (ho:o.op= .call {callee:= .builtin .append,args:=#[s,x],argTypes:=#[t,t]})
 (base:Nat) (e:TypeId) (i:TypeInfo) (z:Value) (size bytes:Nat) (ht:P.underlying t=some (.slice e)) (hi:P.info? e=some i) (hz:i.zero=some z)
 (hsize:i.size=size) (hby:i.bytes=bytes) (hzs:z.cells.size=size) (hsz:0<size)
 (v:Value) (n:Nat) (xs:List Value) (hs:a.eval s=v) (hown:w.ownsRow base e size v n xs)
 (ad:Addr) (m c:Nat) (news:List Value) (hx:a.eval x= .slice (some ad) m c) (hl:news.length=m*size) (hnews:∀j u,news[j]? =some u→w.cell? (ad.add j)=some u) (h1:∀u∈news,u.oneCell'=true)
 (h63:n+m≤maxLen) (hbytes:(n+m)*bytes≤140737488355328) (hbase:base≤w.heap.size)
 (h:∀v' w',w'.ownsRow base e size v' (n+m) (xs++news)→w.grownBy w' v.ownBlock→(v'.ownBlock=v.ownBlock∨v'.ownBlock=some w.heap.size)→K (a.put o.dst v') w'):o.wp P a w K Q:=by
 obtain ⟨v',w',hr,h2,h3, -,h5⟩:=run_append_own_at (P:=P) w base t o.type e i z size bytes ht hi hz hsize hby hzs hsz v n xs hown ad m c news hl hnews h1 h63 hbytes hbase
 unfold Oper.wp execOp
 simp only[ho,resolve,invoke,builtin,Sem.run_bind,Sem.run_pure,Result.andThen_ok,List.map_toArray,List.map_cons,List.map_nil,hs,hx,hr]
 exact h v' w' h2 h3 h5
theorem aYr (w:World) (cs:List Value) (t:TypeId):∀j u,cs[j]? =some u→(w.alloc (.cells cs.toArray t)).cell? ((⟨w.heap.size,0,none⟩:Addr).add j)=some u:=by
 intro j u hj
 have e:(⟨w.heap.size,0,none⟩:Addr).add j=⟨w.heap.size,j,none⟩:=by unfold Addr.add;split<;>simp_all
 rw[e,fC w _ t _ j rfl]
 simpa using hj
theorem a4x {w W:World} {A B C:Array Value} {t u v:TypeId} (h:W=((w.alloc (.cells A t)).alloc (.cells B u)).alloc (.cells C v)):W.heap[w.heap.size]? =some (.cells A t (0,0)):=by
 rw[h]
 refine (heap_alloc_old _ _ (by simp<;>omega)).trans ((heap_alloc_old _ _ (by simp)).trans (heap_alloc_new w _))
theorem a4y {w W:World} {A B C:Array Value} {t u v:TypeId} (h:W=((w.alloc (.cells A t)).alloc (.cells B u)).alloc (.cells C v)):W.heap[w.heap.size+1]? =some (.cells B u (0,0)):=by
 rw[h]
 refine (heap_alloc_old _ _ (by simp)).trans ?_
 have:=heap_alloc_new (w.alloc (.cells A t)) (.cells B u)
 simpa using this
theorem aKR {W:World} {b:Nat} {e:TypeId} {s:Nat} {v:Value} {n:Nat} {xs:List Value} (h:W.ownsRow b e s v n xs):∃a c,v= .slice a n c:=by
 rcases h.2 with ⟨rfl,rfl⟩|⟨g,cap,cur,rfl, -⟩
 ·exact ⟨none,0,rfl⟩
 ·exact ⟨_,_,rfl⟩
theorem aAr {W W':World} {b:Nat} {e:TypeId} {s:Nat} {v:Value} {n:Nat} {xs:List Value} (h:W.ownsRow b e s v n xs) (hg:W.grownBy W' none):W'.ownsRow b e s v n xs:=
 h.kept hg (by cases v.ownBlock<;>simp)
theorem aEM {W:World} {b:Nat} {e:TypeId} {s:Nat} {v u:Value} {n:Nat} {xs:List Value} {p:Addr} (h:W.ownsRow b e s v n xs) (hp:p.block<b):(W.setCell p u).ownsRow b e s v n xs:=by
 refine ⟨h.1, ?_⟩
 rcases h.2 with hn |⟨g,cap,cur,rfl,hb,hgg,rest⟩
 ·exact .inl hn
 ·exact .inr ⟨g,cap,cur,rfl,hb,(Below.heap_setCell W p u g (by omega)).trans hgg,rest⟩
theorem aD0 {W W':World} (h:W.grownBy W' none) (row:Option Nat):W.grownBy W' row:=⟨h.os,h.tape,h.output,h.size,fun k hk _=>h.block k hk (by simp)⟩
theorem aHQ (W:World) (row:Option Nat):W.grownBy W.drew row:=⟨rfl,rfl,rfl,Nat.le_refl _,fun _ _ _=>rfl⟩
theorem bHt:∃i z,Tryz.prog.info? 9=some i∧i.zero=some z∧i.size=1∧i.bytes=16∧z.cells.size=1:=by
 obtain ⟨i,h1,h2,h3,h4⟩:=info_parts (P:=Tryz.prog) (e:=9) (z:= .string ByteArray.empty) (size:=1) (bytes:=16) (by kernel_rfl)
 exact ⟨i,_,h1,h2,h3,h4,rfl⟩
theorem bEv:∃i z,Tryz.prog.info? 49=some i∧i.zero=some z∧i.size=8∧i.bytes=112∧z.cells.size=8:=by
 obtain ⟨i,h1,h2,h3,h4⟩:=info_parts (P:=Tryz.prog) (e:=49) (z:=(Tryz.prog.info? 49).get!.zero.get!) (size:=8) (bytes:=112) (by kernel_rfl)
 exact ⟨i,_,h1,h2,h3,h4,by kernel_rfl⟩
theorem bEw:∃i z,Tryz.prog.info? 29=some i∧i.zero=some z∧i.size=14∧i.bytes=200∧z.cells.size=14:=by
 obtain ⟨i,h1,h2,h3,h4⟩:=info_parts (P:=Tryz.prog) (e:=29) (z:=(Tryz.prog.info? 29).get!.zero.get!) (size:=14) (bytes:=200) (by kernel_rfl)
 exact ⟨i,_,h1,h2,h3,h4,by kernel_rfl⟩
def PI (X:World) (cb:Nat) (cc:Value→Array Value) (e s:Nat) (G:Nat→World→Value→List Value→List Value→Prop) (k:Nat) (wr:World):Prop:=
 ∃pv pxs,wr.heap[cb]? =some (.cells (cc pv) 29 (0,0))∧wr.ownsRow X.heap.size e s pv k pxs∧wr.os=X.os∧wr.tape=X.tape∧wr.output=X.output∧X.heap.size≤wr.heap.size∧(∀j,j<X.heap.size→j≠cb→wr.heap[j]? =X.heap[j]?)∧G k wr pv pxs []
theorem aRm {X wr W:World} {cb:Nat} {c:Array Value} {e s:Nat} {pv:Value} {k:Nat} {pxs:List Value} (hcb:cb<X.heap.size) (hX:X.heap.size≤wr.heap.size) (hc:wr.heap[cb]? =some (.cells c 29 (0,0))) (hown:wr.ownsRow X.heap.size e s pv k pxs) (hg:wr.grownBy W pv.ownBlock):W.heap[cb]? =some (.cells c 29 (0,0)):=by
 refine (hg.block cb (by omega) (fun h=> ?_)).trans hc
 have:=hown.lt cb h.symm
 omega
theorem PI.next {X wr W:World} {cb:Nat} {cc:Value→Array Value} {e s i:Nat} {G:Nat→World→Value→List Value→List Value→Prop} {k k':Nat} {pv pv':Value} {pxs bEx:List Value}
 (hcb:cb<X.heap.size) (h1:wr.heap[cb]? =some (.cells (cc pv) 29 (0,0))) (h2:wr.ownsRow X.heap.size e s pv k pxs) (h3:wr.os=X.os) (h4:wr.tape=X.tape) (h5:wr.output=X.output) (h6:X.heap.size≤wr.heap.size) (h7:∀j,j<X.heap.size→j≠cb→wr.heap[j]? =X.heap[j]?)
 (hg:wr.grownBy W pv.ownBlock) (hown:W.ownsRow X.heap.size e s pv' k' bEx) (hs:(cc pv).setIfInBounds i pv'=cc pv') (hG:G k' (W.setCell ⟨cb,i,none⟩ pv') pv' bEx []):PI X cb cc e s G k' (W.setCell ⟨cb,i,none⟩ pv'):=by
 refine ⟨pv',bEx, ?_,aEM hown hcb,hg.os.trans h3,hg.tape.trans h4,hg.output.trans h5, ?_,fun j hj hne=> ?_,hG⟩
 ·rw[←hs];exact aJZ pv' (aRm hcb h6 h1 h2 hg)
 ·have:=hg.size;simp[World.setCell];omega
 ·refine (aGZ _ hne).trans ((hg.block j (by omega) (fun h=> ?_)).trans (h7 j hj hne))
  have:=h2.lt j h.symm
  omega
abbrev P8 (W:World) (b:Nat) (p0 p1 p2 p3 p4 p5 p6 p7:Value):Prop:=W.cell? ⟨b,0,none⟩=some p0∧W.cell? ⟨b,1,none⟩=some p1∧W.cell? ⟨b,2,none⟩=some p2∧W.cell? ⟨b,3,none⟩=some p3∧W.cell? ⟨b,4,none⟩=some p4∧W.cell? ⟨b,5,none⟩=some p5∧W.cell? ⟨b,6,none⟩=some p6∧W.cell? ⟨b,7,none⟩=some p7
theorem P8.keep {W W':World} {b:Nat} {p0 p1 p2 p3 p4 p5 p6 p7:Value} {row:Option Nat} (h:P8 W b p0 p1 p2 p3 p4 p5 p6 p7) (hg:W.grownBy W' row) (hb:some b≠row):P8 W' b p0 p1 p2 p3 p4 p5 p6 p7:=by
 obtain ⟨h0,h1,h2,h3,h4,h5,h6,h7⟩:=h
 exact ⟨hg.cell h0 hb,hg.cell h1 hb,hg.cell h2 hb,hg.cell h3 hb,hg.cell h4 hb,hg.cell h5 hb,hg.cell h6 hb,hg.cell h7 hb⟩
theorem P8.alloc {W:World} {b:Nat} {p0 p1 p2 p3 p4 p5 p6 p7:Value} (h:P8 W b p0 p1 p2 p3 p4 p5 p6 p7) (o:Obj):P8 (W.alloc o) b p0 p1 p2 p3 p4 p5 p6 p7:=h.keep (World.grownBy_alloc W o none) (by simp)
theorem P8.set {W:World} {b:Nat} {p0 p1 p2 p3 p4 p5 p6 p7:Value} {p:Addr} {u:Value} (h:P8 W b p0 p1 p2 p3 p4 p5 p6 p7) (hp:p.block≠b):P8 (W.setCell p u) b p0 p1 p2 p3 p4 p5 p6 p7:=by
 obtain ⟨h0,h1,h2,h3,h4,h5,h6,h7⟩:=h
 exact ⟨qB h0 hp,qB h1 hp,qB h2 hp,qB h3 hp,qB h4 hp,qB h5 hp,qB h6 hp,qB h7 hp⟩
abbrev P14 (W:World) (b:Nat) (p0 p1 p2 p3 p4 p5 p6 p7 p8 p9 oI qI zI aI:Value):Prop:=W.cell? ⟨b,0,none⟩=some p0∧W.cell? ⟨b,1,none⟩=some p1∧W.cell? ⟨b,2,none⟩=some p2∧W.cell? ⟨b,3,none⟩=some p3∧W.cell? ⟨b,4,none⟩=some p4∧W.cell? ⟨b,5,none⟩=some p5∧W.cell? ⟨b,6,none⟩=some p6∧W.cell? ⟨b,7,none⟩=some p7∧W.cell? ⟨b,8,none⟩=some p8∧W.cell? ⟨b,9,none⟩=some p9∧W.cell? ⟨b,10,none⟩=some oI∧W.cell? ⟨b,11,none⟩=some qI∧W.cell? ⟨b,12,none⟩=some zI∧W.cell? ⟨b,13,none⟩=some aI
theorem P14.keep {W W':World} {b:Nat} {p0 p1 p2 p3 p4 p5 p6 p7 p8 p9 oI qI zI aI:Value} {row:Option Nat} (h:P14 W b p0 p1 p2 p3 p4 p5 p6 p7 p8 p9 oI qI zI aI) (hg:W.grownBy W' row) (hb:some b≠row):P14 W' b p0 p1 p2 p3 p4 p5 p6 p7 p8 p9 oI qI zI aI:=by
 obtain ⟨h0,h1,h2,h3,h4,h5,h6,h7,h8,h9,h10,h11,h12,h13⟩:=h
 exact ⟨hg.cell h0 hb,hg.cell h1 hb,hg.cell h2 hb,hg.cell h3 hb,hg.cell h4 hb,hg.cell h5 hb,hg.cell h6 hb,hg.cell h7 hb,hg.cell h8 hb,hg.cell h9 hb,hg.cell h10 hb,hg.cell h11 hb,hg.cell h12 hb,hg.cell h13 hb⟩
theorem P14.alloc {W:World} {b:Nat} {p0 p1 p2 p3 p4 p5 p6 p7 p8 p9 oI qI zI aI:Value} (h:P14 W b p0 p1 p2 p3 p4 p5 p6 p7 p8 p9 oI qI zI aI) (o:Obj):P14 (W.alloc o) b p0 p1 p2 p3 p4 p5 p6 p7 p8 p9 oI qI zI aI:=h.keep (World.grownBy_alloc W o none) (by simp)
theorem P14.set {W:World} {b:Nat} {p0 p1 p2 p3 p4 p5 p6 p7 p8 p9 oI qI zI aI:Value} {p:Addr} {u:Value} (h:P14 W b p0 p1 p2 p3 p4 p5 p6 p7 p8 p9 oI qI zI aI) (hp:p.block≠b):P14 (W.setCell p u) b p0 p1 p2 p3 p4 p5 p6 p7 p8 p9 oI qI zI aI:=by
 obtain ⟨h0,h1,h2,h3,h4,h5,h6,h7,h8,h9,h10,h11,h12,h13⟩:=h
 exact ⟨qB h0 hp,qB h1 hp,qB h2 hp,qB h3 hp,qB h4 hp,qB h5 hp,qB h6 hp,qB h7 hp,qB h8 hp,qB h9 hp,qB h10 hp,qB h11 hp,qB h12 hp,qB h13 hp⟩
theorem aN6 {Pd:World→Prop} {g:Nat} (h:∀W o u,Pd W→Pd (W.setCell ⟨g,o,none⟩ u)):∀(vs:List Value) (W:World) (o:Nat),Pd W→Pd (xL W g o vs)
 |[],_,_,hW=>hW
 |v::vs,W,o,hW=>aN6 h vs _ _ (h _ _ _ hW)
@[go_sem] def bKb:Oper:={dst:=some 27,op:=Op.load 26 (Operand.tmp 26),type:=26,pos:= "lens.go:37",after:=#[{on:=0,ground:=Ground.data}],guard:=none}
@[go_sem] def bKc:Oper:={dst:=some 47,op:=Op.load 27 (Operand.tmp 46),type:=27,pos:= "lens.go:40",after:=#[{on:=0,ground:=Ground.data}],guard:=none}
theorem bAl:({dst:=some 27,op:=Op.load 26 (Operand.tmp 26),type:=26,pos:= "lens.go:37",after:=#[{on:=0,ground:=Ground.data}],guard:=none}:Oper)=bKb:=rfl
theorem bAm:({dst:=some 47,op:=Op.load 27 (Operand.tmp 46),type:=27,pos:= "lens.go:40",after:=#[{on:=0,ground:=Ground.data}],guard:=none}:Oper)=bKc:=rfl
set_option maxHeartbeats 6400000 in
set_option maxRecDepth 100000 in
theorem aOr (w:World) (c0 c1 c2 c4 c5 c6 c7 c8 c9 c10 c11:Value) (na qa ka:Option Addr) (nn nc qn qc kn kc:Nat)
 (oc0:c0.oneCell'=true) (oc1:c1.oneCell'=true) (oc2:c2.oneCell'=true) (oc4:c4.oneCell'=true) (oc5:c5.oneCell'=true) (oc6:c6.oneCell'=true) (oc7:c7.oneCell'=true) (oc8:c8.oneCell'=true) (oc9:c9.oneCell'=true) (a1v:c10.oneCell'=true) (a1w:c11.oneCell'=true) (ncs:List Value) (hn0:na=none→nn=0∧nc=0) (hn1:ncs.length=nn*1) (hn2:∀ad,na=some ad→∀j u,ncs[j]? =some u→w.cell? (ad.add j)=some u) (hn3:∀u∈ncs,u.oneCell'=true) (hn4:nn*16≤140737488355328)
 (hqn:qn*112≤140737488355328) (hkn:kn*200≤140737488355328) (qb qo kb ko:Nat) (hqa:0<qn→qa=some ⟨qb,qo,none⟩) (hka:0<kn→ka=some ⟨kb,ko,none⟩)
 (G0:Value→List Value→World→Prop) (G1:Value→List Value→Nat→World→Value→List Value→List Value→Prop)
 (h01:Hd (∀nv ds W,G0 nv ds W→G1 nv ds 0 W (.slice none 0 0) [] []))
 (bCJ:Hd (∀nv ds W p u,G0 nv ds W→w.heap.size≤Addr.block p→p.block<w.heap.size+3→G0 nv ds (W.setCell p u)))
 (G2:Value→List Value→Value→List Value→Nat→World→Value→List Value→List Value→Prop)
 (a8U:Hd (∀nv ds k W W' pv xs news,G1 nv ds k W pv xs news→W.grownBy W' pv.ownBlock→G1 nv ds k W' pv xs news))
 (a8V:Hd (∀nv ds k W p u pv xs news,G1 nv ds k W pv xs news→w.heap.size≤Addr.block p→p.block<w.heap.size+3→G1 nv ds k (W.setCell p u) pv xs news))
 (bHu:Hd (∀nv ds k n W W' pv pv' xs news,k<qn→w.heap.size+3≤n→W.ownsRow n 49 8 pv k xs→W'.ownsRow n 49 8 pv' (k+1) (xs++news)→W.grownBy W' pv.ownBlock→(pv'.ownBlock=pv.ownBlock∨pv'.ownBlock=some W.heap.size)→G1 nv ds k W pv xs news→G1 nv ds (k+1) W' pv' (xs++news) []))
 (h12:Hd (∀nv ds W pv xs n,w.heap.size+3≤n→W.ownsRow n 49 8 pv qn xs→G1 nv ds qn W pv xs []→G2 nv ds pv xs 0 W (.slice none 0 0) [] []))
 (a8W:Hd (∀nv ds pv pxs k W W' kv xs news,G2 nv ds pv pxs k W kv xs news→W.grownBy W' kv.ownBlock→G2 nv ds pv pxs k W' kv xs news))
 (a8X:Hd (∀nv ds pv pxs k W p u kv xs news,G2 nv ds pv pxs k W kv xs news→w.heap.size≤Addr.block p→p.block<w.heap.size+3→G2 nv ds pv pxs k (W.setCell p u) kv xs news))
 (bHv:Hd (∀nv ds pv pxs k n W W' kv kv' xs news,k<kn→w.heap.size+3≤n→W.ownsRow n 29 14 kv k xs→W'.ownsRow n 29 14 kv' (k+1) (xs++news)→W.grownBy W' kv.ownBlock→(kv'.ownBlock=kv.ownBlock∨kv'.ownBlock=some W.heap.size)→G2 nv ds pv pxs k W kv xs news→G2 nv ds pv pxs (k+1) W' kv' (xs++news) []))
 (hK:Hd (∀k,k<kn→∃k0 k1 k2 k3 k4 k5 k6 k7 k8 k9 k10 k11 k12 k13:Value,(w.cell? ⟨kb,ko+k*14,none⟩=some k0∧w.cell? ⟨kb,ko+k*14+1,none⟩=some k1∧w.cell? ⟨kb,ko+k*14+2,none⟩=some k2∧w.cell? ⟨kb,ko+k*14+3,none⟩=some k3∧w.cell? ⟨kb,ko+k*14+4,none⟩=some k4∧w.cell? ⟨kb,ko+k*14+5,none⟩=some k5∧w.cell? ⟨kb,ko+k*14+6,none⟩=some k6∧w.cell? ⟨kb,ko+k*14+7,none⟩=some k7∧w.cell? ⟨kb,ko+k*14+8,none⟩=some k8∧w.cell? ⟨kb,ko+k*14+9,none⟩=some k9∧w.cell? ⟨kb,ko+k*14+10,none⟩=some k10∧w.cell? ⟨kb,ko+k*14+11,none⟩=some k11∧w.cell? ⟨kb,ko+k*14+12,none⟩=some k12∧w.cell? ⟨kb,ko+k*14+13,none⟩=some k13)∧(k0.oneCell'=true∧k1.oneCell'=true∧k2.oneCell'=true∧k3.oneCell'=true∧k4.oneCell'=true∧k5.oneCell'=true∧k6.oneCell'=true∧k7.oneCell'=true∧k8.oneCell'=true∧k9.oneCell'=true∧k10.oneCell'=true∧k11.oneCell'=true∧k12.oneCell'=true∧k13.oneCell'=true)∧
   (∀nv ds pv pxs W kv xs,G2 nv ds pv pxs k W kv xs []→Calls Tryz.prog 19 #[.agg #[k0,k1,k2,k3,k4,k5,k6,k7,k8,k9,k10,k11,k12,k13]] W fun e W'=>∃r0 r1 r2 r3 r4 r5 r6 r7 r8 r9 r10 r11 r12 r13,e= .returned (.agg #[r0,r1,r2,r3,r4,r5,r6,r7,r8,r9,r10,r11,r12,r13])∧(r0.oneCell'=true∧r1.oneCell'=true∧r2.oneCell'=true∧r3.oneCell'=true∧r4.oneCell'=true∧r5.oneCell'=true∧r6.oneCell'=true∧r7.oneCell'=true∧r8.oneCell'=true∧r9.oneCell'=true∧r10.oneCell'=true∧r11.oneCell'=true∧r12.oneCell'=true∧r13.oneCell'=true)∧W.grownBy W' none∧G2 nv ds pv pxs k W' kv xs [r0,r1,r2,r3,r4,r5,r6,r7,r8,r9,r10,r11,r12,r13])))
 (hP:Hd (∀k,k<qn→∃p0 p1 p2 p3 p4 p5 p6 p7:Value,(w.cell? ⟨qb,qo+k*8,none⟩=some p0∧w.cell? ⟨qb,qo+k*8+1,none⟩=some p1∧w.cell? ⟨qb,qo+k*8+2,none⟩=some p2∧w.cell? ⟨qb,qo+k*8+3,none⟩=some p3∧w.cell? ⟨qb,qo+k*8+4,none⟩=some p4∧w.cell? ⟨qb,qo+k*8+5,none⟩=some p5∧w.cell? ⟨qb,qo+k*8+6,none⟩=some p6∧w.cell? ⟨qb,qo+k*8+7,none⟩=some p7)∧(p0.oneCell'=true∧p1.oneCell'=true∧p2.oneCell'=true∧p3.oneCell'=true∧p4.oneCell'=true∧p5.oneCell'=true∧p6.oneCell'=true∧p7.oneCell'=true)∧
   (∀nv ds W pv xs,G1 nv ds k W pv xs []→Calls Tryz.prog 42 #[.agg #[p0,p1,p2,p3]] W fun e W'=>∃d0 d1 d2 d3,e= .returned (.agg #[d0,d1,d2,d3])∧(d0.oneCell'=true∧d1.oneCell'=true∧d2.oneCell'=true∧d3.oneCell'=true)∧W.grownBy W' none∧G1 nv ds k W' pv xs [d0,d1,d2,d3])∧
   (∀nv ds W pv xs d0 d1 d2 d3,G1 nv ds k W pv xs [d0,d1,d2,d3]→Calls Tryz.prog 42 #[.agg #[p4,p5,p6,p7]] W fun e W'=>∃e0 e1 e2 e3,e= .returned (.agg #[e0,e1,e2,e3])∧(e0.oneCell'=true∧e1.oneCell'=true∧e2.oneCell'=true∧e3.oneCell'=true)∧W.grownBy W' none∧G1 nv ds k W' pv xs [d0,d1,d2,d3,e0,e1,e2,e3])))
 (hv:Hd (∀(W:World) nv,Below w.heap.size w W→w.heap.size+3≤W.heap.size→W.ownsRow (w.heap.size+3) 9 1 nv nn ncs→(nn=0→nv= .slice none 0 0)→Calls Tryz.prog 42 #[.agg #[c8,c9,c10,c11]] W fun e W'=>∃d0 d1 d2 d3,e= .returned (.agg #[d0,d1,d2,d3])∧(d0.oneCell'=true∧d1.oneCell'=true∧d2.oneCell'=true∧d3.oneCell'=true)∧W.grownBy W' none∧G0 nv [d0,d1,d2,d3] W')):
 Calls Tryz.prog 19 #[.agg #[c0,c1,c2,Value.slice na nn nc,c4,c5,c6,c7,c8,c9,c10,c11,Value.slice qa qn qc,Value.slice ka kn kc]] w fun e w'=>∃nv d0 d1 d2 d3 pv pxs kv kxs n,e= .returned (.agg #[c0,c1,c2,nv,c4,c5,c6,c7,d0,d1,d2,d3,pv,kv])∧(d0.oneCell'=true∧d1.oneCell'=true∧d2.oneCell'=true∧d3.oneCell'=true)∧Below w.heap.size w w'∧w.heap.size+3≤n∧w'.ownsRow n 29 14 kv kn kxs∧G2 nv [d0,d1,d2,d3] pv pxs kn w' kv kxs []:=by
 have tc0:=sT oc0
 have tc1:=sT oc1
 have tc2:=sT oc2
 have tc4:=sT oc4
 have tc5:=sT oc5
 have tc6:=sT oc6
 have tc7:=sT oc7
 have tc8:=sT oc8
 have tc9:=sT oc9
 have a8Y:=sT a1v
 have a8Z:=sT a1w
 obtain ⟨i9,z9,hi9,hz9,hs9,hy9,hc9⟩:=bHt
 obtain ⟨i29,z29,bKd,bKe,bKf,bKg,bKh⟩:=hd bEw
 obtain ⟨i56,z56,bHF,bHG,bHH,bHI,bHJ⟩:=hd bEv
 obtain ⟨W0,hW0,h1,h2,h3,hsz,hZ0,hold,hbl⟩:=three w #[c0,c1,c2,Value.slice na nn nc,c4,c5,c6,c7,c8,c9,c10,c11,Value.slice qa qn qc,Value.slice ka kn kc] #[Value.int IntKind.i64 0,Value.string {data:=#[]},Value.string {data:=#[]},Value.slice none 0 0,Value.int IntKind.i64 0,Value.int IntKind.i64 0,Value.int IntKind.i64 0,Value.int IntKind.u8 0,Value.int IntKind.i64 0,Value.int IntKind.i64 0,Value.string {data:=#[]},Value.slice none 0 0,Value.slice none 0 0,Value.slice none 0 0] #[c0,c1,c2,Value.slice na nn nc,c4,c5,c6,c7,c8,c9,c10,c11,Value.slice qa qn qc,Value.slice ka kn kc] 29 29 29
 have bEz:∀ad,na=some ad→∀j u,ncs[j]? =some u→W0.cell? (ad.add j)=some u:=fun ad h j u hu=>hold _ _ (hn2 ad h j u hu)
 have HL0:W0.heap[w.heap.size]? =some (.cells #[c0,c1,c2,Value.slice na nn nc,c4,c5,c6,c7,c8,c9,c10,c11,Value.slice qa qn qc,Value.slice ka kn kc] 29 (0,0)):=a4x hW0
 have HR0:W0.heap[w.heap.size+1]? =some (.cells #[Value.int IntKind.i64 0,Value.string {data:=#[]},Value.string {data:=#[]},Value.slice none 0 0,Value.int IntKind.i64 0,Value.int IntKind.i64 0,Value.int IntKind.i64 0,Value.int IntKind.u8 0,Value.int IntKind.i64 0,Value.int IntKind.i64 0,Value.string {data:=#[]},Value.slice none 0 0,Value.slice none 0 0,Value.slice none 0 0] 29 (0,0)):=a4y hW0
 have bKj:W0=(((w.alloc (Obj.cells #[c0,c1,c2,Value.slice na nn nc,c4,c5,c6,c7,c8,c9,c10,c11,Value.slice qa qn qc,Value.slice ka kn kc] 29)).alloc (Obj.cells #[Value.int IntKind.i64 0,Value.string {data:=#[]},Value.string {data:=#[]},Value.slice none 0 0,Value.int IntKind.i64 0,Value.int IntKind.i64 0,Value.int IntKind.i64 0,Value.int IntKind.u8 0,Value.int IntKind.i64 0,Value.int IntKind.i64 0,Value.string {data:=#[]},Value.slice none 0 0,Value.slice none 0 0,Value.slice none 0 0] 29)).alloc (Obj.cells #[c0,c1,c2,Value.slice na nn nc,c4,c5,c6,c7,c8,c9,c10,c11,Value.slice qa qn qc,Value.slice ka kn kc] 29)):=hW0
 rw[hW0]at bEz HL0 HR0 hZ0 hbl hsz
 clear hW0 bKj h1 h2 h3 hold
 have bAn:=Nat.le_of_eq hsz.symm
 clear hsz
 go_enter Tryz.func19,Tryz.ntmps19
 go_wp2_with (first |(at_builtin;go_loud (refine aRl _ rfl _ _ 22 rfl (w.heap.size+3) 9 i9 z9 1 16 Tryz.underlying22 hi9 hz9 hs9 hy9 hc9 (by decide) _ 0 [] rfl (World.ownsRow_nil _ _ _ _) na nn nc ncs rfl hn1 hn0 bEz hn3 (by unfold maxLen;omega) (by omega) bAn ?_;intro nv w1 hown hgrow hnz;rw[Nat.zero_add,List.nil_append]at hown;obtain ⟨ga,gc,rfl⟩:=aKR hown;have hnz:=hd hnz;have HL1:=(hgrow.block w.heap.size (by simp<;>omega) (fun h=>nomatch (show some _=(none:Option Nat)from h))).trans HL0;have HR1:=hd ((hgrow.block (w.heap.size+1) (by simp<;>omega) (fun h=>nomatch (show some _=(none:Option Nat)from h))).trans HR0);have HC1:=(hgrow.block (w.heap.size+2) (by simp<;>omega) (fun h=>nomatch (show some _=(none:Option Nat)from h))).trans hZ0;have La0:=cell_of HL1 0 _ rfl;have La1:=cell_of HL1 1 _ rfl;have La2:=cell_of HL1 2 _ rfl;have La3:=cell_of HL1 3 _ rfl;have La4:=cell_of HL1 4 _ rfl;have La5:=cell_of HL1 5 _ rfl;have La6:=cell_of HL1 6 _ rfl;have La7:=cell_of HL1 7 _ rfl;have La8:=cell_of HL1 8 _ rfl;have La9:=cell_of HL1 9 _ rfl;have bEA:=cell_of HL1 10 _ rfl;have bEB:=cell_of HL1 11 _ rfl;have bEC:=cell_of HL1 12 _ rfl;have bED:=cell_of HL1 13 _ rfl;have Cak:=fun (j:Nat) (x:Value) h=>(cell_of HC1 j x h:w1.cell? ⟨w.heap.size+1+1,j,none⟩=some x);have Ca0:=Cak 0 _ rfl;have Ca1:=Cak 1 _ rfl;have Ca2:=Cak 2 _ rfl;have Ca3:=Cak 3 _ rfl;have Ca4:=Cak 4 _ rfl;have Ca5:=Cak 5 _ rfl;have Ca6:=Cak 6 _ rfl;have Ca7:=Cak 7 _ rfl;have Ca8:=Cak 8 _ rfl;have Ca9:=Cak 9 _ rfl;have bKu:=Cak 10 _ rfl;have bKv:=Cak 11 _ rfl;have bKw:=Cak 12 _ rfl;have bKx:=Cak 13 _ rfl;clear Cak;have FC1:∀j,w1.frozen? ⟨w.heap.size+1+1,j,none⟩=false:=aDa HC1;have hb1:=hbl.grown hgrow (by simp<;>omega) (fun j h=>nomatch (show (none:Option Nat)=some j from h));have hs1:w.heap.size+3≤w1.heap.size:=Nat.le_trans bAn hgrow.size;have a81:=hd hown;clear hown hgrow HL0 HR0 hZ0 bEz hbl bAn))|(go_at_call 42;go_loud (refine (hv.out _ (Value.slice ga nn gc) (hb1.setCell (p:=⟨w.heap.size+1+1,3,none⟩) (by dsimp only;omega) (Value.slice ga nn gc)) (by simp[World.setCell]<;>omega) (aEM a81.out (by show w.heap.size+1+1<_;omega)) hnz.out).mono ?_;rintro e w2 ⟨d0,d1,d2,d3,rfl,⟨od0,od1,od2,od3⟩,hb2,g0⟩;have td0:=sT od0;have td1:=sT od1;have td2:=sT od2;have td3:=sT od3;have g0:=hd g0;have HL2:=(hb2.block w.heap.size (by simp[World.setCell]<;>omega) (by simp)).trans ((aGZ _ (by omega)).trans HL1);have HR2:=hd ((hb2.block (w.heap.size+1) (by simp[World.setCell]<;>omega) (by simp)).trans ((aGZ _ (by omega)).trans HR1.out));have HC2:=(hb2.block (w.heap.size+1+1) (by simp[World.setCell]<;>omega) (by simp)).trans (aJZ _ HC1);have Lb0:=cell_of HL2 0 _ rfl;have Lb1:=cell_of HL2 1 _ rfl;have Lb2:=cell_of HL2 2 _ rfl;have Lb3:=cell_of HL2 3 _ rfl;have Lb4:=cell_of HL2 4 _ rfl;have Lb5:=cell_of HL2 5 _ rfl;have Lb6:=cell_of HL2 6 _ rfl;have Lb7:=cell_of HL2 7 _ rfl;have Lb8:=cell_of HL2 8 _ rfl;have Lb9:=cell_of HL2 9 _ rfl;have bKC:=cell_of HL2 10 _ rfl;have bKD:=cell_of HL2 11 _ rfl;have bKE:=cell_of HL2 12 _ rfl;have bKF:=cell_of HL2 13 _ rfl;have Cbk:=fun (j:Nat) (x:Value) h=>(cell_of HC2 j x h:w2.cell? ⟨w.heap.size+1+1,j,none⟩=some x);have Cb0:=Cbk 0 _ rfl;have Cb1:=Cbk 1 _ rfl;have Cb2:=Cbk 2 _ rfl;have Cb3:=Cbk 3 _ rfl;have Cb4:=Cbk 4 _ rfl;have Cb5:=Cbk 5 _ rfl;have Cb6:=Cbk 6 _ rfl;have Cb7:=Cbk 7 _ rfl;have Cb8:=Cbk 8 _ rfl;have Cb9:=Cbk 9 _ rfl;have bKG:=Cbk 10 _ rfl;have bKH:=Cbk 11 _ rfl;have bKI:=Cbk 12 _ rfl;have bKJ:=Cbk 13 _ rfl;clear Cbk;have FC2:∀j,w2.frozen? ⟨w.heap.size+1+1,j,none⟩=false:=aDa HC2;have hbB:Below w.heap.size w w2:=(hb1.setCell (p:=⟨w.heap.size+1+1,3,none⟩) (by dsimp only;omega) (Value.slice ga nn gc)).grown hb2 (by simp[World.setCell]<;>omega) (fun j h=>nomatch h);have hbB:=hd hbB;have hs2:w.heap.size+3≤w2.heap.size:=by {have:=hb2.size;simp[World.setCell]at this;omega};have bCL:=hd (aAr (aEM (p:=⟨w.heap.size+1+1,3,none⟩) (u:=Value.slice ga nn gc) a81.out (by show w.heap.size+1+1<_;omega)) hb2);clear HL1 HC1 FC1 hb1 hs1 La0 Ca0 La1 Ca1 La2 Ca2 La3 Ca3 La4 Ca4 La5 Ca5 La6 Ca6 La7 Ca7 La8 Ca8 La9 Ca9 bEA bKu bEB bKv bEC bKw bED bKx;clear HR1 a81 hnz)))
 obtain ⟨X,hX⟩:∃X,X=xL w2 (w.heap.size+1+1) 8 [d0,d1,d2,d3,.slice none 0 0,.slice none 0 0]:=⟨_,rfl⟩
 have HCX:X.heap[w.heap.size+1+1]? =some (.cells #[c0,c1,c2,.slice ga nn gc,c4,c5,c6,c7,d0,d1,d2,d3,.slice none 0 0,.slice none 0 0] 29 (0,0)):=by rw[hX];exact aG0 _ w2 8 _ HC2 (by simp)
 have HLX:X.heap[w.heap.size]? =some (.cells #[c0,c1,c2,Value.slice na nn nc,c4,c5,c6,c7,c8,c9,c10,c11,Value.slice qa qn qc,Value.slice ka kn kc] 29 (0,0)):=by rw[hX];exact (qG (by omega) _ w2 8).trans HL2
 have HRX:X.heap[w.heap.size+1]? =some (.cells #[Value.int IntKind.i64 0,Value.string {data:=#[]},Value.string {data:=#[]},Value.slice none 0 0,Value.int IntKind.i64 0,Value.int IntKind.i64 0,Value.int IntKind.i64 0,Value.int IntKind.u8 0,Value.int IntKind.i64 0,Value.int IntKind.i64 0,Value.string {data:=#[]},Value.slice none 0 0,Value.slice none 0 0,Value.slice none 0 0] 29 (0,0)):=by rw[hX];exact (qG (by omega) _ w2 8).trans HR2.out
 have HSX:w.heap.size+3≤X.heap.size:=by rw[hX,(jK _ _ w2 8).2.2.2];exact hs2
 have HBX:Below w.heap.size w X:=by
  rw[hX]
  refine ⟨(jK _ _ w2 8).1.trans hbB.out.os,(jK _ _ w2 8).2.1.trans hbB.out.tape,(jK _ _ w2 8).2.2.1.trans hbB.out.output,by rw[(jK _ _ w2 8).2.2.2];exact hbB.out.size,fun k hk=>(qG (by omega) _ w2 8).trans (hbB.out.block k hk)⟩
 have HNX:X.ownsRow (w.heap.size+3) 9 1 (.slice ga nn gc) nn ncs:=by
  rw[hX]
  have hlt:w.heap.size+1+1<w.heap.size+3:=by omega
  exact aEM (aEM (aEM (aEM (aEM (aEM bCL.out hlt) hlt) hlt) hlt) hlt) hlt
 have HGX:G0 (.slice ga nn gc) [d0,d1,d2,d3] X:=by
  rw[hX]
  have k0:∀W j u,G0 (.slice ga nn gc) [d0,d1,d2,d3] W→G0 (.slice ga nn gc) [d0,d1,d2,d3] (W.setCell ⟨w.heap.size+1+1,j,none⟩ u):=fun W j u h=>bCJ.out _ _ W _ u h (by show _≤w.heap.size+1+1;omega) (by show w.heap.size+1+1<_;omega)
  exact k0 _ _ _ (k0 _ _ _ (k0 _ _ _ (k0 _ _ _ (k0 _ _ _ (k0 _ _ _ g0.out)))))
 change Code.wp _ _ _ _ (xL w2 (w.heap.size+1+1) 8 [d0,d1,d2,d3,.slice none 0 0,.slice none 0 0])
 rw[←hX]
 have HI:=hd (show PI X (w.heap.size+1+1) (fun pv=>#[c0,c1,c2,.slice ga nn gc,c4,c5,c6,c7,d0,d1,d2,d3,pv,.slice none 0 0]) 49 8 (G1 (.slice ga nn gc) [d0,d1,d2,d3]) 0 X from ⟨_,[],HCX,World.ownsRow_nil _ _ _ _,rfl,rfl,rfl,Nat.le_refl _,fun _ _ _=>rfl,h01.out _ _ _ HGX⟩)
 have HRX:=hd HRX
 have HSX:=hd HSX
 have HBX:=hd HBX
 have HNX:=hd HNX
 have HLX:=hd HLX
 clear hX HCX HGX g0 bCJ h01 hv hbB bCL HR2
 clear HL2 HC2 FC2 hb2 hs2 Lb0 Cb0 Lb1 Cb1 Lb2 Cb2 Lb3 Cb3 Lb4 Cb4 Lb5 Cb5 Lb6 Cb6 Lb7 Cb7 Lb8 Cb8 Lb9 Cb9 bKC bKG bKD bKH bKE bKI bKF bKJ td0 td1 td2 td3 tc0 tc1 tc2 tc4 tc5 tc6 tc7 tc8 tc9 a8Y a8Z
 go_loopw [22] (fun i wr=>∃k:Nat,k≤qn∧i= .int .i64 k∧Hd (PI X (w.heap.size+1+1) (fun pv=>#[c0,c1,c2,.slice ga nn gc,c4,c5,c6,c7,d0,d1,d2,d3,pv,.slice none 0 0]) 49 8 (G1 (.slice ga nn gc) [d0,d1,d2,d3]) k wr)) (fun i _=>qn - (intOf i).toNat)
 case atStart=>exact ⟨0,Nat.zero_le _,rfl,HI⟩
 case round=>
  obtain ⟨k,hk,rfl,HR⟩:=hrel
  by_cases hlt:k<qn
  ·obtain ⟨pv,pxs,q1,q2,q3,q4,q5,q6,q7,q8⟩:=HR.out
   obtain ⟨p0,p1,p2,p3,p4,p5,p6,p7,⟨P0,P1,P2,P3,P4,P5,P6,P7⟩,⟨op0,op1,op2,op3,op4,op5,op6,op7⟩,H1,H2⟩:=hP.out k hlt
   obtain rfl:=hqa (by omega)
   have old:∀{a:Addr} {x:Value},w.cell? a=some x→wr.cell? a=some x:=fun {a x} h=>by
    have hb:=World.block_lt_of_cell? w a h
    have:=HSX.out
    rw[World.cell?_of_block ((q7 a.block (by omega) (by omega)).trans (HBX.out.block a.block hb))];exact h
   have R0:=old P0;have R1:=old P1;have R2:=old P2;have R3:=old P3;have R4:=old P4;have R5:=old P5;have R6:=old P6;have R7:=old P7
   have hl0:decide ((k:Int)<0)=false:=by simp
   have hl1:decide ((k:Int)≥(qn:Int))=false:=by simp;omega
   have hl2:decide ((k:Int)<(qn:Int))=true:=by simp;omega
   have q:=hd (And.intro q1 (And.intro q2 (And.intro q3 (And.intro q4 (And.intro q5 (And.intro q6 (And.intro q7 q8)))))))
   have H1:=hd H1
   have H2:=hd H2
   clear old q1 q2 q3 q4 q5 q6 q7 q8 P0 P1 P2 P3 P4 P5 P6 P7 HR
   have tp0:=sT op0;have tp1:=sT op1;have tp2:=sT op2;have tp3:=sT op3;have tp4:=sT op4;have tp5:=sT op5;have tp6:=sT op6;have tp7:=sT op7
   go_wp2
   obtain ⟨WR,hWR⟩:∃WR,WR=wr.alloc (Obj.cells #[p0,p1,p2,p3,p4,p5,p6,p7] 49):=⟨_,rfl⟩
   rw[←hWR]
   obtain ⟨q1,q2,q3,q4,q5,q6,q7,q8⟩:=q.out
   have hSX:=HSX.out
   have gR:wr.grownBy WR.drew none:=by rw[hWR];exact (World.grownBy_alloc wr _ none).trans (aHQ _ none)
   have GR:=hd (a8U.out _ _ _ _ _ _ _ _ q8 (aD0 gR _))
   have a82:=hd (aAr q2 gR)
   have bHK:WR.drew.cell? ⟨w.heap.size+1+1,12,none⟩=some pv:=cell_of (aRm (by omega) q6 q1 q2 (aD0 gR _)) 12 _ rfl
   have sR:P8 WR.drew wr.heap.size p0 p1 p2 p3 p4 p5 p6 p7:=by rw[hWR];exact ⟨(fC wr _ 49 wr.heap.size 0 rfl).trans rfl,(fC wr _ 49 wr.heap.size 1 rfl).trans rfl,(fC wr _ 49 wr.heap.size 2 rfl).trans rfl,(fC wr _ 49 wr.heap.size 3 rfl).trans rfl,(fC wr _ 49 wr.heap.size 4 rfl).trans rfl,(fC wr _ 49 wr.heap.size 5 rfl).trans rfl,(fC wr _ 49 wr.heap.size 6 rfl).trans rfl,(fC wr _ 49 wr.heap.size 7 rfl).trans rfl⟩
   have a83:w.heap.size+1+1≠wr.heap.size:=by omega
   have hnn:some wr.heap.size≠pv.ownBlock:=fun h=>by have:=q2.lt _ h.symm;omega
   have gR:=hd gR
   have hnn:=hd hnn
   clear q1 q2 q3 q4 q5 q6 q7 q8 hSX hWR
   rewrite [bAl]
   go_region_held3 (fun w'=>w'.cell? ⟨wr.heap.size,0,none⟩=some p0∧w'.cell? ⟨wr.heap.size,1,none⟩=some p1∧w'.cell? ⟨wr.heap.size,2,none⟩=some p2∧w'.cell? ⟨wr.heap.size,3,none⟩=some p3∧w'.cell? ⟨wr.heap.size,4,none⟩=some p4∧w'.cell? ⟨wr.heap.size,5,none⟩=some p5∧w'.cell? ⟨wr.heap.size,6,none⟩=some p6∧w'.cell? ⟨wr.heap.size,7,none⟩=some p7) (first |with_reducible assumption |(with_reducible exact P8.set s4 a83)|(with_reducible exact s4)|(with_reducible exact P8.alloc s2 _)|(with_reducible exact s2)|(with_reducible exact s1)|(with_reducible exact sR))
    (first
      |(rw[if_pos (by rfl)]
        refine aO2 _ _ 26 rfl X.heap.size 49 i56 z56 8 112 Tryz.underlying26 bHF bHG bHH bHI bHJ (by decide) pv k pxs rfl (aAr bEE.out (World.grownBy_alloc _ _ none)) ⟨_,0,none⟩ 1 1 [x0,x1,x2,x3,y0,y1,y2,y3] rfl rfl (aYr _ _ _) (by simp[ox0,ox1,ox2,ox3,oy0,oy1,oy2,oy3]) (by unfold maxLen;omega) (by omega) (by have:=q.out.2.2.2.2.2.1;have:=g2.out.size;simp<;>omega) ?_
        intro v4 W4 hown hg hat
        have W3:=aAr bEE.out (World.grownBy_alloc W2 (Obj.cells [x0,x1,x2,x3,y0,y1,y2,y3].toArray 49) none)
        have G3:=a8U.out _ _ _ _ (W2.alloc (Obj.cells [x0,x1,x2,x3,y0,y1,y2,y3].toArray 49)) _ _ _ G2x.out (World.grownBy_alloc _ _ _)
        have G4:=hd (bHu.out _ _ k X.heap.size _ W4 pv v4 pxs _ hlt HSX.out W3 hown hg hat G3)
        have g4:=hd ((aD0 (g2.out.trans (World.grownBy_alloc W2 (Obj.cells [x0,x1,x2,x3,y0,y1,y2,y3].toArray 49) none)) _).trans hg)
        have s4:P8 W4 wr.heap.size p0 p1 p2 p3 p4 p5 p6 p7:=P8.keep (P8.alloc s2 _) hg hnn.out
        have hc4:=aRm (by have:=HSX.out;omega) q.out.2.2.2.2.2.1 q.out.1 q.out.2.1 g4.out
        obtain ⟨a4,m4,rfl⟩:=aKR hown
        have a1x:=hd hown
        have bKL:=cell_of hc4 12 _ rfl
        have F4:∀j,W4.frozen? ⟨w.heap.size+1+1,j,none⟩=false:=aDa hc4
        clear hown hg hat W3 G3 hc4)
      |(go_at_call 42
        refine (H2.out _ _ _ _ _ _ _ _ _ G1x.out).mono ?_
        rintro e W2 ⟨y0,y1,y2,y3,rfl,⟨oy0,oy1,oy2,oy3⟩,hb,hg⟩
        have g2:=hd (g1.out.trans hb)
        have G2x:=hd hg
        have s2:P8 W2 wr.heap.size p0 p1 p2 p3 p4 p5 p6 p7:=P8.keep s1 hb (by simp)
        have bHM:W2.cell? ⟨w.heap.size+1+1,12,none⟩=some pv:=hb.cell bHN (by simp)
        have bEE:=hd (aAr a5O.out hb)
        have ca2:∀o,(W2.alloc o).cell? ⟨w.heap.size+1+1,12,none⟩=some pv:=fun o=>kA bHM o
        clear hb hg)
      |(go_at_call 42
        refine (H1.out _ _ _ _ _ GR.out).mono ?_
        rintro e W1 ⟨x0,x1,x2,x3,rfl,⟨ox0,ox1,ox2,ox3⟩,hb,hg⟩
        have g1:=hd (gR.out.trans hb)
        have G1x:=hd hg
        have s1:P8 W1 wr.heap.size p0 p1 p2 p3 p4 p5 p6 p7:=P8.keep sR hb (by simp)
        have bHN:W1.cell? ⟨w.heap.size+1+1,12,none⟩=some pv:=hb.cell bHK (by simp)
        have a5O:=hd (aAr a82.out hb)
        clear hb hg))
   all_goals
    obtain ⟨q1,q2,q3,q4,q5,q6,q7,q8⟩:=q.out
    have hSX:=HSX.out
    have HI5:=hd (PI.next (W:=W4) (cb:=w.heap.size+1+1) (cc:=fun pv=>#[c0,c1,c2,.slice ga nn gc,c4,c5,c6,c7,d0,d1,d2,d3,pv,.slice none 0 0]) (i:=12) (G:=G1 (.slice ga nn gc) [d0,d1,d2,d3]) (k':=k+1) (by omega) q1 q2 q3 q4 q5 q6 q7 g4.out a1x.out rfl (a8V.out _ _ _ _ _ _ _ _ _ G4.out (by dsimp only;omega) (by dsimp only;omega)))
    clear q1 q2 q3 q4 q5 q6 q7 q8 hSX q G4 g4 a1x s4 F4 bKL G1x G2x g1 g2 s1 s2 bHN bHM a5O bEE ca2 sR GR gR a82 bHK hnn a83 HI
    generalize W4.setCell ⟨w.heap.size+1+1,12,none⟩ (.slice a4 (k+1) m4)=W5 at*
    go_wp2
    exact ⟨⟨k+1,by omega,by go_num,HI5⟩,by simp[intOf];omega⟩
  ·obtain rfl:qn=k:=by omega
   obtain ⟨pv,pxs,q1,q2,q3,q4,q5,q6,q7,q8⟩:=HR.out
   obtain ⟨pa,pc,rfl⟩:=aKR q2
   have hSX:=HSX.out
   have HLw:wr.heap[w.heap.size]? =some (.cells #[c0,c1,c2,Value.slice na nn nc,c4,c5,c6,c7,c8,c9,c10,c11,Value.slice qa qn qc,Value.slice ka kn kc] 29 (0,0)):=(q7 _ (by omega) (by omega)).trans HLX.out
   have L13:wr.cell? ⟨w.heap.size,13,none⟩=some (.slice ka kn kc):=cell_of HLw 13 _ rfl
   have hl2:decide ((qn:Int)<(qn:Int))=false:=by simp
   have HI2:=hd (show PI wr (w.heap.size+1+1) (fun kv=>#[c0,c1,c2,.slice ga nn gc,c4,c5,c6,c7,d0,d1,d2,d3,.slice pa qn pc,kv]) 29 14 (G2 (.slice ga nn gc) [d0,d1,d2,d3] (.slice pa qn pc) pxs) 0 wr from ⟨_,[],q1,World.ownsRow_nil _ _ _ _,rfl,rfl,rfl,Nat.le_refl _,fun _ _ _=>rfl,h12.out _ _ _ _ _ _ hSX q2 q8⟩)
   have HRw:=hd ((q7 (w.heap.size+1) (by omega) (by omega)).trans HRX.out)
   have HSw:=hd (Nat.le_trans hSX q6)
   have HBw:=hd (show Below w.heap.size w wr from ⟨q3.trans HBX.out.os,q4.trans HBX.out.tape,q5.trans HBX.out.output,Nat.le_trans HBX.out.size q6,fun j hj=>(q7 j (by omega) (by omega)).trans (HBX.out.block j hj)⟩)
   have HLw:=hd HLw
   clear q1 q2 q3 q4 q5 q6 q7 q8 HR HI HRX HSX HBX HNX HLX hSX hP a8U a8V bHu h12 hlt hk bHF bHG bHH bHI bHJ i56 z56 hi9 hz9 hs9 hy9 hc9
   obtain ⟨Y,hY⟩:∃Y,Y=wr:=⟨_,rfl⟩
   subst hY
   go_wp2
   clear L13
   go_loopw [42] (fun i wr=>∃k:Nat,k≤kn∧i= .int .i64 k∧Hd (PI Y (w.heap.size+1+1) (fun kv=>#[c0,c1,c2,.slice ga nn gc,c4,c5,c6,c7,d0,d1,d2,d3,.slice pa qn pc,kv]) 29 14 (G2 (.slice ga nn gc) [d0,d1,d2,d3] (.slice pa qn pc) pxs) k wr)) (fun i _=>kn - (intOf i).toNat)
   case atStart=>exact ⟨0,Nat.zero_le _,rfl,HI2⟩
   case round=>
    obtain ⟨k,hk,rfl,HR⟩:=hrel
    by_cases hlt:k<kn
    ·obtain ⟨kv,kxs,q1,q2,q3,q4,q5,q6,q7,q8⟩:=HR.out
     obtain ⟨k0,k1,k2,k3,k4,k5,k6,k7,k8,k9,k10,k11,k12,k13,⟨P0,P1,P2,P3,P4,P5,P6,P7,P8,P9,P10,P11,P12,P13⟩,⟨ok0,ok1,ok2,ok3,ok4,ok5,ok6,ok7,ok8,ok9,bKO,bKP,bKQ,bKR⟩,H1⟩:=hK.out k hlt
     obtain rfl:=hka (by omega)
     have old:∀{a:Addr} {x:Value},w.cell? a=some x→wr.cell? a=some x:=fun {a x} h=>by
      have hb:=World.block_lt_of_cell? w a h
      have:=HSw.out
      rw[World.cell?_of_block ((q7 a.block (by omega) (by omega)).trans (HBw.out.block a.block hb))];exact h
     have R0:=old P0;have R1:=old P1;have R2:=old P2;have R3:=old P3;have R4:=old P4;have R5:=old P5;have R6:=old P6;have R7:=old P7;have R8:=old P8;have R9:=old P9;have R10:=old P10;have R11:=old P11;have R12:=old P12;have R13:=old P13
     have hl0:decide ((k:Int)<0)=false:=by simp
     have hl1:decide ((k:Int)≥(kn:Int))=false:=by simp;omega
     have hl2:decide ((k:Int)<(kn:Int))=true:=by simp;omega
     have q:=hd (And.intro q1 (And.intro q2 (And.intro q3 (And.intro q4 (And.intro q5 (And.intro q6 (And.intro q7 q8)))))))
     have H1:=hd H1
     clear old q1 q2 q3 q4 q5 q6 q7 q8 P0 P1 P2 P3 P4 P5 P6 P7 P8 P9 P10 P11 P12 P13 HR
     have tk0:=sT ok0;have tk1:=sT ok1;have tk2:=sT ok2;have tk3:=sT ok3;have tk4:=sT ok4;have tk5:=sT ok5;have tk6:=sT ok6;have tk7:=sT ok7;have tk8:=sT ok8;have tk9:=sT ok9;have bKW:=sT bKO;have bKX:=sT bKP;have bKY:=sT bKQ;have bKZ:=sT bKR
     go_wp2
     obtain ⟨WR,hWR⟩:∃WR,WR=wr.alloc (Obj.cells #[k0,k1,k2,k3,k4,k5,k6,k7,k8,k9,k10,k11,k12,k13] 29):=⟨_,rfl⟩
     rw[←hWR]
     obtain ⟨q1,q2,q3,q4,q5,q6,q7,q8⟩:=q.out
     have hSX:=HSw.out
     have gR:wr.grownBy WR.drew none:=by rw[hWR];exact (World.grownBy_alloc wr _ none).trans (aHQ _ none)
     have GR:=hd (a8W.out _ _ _ _ _ _ _ _ _ _ q8 (aD0 gR _))
     have a82:=hd (aAr q2 gR)
     have bHO:WR.drew.cell? ⟨w.heap.size+1+1,13,none⟩=some kv:=cell_of (aRm (by omega) q6 q1 q2 (aD0 gR _)) 13 _ rfl
     have sR:P14 WR.drew wr.heap.size k0 k1 k2 k3 k4 k5 k6 k7 k8 k9 k10 k11 k12 k13:=by rw[hWR];exact ⟨(fC wr _ 29 wr.heap.size 0 rfl).trans rfl,(fC wr _ 29 wr.heap.size 1 rfl).trans rfl,(fC wr _ 29 wr.heap.size 2 rfl).trans rfl,(fC wr _ 29 wr.heap.size 3 rfl).trans rfl,(fC wr _ 29 wr.heap.size 4 rfl).trans rfl,(fC wr _ 29 wr.heap.size 5 rfl).trans rfl,(fC wr _ 29 wr.heap.size 6 rfl).trans rfl,(fC wr _ 29 wr.heap.size 7 rfl).trans rfl,(fC wr _ 29 wr.heap.size 8 rfl).trans rfl,(fC wr _ 29 wr.heap.size 9 rfl).trans rfl,(fC wr _ 29 wr.heap.size 10 rfl).trans rfl,(fC wr _ 29 wr.heap.size 11 rfl).trans rfl,(fC wr _ 29 wr.heap.size 12 rfl).trans rfl,(fC wr _ 29 wr.heap.size 13 rfl).trans rfl⟩
     have a83:w.heap.size+1+1≠wr.heap.size:=by omega
     have hnn:some wr.heap.size≠kv.ownBlock:=fun h=>by have:=q2.lt _ h.symm;omega
     have gR:=hd gR
     have hnn:=hd hnn
     clear q1 q2 q3 q4 q5 q6 q7 q8 hSX hWR tk0 R0 tk1 R1 tk2 R2 tk3 R3 tk4 R4 tk5 R5 tk6 R6 tk7 R7 tk8 R8 tk9 R9 bKW R10 bKX R11 bKY R12 bKZ R13
     rewrite [bAm]
     go_region_held3 (fun w'=>w'.cell? ⟨wr.heap.size,0,none⟩=some k0∧w'.cell? ⟨wr.heap.size,1,none⟩=some k1∧w'.cell? ⟨wr.heap.size,2,none⟩=some k2∧w'.cell? ⟨wr.heap.size,3,none⟩=some k3∧w'.cell? ⟨wr.heap.size,4,none⟩=some k4∧w'.cell? ⟨wr.heap.size,5,none⟩=some k5∧w'.cell? ⟨wr.heap.size,6,none⟩=some k6∧w'.cell? ⟨wr.heap.size,7,none⟩=some k7∧w'.cell? ⟨wr.heap.size,8,none⟩=some k8∧w'.cell? ⟨wr.heap.size,9,none⟩=some k9∧w'.cell? ⟨wr.heap.size,10,none⟩=some k10∧w'.cell? ⟨wr.heap.size,11,none⟩=some k11∧w'.cell? ⟨wr.heap.size,12,none⟩=some k12∧w'.cell? ⟨wr.heap.size,13,none⟩=some k13) (first |with_reducible assumption |(with_reducible exact P14.set s4 a83)|(with_reducible exact s4)|(with_reducible exact P14.alloc s1 _)|(with_reducible exact s1)|(with_reducible exact sR))
      (first
        |(rw[if_pos (by rfl)]
          refine aO2 _ _ 27 rfl Y.heap.size 29 i29 z29 14 200 Tryz.underlying27 bKd bKe bKf bKg bKh (by decide) kv k kxs rfl (aAr a5O.out (World.grownBy_alloc _ _ none)) ⟨_,0,none⟩ 1 1 [r0,r1,r2,r3,r4,r5,r6,r7,r8,r9,r10,r11,r12,r13] rfl rfl (aYr _ _ _) (by simp[or0,or1,or2,or3,or4,or5,or6,or7,or8,or9,a5P,a5Q,a5R,a5S]) (by unfold maxLen;omega) (by omega) (by have:=q.out.2.2.2.2.2.1;have:=g1.out.size;simp<;>omega) ?_
          intro v4 W4 hown hg hat
          have W3:=aAr a5O.out (World.grownBy_alloc W1 (Obj.cells [r0,r1,r2,r3,r4,r5,r6,r7,r8,r9,r10,r11,r12,r13].toArray 29) none)
          have G3:=a8W.out _ _ _ _ _ _ (W1.alloc (Obj.cells [r0,r1,r2,r3,r4,r5,r6,r7,r8,r9,r10,r11,r12,r13].toArray 29)) _ _ _ G1x.out (World.grownBy_alloc _ _ _)
          have G4:=hd (bHv.out _ _ _ _ k Y.heap.size _ W4 kv v4 kxs _ hlt HSw.out W3 hown hg hat G3)
          have g4:=hd ((aD0 (g1.out.trans (World.grownBy_alloc W1 (Obj.cells [r0,r1,r2,r3,r4,r5,r6,r7,r8,r9,r10,r11,r12,r13].toArray 29) none)) _).trans hg)
          have s4:P14 W4 wr.heap.size k0 k1 k2 k3 k4 k5 k6 k7 k8 k9 k10 k11 k12 k13:=P14.keep (P14.alloc s1 _) hg hnn.out
          have hc4:=aRm (by have:=HSw.out;omega) q.out.2.2.2.2.2.1 q.out.1 q.out.2.1 g4.out
          obtain ⟨a4,m4,rfl⟩:=aKR hown
          have a1x:=hd hown
          have bK0:=cell_of hc4 13 _ rfl
          have F4:∀j,W4.frozen? ⟨w.heap.size+1+1,j,none⟩=false:=aDa hc4
          clear hown hg hat W3 G3 hc4)
        |(go_at_call 19
          refine (H1.out _ _ _ _ _ _ _ GR.out).mono ?_
          rintro e W1 ⟨r0,r1,r2,r3,r4,r5,r6,r7,r8,r9,r10,r11,r12,r13,rfl,⟨or0,or1,or2,or3,or4,or5,or6,or7,or8,or9,a5P,a5Q,a5R,a5S⟩,hb,hg⟩
          have g1:=hd (gR.out.trans hb)
          have G1x:=hd hg
          have s1:P14 W1 wr.heap.size k0 k1 k2 k3 k4 k5 k6 k7 k8 k9 k10 k11 k12 k13:=P14.keep sR hb (by simp)
          have bHP:W1.cell? ⟨w.heap.size+1+1,13,none⟩=some kv:=hb.cell bHO (by simp)
          have a5O:=hd (aAr a82.out hb)
          have ca1:∀o,(W1.alloc o).cell? ⟨w.heap.size+1+1,13,none⟩=some kv:=fun o=>kA bHP o
          clear hb hg))
     all_goals
      obtain ⟨q1,q2,q3,q4,q5,q6,q7,q8⟩:=q.out
      have hSX:=HSw.out
      have HI5:=hd (PI.next (W:=W4) (cb:=w.heap.size+1+1) (cc:=fun kv=>#[c0,c1,c2,.slice ga nn gc,c4,c5,c6,c7,d0,d1,d2,d3,.slice pa qn pc,kv]) (i:=13) (G:=G2 (.slice ga nn gc) [d0,d1,d2,d3] (.slice pa qn pc) pxs) (k':=k+1) (by omega) q1 q2 q3 q4 q5 q6 q7 g4.out a1x.out rfl (a8X.out _ _ _ _ _ _ _ _ _ _ _ G4.out (by dsimp only;omega) (by dsimp only;omega)))
      clear q1 q2 q3 q4 q5 q6 q7 q8 hSX q G4 g4 a1x s4 F4 bK0 G1x g1 s1 bHP a5O ca1 sR GR gR a82 bHO hnn a83 HI2
      generalize W4.setCell ⟨w.heap.size+1+1,13,none⟩ (.slice a4 (k+1) m4)=W5 at*
      go_wp2
      exact ⟨⟨k+1,by omega,by go_num,HI5⟩,by simp[intOf];omega⟩
    ·obtain rfl:kn=k:=by omega
     obtain ⟨kv,kxs,q1,q2,q3,q4,q5,q6,q7,q8⟩:=HR.out
     obtain ⟨va,vc,rfl⟩:=aKR q2
     have hSX:=HSw.out
     have HRw:wr.heap[w.heap.size+1]? =some (.cells #[Value.int IntKind.i64 0,Value.string {data:=#[]},Value.string {data:=#[]},Value.slice none 0 0,Value.int IntKind.i64 0,Value.int IntKind.i64 0,Value.int IntKind.i64 0,Value.int IntKind.u8 0,Value.int IntKind.i64 0,Value.int IntKind.i64 0,Value.string {data:=#[]},Value.slice none 0 0,Value.slice none 0 0,Value.slice none 0 0] 29 (0,0)):=(q7 _ (by omega) (by omega)).trans HRw.out
     have hl2:decide ((kn:Int)<(kn:Int))=false:=by simp
     have HB:=hd (show Below w.heap.size w wr from ⟨q3.trans HBw.out.os,q4.trans HBw.out.tape,q5.trans HBw.out.output,Nat.le_trans HBw.out.size q6,fun j hj=>(q7 j (by omega) (by omega)).trans (HBw.out.block j hj)⟩)
     have Z0:=cell_of HRw 0 _ rfl;have Z1:=cell_of HRw 1 _ rfl;have Z2:=cell_of HRw 2 _ rfl;have Z3:=cell_of HRw 3 _ rfl;have Z4:=cell_of HRw 4 _ rfl;have Z5:=cell_of HRw 5 _ rfl;have Z6:=cell_of HRw 6 _ rfl;have Z7:=cell_of HRw 7 _ rfl;have Z8:=cell_of HRw 8 _ rfl;have Z9:=cell_of HRw 9 _ rfl;have Z10:=cell_of HRw 10 _ rfl;have Z11:=cell_of HRw 11 _ rfl;have Z12:=cell_of HRw 12 _ rfl;have Z13:=cell_of HRw 13 _ rfl
     have V0:=cell_of q1 0 _ rfl;have V1:=cell_of q1 1 _ rfl;have V2:=cell_of q1 2 _ rfl;have V3:=cell_of q1 3 _ rfl;have V4:=cell_of q1 4 _ rfl;have V5:=cell_of q1 5 _ rfl;have V6:=cell_of q1 6 _ rfl;have V7:=cell_of q1 7 _ rfl;have V8:=cell_of q1 8 _ rfl;have V9:=cell_of q1 9 _ rfl;have V10:=cell_of q1 10 _ rfl;have V11:=cell_of q1 11 _ rfl;have V12:=cell_of q1 12 _ rfl;have V13:=cell_of q1 13 _ rfl
     have F0:∀j,wr.frozen? ⟨w.heap.size+1,j,none⟩=false:=aDa HRw
     have q2:=hd q2
     have q8:=hd q8
     have hSX:=hd hSX
     clear q1 q3 q4 q5 q6 q7 HRw HR HI2 HBw HSw HLw hK bHv a8W
     have tc0:=sT oc0
     have tc1:=sT oc1
     have tc2:=sT oc2
     have tc4:=sT oc4
     have tc5:=sT oc5
     have tc6:=sT oc6
     have tc7:=sT oc7
     have tc8:=sT oc8
     have tc9:=sT oc9
     have a8Y:=sT a1v
     have a8Z:=sT a1w
     have td0:=sT od0
     have td1:=sT od1
     have td2:=sT od2
     have td3:=sT od3
     go_wp2
     refine bodyPost_ret (by simp[results,Tryz.f19,go_sem,Z0,Z1,Z2,Z3,Z4,Z5,Z6,Z7,Z8,Z9,Z10,Z11,Z12,Z13];try rfl) rfl ?_
     obtain ⟨b1,b2,b3,b4⟩:=jK (w.heap.size+1) [c0,c1,c2,.slice ga nn gc,c4,c5,c6,c7,d0,d1,d2,d3,.slice pa qn pc,.slice va kn vc] wr 0
     have hs:=hSX.out
     refine ⟨_,_,_,_,_,_,pxs,_,rfl,⟨od0,od1,od2,od3⟩, ?_,kxs,Y.heap.size,hs, ?_, ?_⟩
     ·change Below w.heap.size w (xL wr (w.heap.size+1) 0 [c0,c1,c2,.slice ga nn gc,c4,c5,c6,c7,d0,d1,d2,d3,.slice pa qn pc,.slice va kn vc])
      exact ⟨b1.trans HB.out.os,b2.trans HB.out.tape,b3.trans HB.out.output,by rw[b4];exact HB.out.size,fun j hj=>(qG (by omega) _ wr 0).trans (HB.out.block j hj)⟩
     ·change (xL wr (w.heap.size+1) 0 [c0,c1,c2,.slice ga nn gc,c4,c5,c6,c7,d0,d1,d2,d3,.slice pa qn pc,.slice va kn vc]).ownsRow Y.heap.size 29 14 (.slice va kn vc) kn kxs
      exact aN6 (Pd:=fun W=>W.ownsRow Y.heap.size 29 14 (.slice va kn vc) kn kxs) (fun W o u h=>aEM h (by show w.heap.size+1<_;omega)) _ _ _ q2.out
     ·change G2 (.slice ga nn gc) [d0,d1,d2,d3] (.slice pa qn pc) pxs kn (xL wr (w.heap.size+1) 0 [c0,c1,c2,.slice ga nn gc,c4,c5,c6,c7,d0,d1,d2,d3,.slice pa qn pc,.slice va kn vc]) (.slice va kn vc) kxs []
      exact aN6 (Pd:=fun W=>G2 (.slice ga nn gc) [d0,d1,d2,d3] (.slice pa qn pc) pxs kn W (.slice va kn vc) kxs []) (fun W o u h=>a8X.out _ _ _ _ _ _ _ _ _ _ _ h (by show _≤w.heap.size+1;omega) (by show w.heap.size+1<_;omega)) _ _ _ q8.out
end Go.Proofs.Nrm
