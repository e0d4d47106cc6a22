/-
  The library's builder of strings, at this program: writing one byte and writing a string, with a
  word on every block that is neither the builder's own nor its row's.
-/
import Derived.Test.YtfonaepdedbhhaaGreatDoorZSh
import Derived.Maps.AppendAt
import Derived.WalkKit
import Derived.BigCall
import Derived.BigGuard
import Derived.Test.YtfonaepdedbhhaaGreatDoorZQ
import Derived.Lib.ConvBytes
set_option linter.all false
set_option maxRecDepth 100000
namespace Go.Proofs.Bld
open Go.RowKit Go.Shelf
structure Has (B b:Nat) (p v:Value) (bs:List Value) (w:World):Prop where
 le:B≤b
 blk:w.heap[b]? =some (.cells #[p,v] 55 (0,0))
 own:w.ownsRow B 5 1 v bs.length bs
 ne:v.ownBlock≠some b
abbrev At (B b:Nat) (v:Value) (bs:List Value) (w:World):Prop:=Has B b (.pointer (some ⟨b,0,none⟩)) v bs w
structure Kept (b:Nat) (v v':Value) (w w':World):Prop where
 size:w.heap.size≤w'.heap.size
 block:∀k,k<w.heap.size→k≠b→v.ownBlock≠some k→w'.heap[k]? =w.heap[k]?
 own:v'.ownBlock=v.ownBlock∨∃k,v'.ownBlock=some k∧w.heap.size≤k
theorem Has.lt {B b:Nat} {p v:Value} {bs:List Value} {w:World} (h:Has B b p v bs w):b<w.heap.size:=by
 rcases Nat.lt_or_ge b w.heap.size with h' |h'
 ·exact h'
 ·have:=h.blk;simp[Array.getElem?_eq_none h']at this
theorem Has.is {B b:Nat} {v:Value} {bs:List Value} {w:World} (h:At B b v bs w):Lib.IsBuilder 55 5 B b bs w:=
 Or.inr ⟨h.le,v,h.blk,h.own,h.ne⟩
section
variable {P:Program} (w:World)
theorem aVz (base:Nat) (t u ty e:TypeId) (i:TypeInfo) (ht:P.underlying t=some (.slice e)) (hu:P.underlying u=some .string) (hi:P.info? e=some i) (hz:i.zero=some (.int .u8 0))
 (hsize:i.size=1) (hby:i.bytes=1) (v:Value) (n:Nat) (xs:List Value) (hn:0<n) (hown:w.ownsRow base e 1 v n xs) (s:ByteArray)
 (hbytes:n+s.size≤140737488355328) (hbase:base≤w.heap.size):
 ∃v' w',(Builtin.append_ #[t,u] ty #[v, .string s]).run P w= .ok v' w'∧w'.ownsRow base e 1 v' (n+s.size) (xs++Lib.strCells s)∧w.grownBy w' v.ownBlock∧
  (v'.ownBlock=v.ownBlock∨v'.ownBlock=some w.heap.size):=by
 obtain ⟨v',w',hr,h1,h2,_⟩:=Lib.run_append_own_string (P:=P) w base t u ty e i ht hu hi hz hsize hby v n xs hown s (by unfold maxLen;omega) hbytes hbase
 refine ⟨v',w',hr,h1,h2, ?_⟩
 have hxl:xs.length=n:=by simpa using hown.1
 rcases hown.2 with ⟨_,h0⟩|⟨g,cap,cur,rfl,hbg,hg,hnc,hcm,hcs,bAu⟩
 ·omega
 ·by_cases hroom:n+s.size≤cap
  ·have bB5:cur.size=cap:=by simpa using hcs
   have hr':=Lib.run_append_room_string (P:=P) w t u ty e i ht hu hi hsize g n cap cur hg s hroom (by omega)
   rw[hr]at hr'
   injection hr' with e1 _
   subst e1
   exact Or.inl rfl
  ·have holds:∀j u,xs[j]? =some u→w.cell? ((⟨g,0,none⟩:Addr).add j)=some u:=hown.cells (g:=g) rfl
   have hr':=Lib.run_append_grow_string (P:=P) w t u ty e i (.int .u8 0) ht hu hi hz ⟨g,0,none⟩ n cap xs (by rw[hsize];simpa using hxl) holds s (by omega) (by omega) (by rw[hby];exact growslice_fits (by omega) (by omega))
   rw[hr]at hr'
   injection hr' with e1 _
   subst e1
   exact Or.inr rfl
theorem aQP {ops:Array Oper} {rest:List Oper} {o:Oper} {a:Act} {Q:Exit→Act→World→Prop} (hgd:o.guard=none) (sl x:Operand) (t u:TypeId)
 (ho:o.op= .call {callee:= .builtin .append,args:=#[sl,x],argTypes:=#[t,u]})
 (base:Nat) (e:TypeId) (i:TypeInfo) (ht:P.underlying t=some (.slice e)) (hu:P.underlying u=some .string) (hi:P.info? e=some i) (hz:i.zero=some (.int .u8 0))
 (hsize:i.size=1) (hby:i.bytes=1)
 (v:Value) (n:Nat) (xs:List Value) (hn:0<n) (hs:a.eval sl=v) (hown:w.ownsRow base e 1 v n xs) (s:ByteArray) (hx:a.eval x= .string s)
 (hbytes:n+s.size≤140737488355328) (hbase:base≤w.heap.size)
 (h:∀v' w',w'.ownsRow base e 1 v' (n+s.size) (xs++Lib.strCells s)→w.grownBy w' v.ownBlock→(v'.ownBlock=v.ownBlock∨v'.ownBlock=some w.heap.size)→wpList P ops Q rest (a.put o.dst v') w'):wpList P ops Q (o::rest) a w:=by
 refine wpList_plain hgd fun K hK=> ?_
 obtain ⟨v',w',hr,h2,h3,h4⟩:=aVz (P:=P) w base t u o.type e i ht hu hi hz hsize hby v n xs hn hown s hbytes hbase
 unfold Oper.wp execOp
 simp only[ho,resolve,invoke,builtin,Sem.run_bind,Sem.run_pure,Result.andThen_ok,List.map_toArray,List.map_cons,List.map_nil,hs,hx,hr]
 exact hK _ _ (h v' w' h2 h3 h4)
end
theorem Has.cell0 {B b:Nat} {p v:Value} {bs:List Value} {w:World} (h:Has B b p v bs w):w.cell? ⟨b,0,none⟩=some p:=by
 simp[World.cell?,h.blk]
theorem Has.aRu {B b:Nat} {p v:Value} {bs:List Value} {w:World} (h:Has B b p v bs w):w.cell? ⟨b,1,none⟩=some v:=by
 simp[World.cell?,h.blk]
theorem Has.put {B b:Nat} {v v':Value} {bs bs':List Value} {w w2:World} (h:At B b v bs w) (w1:World) (hsz:w.heap.size≤w1.heap.size) (h1:∀k,k<w.heap.size→w1.heap[k]? =w.heap[k]?)
 (hg:w1.grownBy w2 v.ownBlock) (ho:w2.ownsRow B 5 1 v' bs'.length bs') (hat:v'.ownBlock=v.ownBlock∨v'.ownBlock=some w1.heap.size):
 At B b v' bs' (w2.setCell ⟨b,1,none⟩ v')∧Kept b v v' w (w2.setCell ⟨b,1,none⟩ v'):=by
 have hlt:=h.lt
 have hb2:w2.heap[b]? =some (.cells #[.pointer (some ⟨b,0,none⟩),v] 55 (0,0)):=by
  rw[hg.block b (by omega) (fun e=>h.ne e.symm),h1 b hlt];exact h.blk
 obtain ⟨q1,v2,q2,q3,q4⟩:=Lib.BuilderAt.put (T:=55) (e:=5) h.le hb2 (bs':=bs') ho (by decide)
 have hv:v2=v':=by
  have:(w2.setCell ⟨b,1,none⟩ v').heap[b]? =some (.cells #[.pointer (some ⟨b,0,none⟩),v'] 55 (0,0)):=by
   simp[World.setCell,Array.getElem?_modify,hb2]
  rw[this]at q2
  simp at q2
  exact q2.symm
 subst hv
 refine ⟨⟨q1,q2,q3,q4⟩, ?_, ?_, ?_⟩
 ·have:=hg.size;simp[World.setCell];omega
 ·intro k hk hkb hkv
  rw[Below.heap_setCell _ _ _ _ (fun e=>hkb (by simp[e])),hg.block k (by omega) (fun e=>hkv e.symm),h1 k hk]
 ·rcases hat with e |e
  ·exact Or.inl e
  ·exact Or.inr ⟨_,e,hsz⟩
theorem Has.frozen0 {B b:Nat} {p v:Value} {bs:List Value} {w:World} (h:Has B b p v bs w):w.frozen? ⟨b,0,none⟩=false:=by
 simp[World.frozen?,h.blk]
theorem aR5 (B b:Nat) (p v:Value) (bs:List Value) (w:World) (h:Has B b p v bs w) (hp:p= .pointer none∨p= .pointer (some ⟨b,0,none⟩)):
 Calls Tryz.prog 43 #[.pointer (some ⟨b,0,none⟩)] w fun e w'=>e= .returned (.tuple #[])∧At B b v bs w'∧Kept b v v w w'∧Below B w w':=by
 rcases hp with rfl |rfl
 ·refine (Any.Builder_copyCheck_fresh {Tryz.aPe with} Tryz.pK.toX72 b w h.cell0 (by simp[World.shape?,h.blk];rfl) h.frozen0).mono ?_
  rintro e w' ⟨rfl,rfl⟩
  obtain ⟨q1,v2,q2,q3,q4⟩:=Lib.BuilderAt.used (T:=55) (e:=5) (p:= .pointer none) (bs:=bs) ⟨h.le,v,h.blk,h.own,h.ne⟩ (.pointer (some ⟨b,0,none⟩))
  have hv:v2=v:=by
   have:(w.setCell ⟨b,0,none⟩ (.pointer (some ⟨b,0,none⟩))).heap[b]? =some (.cells #[.pointer (some ⟨b,0,none⟩),v] 55 (0,0)):=by
    simp[World.setCell,Array.getElem?_modify,h.blk]
   rw[this]at q2
   simp at q2
   exact q2.symm
  subst hv
  refine ⟨rfl,⟨q1,q2,q3,q4⟩,⟨by simp[World.setCell],fun k hk hkb _=> ?_,Or.inl rfl⟩,(Below.refl B w).setCell (p:=⟨b,0,none⟩) h.le _⟩
  rw[Below.heap_setCell _ _ _ _ (fun e=>hkb (by simp[e]))]
 ·refine (Any.Builder_copyCheck_used {Tryz.aPe with} Tryz.pK.toX72 b w h.cell0).mono ?_
  rintro e w' ⟨rfl,rfl⟩
  exact ⟨rfl,h,⟨Nat.le_refl _,fun _ _ _ _=>rfl,Or.inl rfl⟩,Below.refl B _⟩
theorem Kept.after {b:Nat} {v v':Value} {w w1 w':World} (h:Kept b v v w w1) (k:Kept b v v' w1 w'):Kept b v v' w w':=by
 refine ⟨Nat.le_trans h.size k.size,fun j hj hb hv=>(k.block j (Nat.lt_of_lt_of_le hj h.size) hb hv).trans (h.block j hj hb hv), ?_⟩
 rcases k.own with e |⟨j,e,hj⟩
 ·exact Or.inl e
 ·exact Or.inr ⟨j,e,Nat.le_trans h.size hj⟩
set_option maxHeartbeats 2000000 in
set_option maxRecDepth 100000 in
theorem aR6 (B b:Nat) (p v:Value) (bs:List Value) (c:Int) (w:World) (h0:Has B b p v bs w) (hp:p= .pointer none∨p= .pointer (some ⟨b,0,none⟩)) (hlen:bs.length+1≤140737488355328) (hBw:B≤w.heap.size):
 Calls Tryz.prog 48 #[.pointer (some ⟨b,0,none⟩), .int .u8 c] w fun e w'=>e= .returned .nilIface∧(∃v',At B b v' (bs++[.int .u8 c]) w'∧Kept b v v' w w')∧Below B w w':=by
 obtain ⟨i0,hi,hz0,hz1,hz2⟩:=info_parts Tryz.pK.infoByte
 go_enter Tryz.func48,Tryz.ntmps48
 go_wp2_with (go_at_call 43;refine (aR5 B b p v bs _ h0 hp).mono ?_)
 rintro e w1 ⟨rfl,h,hk1,hb1⟩
 have a03:=Nat.le_trans hBw hb1.size
 have c0:=h.cell0
 have c1:=h.aRu
 go_wp2_with (at_builtin;refine wpList_append_own_at _ rfl _ _ 38 rfl B 5 i0 (.int .u8 0) 1 1 Tryz.underlying38 hi hz0 hz1 hz2 rfl (by decide) _ _ _ rfl (h.own.alloc _) ⟨w1.heap.size,0,none⟩ 1 1 [.int .u8 c] rfl rfl ?c1 ?c2 ?c3 ?c4 ?c5 ?_)
 case c1=>
  intro j u hj
  match j,hj with
  |0,hj=>simp at hj;subst hj;simp[Addr.add]
 case c2=>intro u hu;simp at hu;subst hu;rfl
 case c3=>unfold maxLen;omega
 case c4=>omega
 case c5=>simp;omega
 intro v' w2 aUj hgrow _ hat
 have hlt:=h.lt
 have hb2:w2.heap[b]? =some (.cells #[.pointer (some ⟨b,0,none⟩),v] 55 (0,0)):=by
  rw[hgrow.block b (by simp;omega) (fun e=>h.ne e.symm),Lib.alloc_old w1 _ b hlt]
  exact h.blk
 have d0:w2.cell? ⟨b,0,none⟩=some (.pointer (some ⟨b,0,none⟩)):=by rw[Lib.cell_of_heap hb2];rfl
 have d1:w2.cell? ⟨b,1,none⟩=some v:=by rw[Lib.cell_of_heap hb2];rfl
 have f1:w2.frozen? ⟨b,1,none⟩=false:=Lib.frozen_of_heap hb2 1
 obtain ⟨g,cap,rfl⟩:∃g cap,v'= .slice (some ⟨g,0,none⟩) (bs.length+1) cap:=by
  rcases aUj.2 with ⟨_,h0⟩|⟨g,cap,cur,hv,_⟩
  ·omega
  ·exact ⟨g,cap,hv⟩
 go_wp2
 go_ret
 refine ⟨rfl,⟨.slice (some ⟨g,0,none⟩) (bs.length+1) cap,(fun q=>⟨q.1,hk1.after q.2⟩)<|h.put (bs':=bs++[.int .u8 c]) (w1.alloc (.cells #[.int .u8 c] 5)) (by simp) (fun k hk=>Lib.alloc_old w1 _ k hk) hgrow (by simpa using aUj) (by simpa using hat)⟩, ?_⟩
 ·exact ((hb1.alloc a03 _).grown hgrow (by simp;omega) (fun k hk=>(h.own.lt k hk).1)).setCell (p:=⟨b,1,none⟩) h.le _
set_option maxHeartbeats 2000000 in
set_option maxRecDepth 100000 in
theorem writeString (B b:Nat) (p v:Value) (bs:List Value) (s:ByteArray) (w:World) (h0:Has B b p v bs w) (hp:p= .pointer none∨p= .pointer (some ⟨b,0,none⟩)) (hn:0<bs.length) (hlen:bs.length+s.size≤140737488355328) (hBw:B≤w.heap.size):
 Calls Tryz.prog 26 #[.pointer (some ⟨b,0,none⟩), .string s] w fun e w'=>e= .returned (.tuple #[.int .i64 s.size, .nilIface])∧(∃v',At B b v' (bs++Lib.strCells s) w'∧Kept b v v' w w')∧Below B w w':=by
 obtain ⟨i0,hi,hz0,hz1,hz2⟩:=info_parts Tryz.pK.infoByte
 go_enter Tryz.func26,Tryz.ntmps26
 go_wp2_with (go_at_call 43;refine (aR5 B b p v bs _ h0 hp).mono ?_)
 rintro e w1 ⟨rfl,h,hk1,hb1⟩
 have a03:=Nat.le_trans hBw hb1.size
 have c0:=h.cell0
 have c1:=h.aRu
 go_wp2_with (at_builtin;refine aQP _ rfl _ _ 38 9 rfl B 5 i0 Tryz.underlying38 Tryz.underlying9 hi hz0 hz1 hz2 _ _ _ hn rfl h.own s rfl hlen a03 ?_)
 intro v' w2 aUj hgrow hat
 have hlt:=h.lt
 have hb2:w2.heap[b]? =some (.cells #[.pointer (some ⟨b,0,none⟩),v] 55 (0,0)):=by
  rw[hgrow.block b (by omega) (fun e=>h.ne e.symm)]
  exact h.blk
 have d0:w2.cell? ⟨b,0,none⟩=some (.pointer (some ⟨b,0,none⟩)):=by rw[Lib.cell_of_heap hb2];rfl
 have d1:w2.cell? ⟨b,1,none⟩=some v:=by rw[Lib.cell_of_heap hb2];rfl
 have f1:w2.frozen? ⟨b,1,none⟩=false:=Lib.frozen_of_heap hb2 1
 obtain ⟨g,cap,rfl⟩:∃g cap,v'= .slice (some ⟨g,0,none⟩) (bs.length+s.size) cap:=by
  rcases aUj.2 with ⟨_,h0⟩|⟨g,cap,cur,hv,_⟩
  ·omega
  ·exact ⟨g,cap,hv⟩
 go_wp2
 go_ret2
 refine ⟨rfl,⟨.slice (some ⟨g,0,none⟩) (bs.length+s.size) cap,(fun q=>⟨q.1,hk1.after q.2⟩)<|h.put (bs':=bs++Lib.strCells s) w1 (Nat.le_refl _) (fun k _=>rfl) hgrow (by simpa[Lib.strCells_length]using aUj) hat⟩, ?_⟩
 ·exact (hb1.grown hgrow a03 (fun k hk=>(h.own.lt k hk).1)).setCell (p:=⟨b,1,none⟩) h.le _
end Go.Proofs.Bld
namespace Go.Proofs.Bld
open Go.RowKit Go.Shelf
structure Rd (w:World) (h:Nat) (C:Array Value) (s:List UInt8) (i:Nat) (W:World):Prop where
 bld:∃v,At w.heap.size w.heap.size v (Lib.byteCells (34::(s.take i).flatMap qb)) W∧v.ownBlock≠some h
 row:∃e z,W.heap[h]? =some (.cells C e z)
 ne:h≠w.heap.size
 below:Below w.heap.size w W
def Hd (p:Prop):Prop:=p
theorem Hd.out {p:Prop} (h:Hd p):p:=h
theorem hd {p:Prop} (h:p):Hd p:=h
theorem Rd.write {w:World} {h:Nat} {C:Array Value} {s:List UInt8} {i:Nat} {W W':World} (hr:Rd w h C s i W) {v v':Value} {bs:List Value} (hv:W.heap[w.heap.size]? =some (.cells #[.pointer (some ⟨w.heap.size,0,none⟩),v] 55 (0,0)))
 (ha:At w.heap.size w.heap.size v' bs W') (hk:Kept w.heap.size v v' W W') (hb:Below w.heap.size W W') (hbs:bs=Lib.byteCells (34::(s.take (i+1)).flatMap qb)):Rd w h C s (i+1) W':=by
 obtain ⟨⟨v0,a1,a2⟩,⟨e,z,r1⟩,hne,hbl⟩:=hr
 have:v0=v:=by have:=a1.blk.symm.trans hv;simpa using this
 subst this
 subst hbs
 have hlt:h<W.heap.size:=by
  rcases Nat.lt_or_ge h W.heap.size with h' |h'
  ·exact h'
  ·simp[Array.getElem?_eq_none h']at r1
 refine ⟨⟨v',ha, ?_⟩,⟨e,z, ?_⟩,hne,hbl.trans hb⟩
 ·rcases hk.own with q |⟨k,q,hk2⟩
  ·rw[q];exact a2
  ·rw[q];simp;omega
 ·rw[hk.block h hlt hne a2];exact r1
theorem Rd.lt {w:World} {h:Nat} {C:Array Value} {s:List UInt8} {i:Nat} {W:World} (hr:Rd w h C s i W):h<W.heap.size:=by
 obtain ⟨e,z,r1⟩:=hr.row
 rcases Nat.lt_or_ge h W.heap.size with h' |h'
 ·exact h'
 ·simp[Array.getElem?_eq_none h']at r1
theorem Rd.after {w:World} {h:Nat} {C:Array Value} {s:List UInt8} {i:Nat} {W W':World} (hr:Rd w h C s i W) (hb:Below W.heap.size W W'):Rd w h C s i W':=by
 have hlt:=hr.lt
 obtain ⟨⟨v,a1,a2⟩,⟨e,z,r1⟩,hne,hbl⟩:=hr
 refine ⟨⟨v,⟨a1.le,by rw[hb.block _ a1.lt];exact a1.blk, ?_,a1.ne⟩,a2⟩,⟨e,z,by rw[hb.block _ hlt];exact r1⟩,hne,hbl.trans (hb.mono hbl.size)⟩
 have ho:=a1.own
 rcases ho.2 with ⟨hv,h0⟩|⟨g,cap,cur,hv,hg1,hg2,hg3⟩
 ·exact ⟨ho.1, .inl ⟨hv,h0⟩⟩
 ·have hgl:=(ho.lt g (by rw[hv];rfl)).2
  exact ⟨ho.1, .inr ⟨g,cap,cur,hv,hg1,by rw[hb.block _ hgl];exact hg2,hg3⟩⟩
theorem aUk (x y:UInt8):((⟨#[92]⟩:ByteArray)++(⟨#[49,x,y]⟩:ByteArray).extract 1 3).data.toList=[92,x,y]:=rfl
theorem aZs (x y:UInt8):((⟨#[92]⟩:ByteArray)++(⟨#[49,x,y]⟩:ByteArray).extract 1 3).size=3:=by
 rw[Lib.size_eq,aUk];rfl
theorem aXH (x y:UInt8):Lib.strCells ((⟨#[92]⟩:ByteArray)++(⟨#[49,x,y]⟩:ByteArray).extract 1 3)=Lib.byteCells [92,x,y]:=by
 rw[Lib.strCells_eq,aUk]
set_option maxHeartbeats 6400000 in
set_option maxRecDepth 100000 in
theorem quote (s:ByteArray) (w:World) (hs:s.size≤4294967296)
 (hF:∀(c:Nat) (W:World),c<256→Below w.heap.size w W→Calls Tryz.prog 49 #[.int .i64 ((c:Int)+256), .int .i64 16] W fun e w'=>e= .returned (.string ⟨(aGX c).toArray⟩)∧Below W.heap.size W w'):
 Calls Tryz.prog 30 #[.string s] w fun e w'=>e= .returned (.string ⟨(cH s.data.toList).toArray⟩)∧Below w.heap.size w w':=by
 have h0:Has w.heap.size w.heap.size (.pointer none) (.slice none 0 0) [] (w.alloc (.cells #[.pointer none, .slice none 0 0] 55)):=
  ⟨Nat.le_refl _,heap_alloc_new _ _,World.ownsRow_nil _ _ _ _,by simp[Value.ownBlock]⟩
 have b0:Below w.heap.size w (w.alloc (.cells #[.pointer none, .slice none 0 0] 55)):=(Below.refl _ w).alloc (Nat.le_refl _) _
 go_enter Tryz.func30,Tryz.ntmps30
 go_wp2_with (go_at_call 48;refine (aR6 w.heap.size w.heap.size _ _ [] 34 _ h0 (Or.inl rfl) (by simp) b0.size).mono ?_)
 rintro e w1 ⟨rfl,⟨v1,h1, -⟩,b1⟩
 have b1':=b0.trans b1
 have hcv:=Lib.run_convert_string_bytes (P:=Tryz.prog) w1 9 38 5 s (u:= .string) Tryz.underlying9 Tryz.underlying38 Tryz.underlying5
 have hrow:=Lib.bytesWorld_at_new w1 5 s
 have hold:=Lib.bytesWorld_at_old w1 5 s
 have hcell:=Lib.bytesWorld_cell w1 5 s
 have hsz:=Lib.bytesWorld_size w1 5 s
 have R0:Rd w w1.heap.size (Lib.bytesCells w1 5 s) s.data.toList 0 (Lib.bytesWorld w1 5 s):=by
  have hlt:=h1.lt
  refine ⟨⟨v1, ?_, ?_⟩,⟨_,_,hrow⟩,by omega,b1'.trans ⟨rfl,rfl,rfl,by omega,fun k hk=>hold k (by omega)⟩⟩
  ·refine ⟨h1.le,by rw[hold _ hlt];exact h1.blk, ?_,h1.ne⟩
   have ho:=h1.own
   rcases ho.2 with ⟨hv,h0⟩|⟨g,cap,cur,hv,hg1,hg2,hg3⟩
   ·simp at h0
   ·have hgl:=(ho.lt g (by rw[hv];rfl)).2
    exact ⟨ho.1, .inr ⟨g,cap,cur,hv,hg1,by rw[hold _ hgl];exact hg2,hg3⟩⟩
  ·intro hh
   exact absurd (h1.own.lt _ hh).2 (Nat.lt_irrefl _)
 generalize hC:Lib.bytesCells w1 5 s=C at R0
 have a9h:∀j,j<s.size→C[j]? =some (.int .u8 (s.data.toList.getD j 0).toNat):=fun j hj=>by
  have:=hcell j hj
  simpa[World.cell?,hrow,hC]using this
 generalize Lib.bytesWorld w1 5 s=W1 at hcv R0
 have R0':=hd R0
 clear R0 hcell hold hrow hsz
 have Hl:=hd (Lib.size_eq s)
 go_wp2
 go_loopw [11] (fun i wr=>∃k:Nat,k≤s.size∧i= .int .i64 k∧Hd (Rd w w1.heap.size C s.data.toList k wr)) (fun i _=>s.size - (intOf i).toNat)
 case atStart=>exact ⟨0,Nat.zero_le _,rfl,R0'⟩
 case round=>
  obtain ⟨k,hk,rfl,HR⟩:=hrel
  by_cases hlt:k<s.size
  ·obtain ⟨c,hc⟩:∃c,c=s.data.toList.getD k 0:=⟨_,rfl⟩
   obtain ⟨n,hn⟩:∃n:Nat,n=c.toNat:=⟨_,rfl⟩
   have hcell:wr.cell? ⟨w1.heap.size,k,none⟩=some (.int .u8 n):=by
    obtain ⟨e,z,q⟩:=HR.out.row
    rw[Lib.cell_of_heap q,a9h k hlt,hn,hc]
   obtain ⟨v,hA, -⟩:=HR.out.bld
   have hA':=hd hA
   have aQE:=hd hA.blk
   have hBw:w.heap.size≤wr.heap.size:=HR.out.below.size
   have hlen:(Lib.byteCells (34::(s.data.toList.take k).flatMap qb)).length≤1+3*k:=by
    rw[Lib.byteCells_length,List.length_cons]
    have:=aDo (s.data.toList.take k)
    have hl:=Hl.out
    rw[List.length_take]at this
    omega
   have hpos:0<(Lib.byteCells (34::(s.data.toList.take k).flatMap qb)).length:=by
    rw[Lib.byteCells_length,List.length_cons];omega
   have hnext:∀u,u=qb c→34::(s.data.toList.take k).flatMap qb++u=34::(s.data.toList.take (k+1)).flatMap qb:=by
    intro u hu
    have hk2:k<s.data.toList.length:=by have:=Hl.out;omega
    rw[List.take_succ,List.flatMap_append,hu,hc]
    simp[List.getD_eq_getElem?_getD,List.getElem?_eq_getElem hk2]
   have a54:n<256:=by rw[hn];exact c.toNat_lt
   have HN:=hd hnext
   have HL:=hd hlen
   have HP:=hd hpos
   have HC:=hd hc
   have HM:=hd hn
   clear hA hlen hpos hnext hc hn
   by_cases hp:32<n∧n<127∧n≠34∧n≠92
   ·obtain ⟨p1,p2,p3,p4⟩:=hp
    have hq:qb c=[c]:=by unfold qb;rw[if_pos];rw[←HM.out];exact ⟨p1,p2,p3,p4⟩
    have a55:[Value.int .u8 (n:Int)]=Lib.byteCells (qb c):=by rw[hq,HM.out];rfl
    have a9i:=hd a55
    have p5:((n:Int) !=34)=true:=by simp;omega
    have p6:((n:Int) !=92)=true:=by simp;omega
    clear hq a55
    go_wp2_with fail
    refine (aR6 w.heap.size w.heap.size _ v _ n wr hA'.out (Or.inr rfl) (by have:=HL.out;omega) hBw).mono ?_
    rintro e W2 ⟨rfl,⟨v2,h2,k2⟩,b2⟩
    have R2:=hd (HR.out.write aQE.out h2 k2 b2 (by rw[a9i.out,←Lib.byteCells_append];exact congrArg Lib.byteCells (HN.out _ rfl)))
    clear h2 k2 b2
    go_wp2
    exact ⟨⟨k+1,by omega,by go_num,R2⟩,by simp[intOf];omega⟩
   ·have hq:qb c=92::(aGX n).drop 1:=by unfold qb;rw[if_neg,HM.out];rw[←HM.out];exact hp
    obtain ⟨x,hx⟩:∃x,x=fZ (n/16):=⟨_,rfl⟩
    obtain ⟨y,hy⟩:∃y,y=fZ (n % 16):=⟨_,rfl⟩
    have hF1:=hF n wr a54 HR.out.below
    have hxy:aGX n=[49,x,y]:=by rw[hx,hy];rfl
    rw[hxy]at hF1 hq
    have HF:=hd hF1
    have Hq:=hd hq
    clear hq hF1 hxy hx hy
    have a56:n≤32∨(32<n∧127≤n)∨n=34∨n=92:=by omega
    clear hp
    rcases a56 with q1 |⟨q1,q2⟩|rfl |rfl
    all_goals
     go_wp2_with fail
     refine HF.out.mono ?_
     rintro e W2 ⟨rfl,b2⟩
     go_wp2_with fail
     have R1:=HR.out.after b2
     obtain ⟨v1,hA1, -⟩:=R1.bld
     refine (writeString w.heap.size w.heap.size _ v1 _ _ W2 hA1 (Or.inr rfl) HP.out (by have:=HL.out;rw[aZs];omega) R1.below.size).mono ?_
     rintro e W3 ⟨rfl,⟨v3,h3,k3⟩,b3⟩
     have R2:=hd (R1.write hA1.blk h3 k3 b3 (by rw[aXH,←Lib.byteCells_append];exact congrArg Lib.byteCells (HN.out _ Hq.out.symm)))
     clear h3 k3 b3 hA1 R1 b2
     go_wp2
     exact ⟨⟨k+1,by omega,by go_num,R2⟩,by simp[intOf];omega⟩
  ·have hke:k=s.size:=by omega
   subst hke
   have R1:=HR.out
   obtain ⟨v,hA, -⟩:=R1.bld
   have hfull:s.data.toList.take s.size=s.data.toList:=List.take_of_length_le (by have:=Hl.out;omega)
   rw[hfull]at hA
   obtain ⟨L,hL⟩:∃L,L=34::s.data.toList.flatMap qb:=⟨_,rfl⟩
   rw[←hL]at hA
   have hLn:L.length≤1+3*s.size:=by
    rw[hL,List.length_cons]
    have:=aDo s.data.toList
    have:=Hl.out
    omega
   have hbig:¬9223372036854775807<L.length+1:=by omega
   have HA:=hd hA
   have HW:=hd R1.below
   have HL:=hd hL
   clear R1 hA hfull hL hLn
   go_wp2_with fail
   refine (Tryz.Builder_String_any w.heap.size w.heap.size _ wr HA.out.is HW.out.size).mono ?_
   rintro e W5 ⟨rfl,hb5⟩
   have Hb5:=hd (HW.out.trans hb5)
   clear hb5
   go_wp2
   go_ret
   refine ⟨?_,Hb5.out⟩
   rw[HL.out]
   congr 2
end Go.Proofs.Bld
