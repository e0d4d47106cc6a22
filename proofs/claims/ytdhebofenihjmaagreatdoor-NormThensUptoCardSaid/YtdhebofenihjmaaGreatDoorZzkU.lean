/-
  norm.use, walked: one kid is replaced.
-/
import Derived.Test.YtdhebofenihjmaaGreatDoorProg
import Derived.WalkKit
import Derived.BigCall
import Derived.BigGuard
import Derived.Deep.RegionHeld3
import Derived.Lib.ConvBytes
set_option linter.all false
namespace Go.Proofs.Nrm
open Go.RowKit
def Hd (p:Prop):Prop:=p
theorem hd {p:Prop} (h:p):Hd p:=h
theorem Hd.out {p:Prop} (h:Hd p):p:=h
theorem sT {v:Value} (o:v.oneCell'=true):∀(w:World) (a:Addr) (m:Mode),(store a v m).run Tryz.prog w=stored Tryz.prog w a v m:=fun w a m=>run_store Tryz.prog w a v m o
theorem kA {w:World} {a:Addr} {u:Value} (h:w.cell? a=some u) (o:Obj):(w.alloc o).cell? a=some u:=by
 have hlt:=World.block_lt_of_cell? w a h
 rw[World.cell?_of_block (w:=w)]
 ·exact h
 ·exact heap_alloc_old w o hlt
theorem qB {w:World} {a a':Addr} {u v:Value} (h:w.cell? a=some u) (hne:a'.block≠a.block):(w.setCell a' v).cell? a=some u:=by
 have hn:a'≠a:=fun e=>hne (congrArg Addr.block e)
 rw[World.cell?_setCell_other (h:=hn)];exact h
theorem fC (w:World) (c:Array Value) (t:TypeId) (n j:Nat) (hn:n=w.heap.size):(w.alloc (.cells c t)).cell? ⟨n,j,none⟩=c[j]? :=World.cell?_alloc_at c t n j hn
theorem vA {W W':World} {Bi:Nat→Prop} {a:Addr} {x:Value} (hfr:∀k,k<W.heap.size→¬Bi k→W'.heap[k]? =W.heap[k]?) (hb:¬Bi a.block) (h:W.cell? a=some x):W'.cell? a=some x:=(World.cell?_of_block (hfr _ (World.block_lt_of_cell? W a h) hb)).trans h
theorem a5Y {W W':World} {Bi:Nat→Prop} {k:Nat} {c:Array Value} {t:TypeId} (hfr:∀k,k<W.heap.size→¬Bi k→W'.heap[k]? =W.heap[k]?) (hb:¬Bi k) (h:W.heap[k]? =some (.cells c t (0,0))) (j:Nat):W'.frozen? ⟨k,j,none⟩=false:=by
 have hk:k<W.heap.size:=by
  rcases Nat.lt_or_ge k W.heap.size with h' |h'
  ·exact h'
  ·simp[Array.getElem?_eq_none h']at h
 have:=(hfr k hk hb).trans h
 simp[World.frozen?,this]
def xL (w:World) (g:Nat):Nat→List Value→World
 |_,[]=>w
 |o,v::vs=>xL (w.setCell ⟨g,o,none⟩ v) g (o+1) vs
theorem aJZ {w:World} {g o:Nat} {cur:Array Value} {t:TypeId} (v:Value) (h:w.heap[g]? =some (.cells cur t (0,0))):(w.setCell ⟨g,o,none⟩ v).heap[g]? =some (.cells (cur.setIfInBounds o v) t (0,0)):=by
 rw[setCell_eq_setRow w g o cur t (0,0) v h];exact setRow_heap w g cur _ t _ h
theorem aGZ {w:World} {g o k:Nat} (v:Value) (h:k≠g):(w.setCell ⟨g,o,none⟩ v).heap[k]? =w.heap[k]? :=by
 simp only[World.setCell,Array.getElem?_modify]
 rw[if_neg (fun e=>h e.symm)]
theorem qG {g k:Nat} (h:k≠g):∀(vs:List Value) (w:World) (o:Nat),(xL w g o vs).heap[k]? =w.heap[k]?
 |[],_,_=>rfl
 |v::vs,w,o=>by rw[xL,qG h vs];exact aGZ v h
theorem jK (g:Nat):∀(vs:List Value) (w:World) (o:Nat),(xL w g o vs).os=w.os∧(xL w g o vs).tape=w.tape∧(xL w g o vs).output=w.output∧(xL w g o vs).heap.size=w.heap.size
 |[],_,_=>⟨rfl,rfl,rfl,rfl⟩
 |v::vs,w,o=>by
  obtain ⟨a,b,c,d⟩:=jK g vs (w.setCell ⟨g,o,none⟩ v) (o+1)
  exact ⟨a,b,c,d.trans (by simp[World.setCell])⟩
theorem aG0 {g:Nat} {t:TypeId}:∀(vs:List Value) (w:World) (o:Nat) (cur:Array Value),w.heap[g]? =some (.cells cur t (0,0))→o+vs.length≤cur.size→
 (xL w g o vs).heap[g]? =some (.cells (cur.toList.take o++vs++cur.toList.drop (o+vs.length)).toArray t (0,0))
 |[],w,o,cur,h,_=>by simp[xL,h]
 |v::vs,w,o,cur,h,hl=>by
  rw[xL]
  rw[aG0 vs _ (o+1) _ (aJZ v h) (by simp at hl⊢;omega)]
  congr 3
  simp only[Array.toList_setIfInBounds]
  have e:=list_seg_step cur.toList o v vs (by simp at hl⊢;omega)
  simpa[Nat.add_assoc,Nat.add_comm 1]using e
theorem aTl {g:Nat} {vs:List Value} {w:World} {o:Nat} {a:Addr} {x:Value} (h:a.block≠g) (hx:w.cell? a=some x):(xL w g o vs).cell? a=some x:=
 (World.cell?_of_block (qG h vs w o)).trans hx
theorem aDa {X:World} {k:Nat} {c:Array Value} {t:TypeId} (h:X.heap[k]? =some (.cells c t (0,0))) (j:Nat):X.frozen? ⟨k,j,none⟩=false:=by simp[World.frozen?,h]
theorem cell_of {X:World} {k:Nat} {c:Array Value} {t:TypeId} (h:X.heap[k]? =some (.cells c t (0,0))) (j:Nat) (x:Value) (hx:c[j]? =some x):X.cell? ⟨k,j,none⟩=some x:=by
 simp[World.cell?,h,hx]
structure Pre (W W' X:World) (n0:Nat):Prop where
 os:X.os=W'.os
 tape:X.tape=W'.tape
 output:X.output=W'.output
 size:W'.heap.size≤X.heap.size
 same:∀k,k<W'.heap.size→(k<n0∨W.heap.size≤k)→X.heap[k]? =W'.heap[k]?
structure Aft (W W' w':World) (b o:Nat) (vs:List Value) (n0:Nat):Prop where
 os:w'.os=W'.os
 tape:w'.tape=W'.tape
 output:w'.output=W'.output
 size:W'.heap.size≤w'.heap.size
 same:∀k,k<W'.heap.size→k≠b→(k<n0∨W.heap.size≤k)→w'.heap[k]? =W'.heap[k]?
 blk:∀cur t,W'.heap[b]? =some (.cells cur t (0,0))→o+vs.length≤cur.size→w'.heap[b]? =some (.cells (cur.toList.take o++vs++cur.toList.drop (o+vs.length)).toArray t (0,0))
theorem Pre.aft {W W' X:World} {n0 b o g:Nat} (h:Pre W W' X n0) (hb:b<n0) (hbW:b<W'.heap.size) (hg0:n0≤g) (hg1:g<W.heap.size) (vs us:List Value):Aft W W' (xL (xL X b o vs) g 0 us) b o vs n0:=by
 obtain ⟨a1,a2,a3,a4⟩:=jK g us (xL X b o vs) 0
 obtain ⟨b1,b2,b3,b4⟩:=jK b vs X o
 refine ⟨a1.trans (b1.trans h.os),a2.trans (b2.trans h.tape),a3.trans (b3.trans h.output),by rw[a4,b4];exact h.size,fun k hk hkb hkn=> ?_,fun cur t hc hl=> ?_⟩
 ·rw[qG (by omega),qG hkb];exact h.same k hk hkn
 ·rw[qG (by omega)]
  exact aG0 vs X o cur ((h.same b hbW (.inl hb)).trans hc) hl
theorem Pre.alloc (W W':World) (n0:Nat) (o:Obj):Pre W W' (W'.alloc o) n0:=⟨rfl,rfl,rfl,by simp,fun k hk _=>heap_alloc_old W' o hk⟩
theorem Pre.set {W W':World} {n0 g:Nat} (hg0:n0≤g) (hg1:g<W.heap.size) (vs:List Value):Pre W W' (xL W' g 0 vs) n0:=by
 obtain ⟨b1,b2,b3,b4⟩:=jK g vs W' 0
 exact ⟨b1,b2,b3,by rw[b4];exact Nat.le_refl _,fun k _ hk=>qG (by omega) vs W' 0⟩
theorem three (w:World) (A B C:Array Value) (t u v:TypeId):∃W,W=((w.alloc (.cells A t)).alloc (.cells B u)).alloc (.cells C v)∧
 (∀j x,A[j]? =some x→W.cell? ⟨w.heap.size,j,none⟩=some x)∧(∀j x,B[j]? =some x→W.cell? ⟨w.heap.size+1,j,none⟩=some x)∧(∀j x,C[j]? =some x→W.cell? ⟨w.heap.size+2,j,none⟩=some x)∧
 W.heap.size=w.heap.size+3∧W.heap[w.heap.size+2]? =some (.cells C v (0,0))∧(∀a x,w.cell? a=some x→W.cell? a=some x)∧Below w.heap.size w W:=by
 refine ⟨_,rfl,fun j x h=> ?_,fun j x h=> ?_,fun j x h=> ?_,by simp, ?_,fun a x h=>kA (kA (kA h _) _) _,(((Below.refl _ w).alloc (Nat.le_refl _) _).alloc (by simp) _).alloc (by simp;omega) _⟩
 ·exact kA (kA ((fC w A t _ j rfl).trans h) _) _
 ·exact kA ((fC _ B u _ j (by simp)).trans h) _
 ·exact (fC _ C v _ j (by simp)).trans h
 ·have:=heap_alloc_new ((w.alloc (.cells A t)).alloc (.cells B u)) (.cells C v)
  simpa using this
set_option maxHeartbeats 6400000 in
set_option maxRecDepth 100000 in
theorem a1D (w:World) (c0 c1 c2 c3 c4 c5 c6 c7 c8 c9 c10 c11 c12:Value) (b m mc:Nat) (pb po n pc:Nat) (sp ru at':Value) (i:Nat) (hn:1≤n) (hnc:n≤pc) (hp0:w.cell? ⟨pb,po,none⟩=some (.int .i64 i)) (hi:i<m) (hb:b<w.heap.size) (cur:Array Value) (aWc:w.heap[b]? =some (.cells cur 29 (0,0)))
 (k0 k1 k2 k3 k4 k5 k6 k7 k8 k9 k10 k11 k12 k13:Value)
 (hk0:w.cell? ⟨b,i*14,none⟩=some k0)
 (hk1:w.cell? ⟨b,i*14+1,none⟩=some k1)
 (hk2:w.cell? ⟨b,i*14+2,none⟩=some k2)
 (hk3:w.cell? ⟨b,i*14+3,none⟩=some k3)
 (hk4:w.cell? ⟨b,i*14+4,none⟩=some k4)
 (hk5:w.cell? ⟨b,i*14+5,none⟩=some k5)
 (hk6:w.cell? ⟨b,i*14+6,none⟩=some k6)
 (hk7:w.cell? ⟨b,i*14+7,none⟩=some k7)
 (hk8:w.cell? ⟨b,i*14+8,none⟩=some k8)
 (hk9:w.cell? ⟨b,i*14+9,none⟩=some k9)
 (bEJ:w.cell? ⟨b,i*14+10,none⟩=some k10)
 (bEK:w.cell? ⟨b,i*14+11,none⟩=some k11)
 (bEL:w.cell? ⟨b,i*14+12,none⟩=some k12)
 (bEM:w.cell? ⟨b,i*14+13,none⟩=some k13)
 (oc0:c0.oneCell'=true) (oc1:c1.oneCell'=true) (oc2:c2.oneCell'=true) (oc3:c3.oneCell'=true) (oc4:c4.oneCell'=true) (oc5:c5.oneCell'=true) (oc6:c6.oneCell'=true) (oc7:c7.oneCell'=true) (oc8:c8.oneCell'=true) (oc9:c9.oneCell'=true) (a1v:c10.oneCell'=true) (a1w:c11.oneCell'=true) (a89:c12.oneCell'=true) (pa:Option Addr) (hpa:(if pc=1 then some (⟨pb,po,none⟩:Addr)else some ⟨pb,po+1,none⟩)=pa) (Bi:Nat→Prop) (hBb:¬Bi b) (hBw:∀k,Bi k→k<w.heap.size) (R:World→World→List Value→Prop)
 (a4D:∀W:World,Below w.heap.size w W→w.heap.size+3≤W.heap.size→Calls Tryz.prog 44 #[.agg #[k0,k1,k2,k3,k4,k5,k6,k7,k8,k9,k10,k11,k12,k13],.agg #[sp,ru,at'],.slice pa (n - 1) (pc - 1)] W fun e W'=>∃r0 r1 r2 r3 r4 r5 r6 r7 r8 r9 r10 r11 r12 r13,e= .returned (.tuple #[.agg #[r0,r1,r2,r3,r4,r5,r6,r7,r8,r9,r10,r11,r12,r13],.bool true])∧(r0.oneCell'=true∧r1.oneCell'=true∧r2.oneCell'=true∧r3.oneCell'=true∧r4.oneCell'=true∧r5.oneCell'=true∧r6.oneCell'=true∧r7.oneCell'=true∧r8.oneCell'=true∧r9.oneCell'=true∧r10.oneCell'=true∧r11.oneCell'=true∧r12.oneCell'=true∧r13.oneCell'=true)∧W.heap.size≤W'.heap.size∧(∀k,k<W.heap.size→¬Bi k→W'.heap[k]? =W.heap[k]?)∧R W W' [r0,r1,r2,r3,r4,r5,r6,r7,r8,r9,r10,r11,r12,r13]):
 Calls Tryz.prog 44 #[.agg #[c0,c1,c2,c3,c4,c5,c6,c7,c8,c9,c10,c11,c12,Value.slice (some {block:=b,off:=0}) m mc],.agg #[sp,ru,at'],.slice (some ⟨pb,po,none⟩) n pc] w fun e w'=>e= .returned (.tuple #[.agg #[c0,c1,c2,c3,c4,c5,c6,c7,c8,c9,c10,c11,c12,Value.slice (some {block:=b,off:=0}) m mc],.bool true])∧∃W W' r0 r1 r2 r3 r4 r5 r6 r7 r8 r9 r10 r11 r12 r13,Below w.heap.size w W∧w.heap.size+3≤W.heap.size∧R W W' [r0,r1,r2,r3,r4,r5,r6,r7,r8,r9,r10,r11,r12,r13]∧Aft W W' w' b (i*14) [r0,r1,r2,r3,r4,r5,r6,r7,r8,r9,r10,r11,r12,r13] w.heap.size:=by
 have hne:((n:Int)==0)=false:=by simp;omega
 have hl0:decide ((i:Int)<0)=false:=by simp
 have hl1:decide ((i:Int)≥(m:Int))=false:=by simp;omega
 obtain ⟨W0,hW0,h1,h2,h3,hsz,hZ0,hold,hbl⟩:=three w #[c0,c1,c2,c3,c4,c5,c6,c7,c8,c9,c10,c11,c12,Value.slice (some {block:=b,off:=0}) m mc] #[sp,ru,at'] #[Value.int IntKind.i64 0,Value.string {data:=#[]},Value.string {data:=#[]},Value.slice none 0 0,Value.int IntKind.i64 0,Value.int IntKind.i64 0,Value.int IntKind.i64 0,Value.int IntKind.u8 0,Value.int IntKind.i64 0,Value.int IntKind.i64 0,Value.string {data:=#[]},Value.slice none 0 0,Value.slice none 0 0,Value.slice none 0 0] 29 45 29
 have gp:=hold _ _ hp0
 rw[hW0]at gp
 clear hp0
 go_enter Tryz.func44,Tryz.ntmps44
 go_wp2
 rw[←hW0]
 clear gp
 clear hW0
 have g0:=hold _ _ hk0
 have g1:=hold _ _ hk1
 have g2:=hold _ _ hk2
 have g3:=hold _ _ hk3
 have g4:=hold _ _ hk4
 have g5:=hold _ _ hk5
 have g6:=hold _ _ hk6
 have g7:=hold _ _ hk7
 have g8:=hold _ _ hk8
 have g9:=hold _ _ hk9
 have g10:=hold _ _ bEJ
 have g11:=hold _ _ bEK
 have g12:=hold _ _ bEL
 have g13:=hold _ _ bEM
 have l0:=h1 0 _ rfl
 have l1:=h1 1 _ rfl
 have l2:=h1 2 _ rfl
 have l3:=h1 3 _ rfl
 have l4:=h1 4 _ rfl
 have l5:=h1 5 _ rfl
 have l6:=h1 6 _ rfl
 have l7:=h1 7 _ rfl
 have l8:=h1 8 _ rfl
 have l9:=h1 9 _ rfl
 have l10:=h1 10 _ rfl
 have l11:=h1 11 _ rfl
 have l12:=h1 12 _ rfl
 have l13:=h1 13 _ rfl
 have s0:=h2 0 _ rfl
 have s1:=h2 1 _ rfl
 have s2:=h2 2 _ rfl
 have z0:=h3 0 _ rfl
 have z1:=h3 1 _ rfl
 have z2:=h3 2 _ rfl
 have z3:=h3 3 _ rfl
 have z4:=h3 4 _ rfl
 have z5:=h3 5 _ rfl
 have z6:=h3 6 _ rfl
 have z7:=h3 7 _ rfl
 have z8:=h3 8 _ rfl
 have z9:=h3 9 _ rfl
 have z10:=h3 10 _ rfl
 have z11:=h3 11 _ rfl
 have z12:=h3 12 _ rfl
 have z13:=h3 13 _ rfl
 have hw1:IntKind.wrap .i64 1=1:=rfl
 have hn1:(1:Int)≤n:=by omega
 have nw0:¬Bi w.heap.size:=fun h=>by have:=hBw _ h;omega
 have nw1:¬Bi (w.heap.size+1):=fun h=>by have:=hBw _ h;omega
 have nw2:¬Bi (w.heap.size+2):=fun h=>by have:=hBw _ h;omega
 have nwk:¬Bi W0.heap.size:=fun h=>by have:=hBw _ h;omega
 have bAn:w.heap.size+3≤W0.heap.size:=by omega
 have bP7:W0.heap.size≤w.heap.size+3:=by omega
 have hB0:W0.heap[b]? =some (.cells cur 29 (0,0)):=(hbl.block b hb).trans aWc
 clear hsz h1 h2 h3 hold
 have a4E:W0.drew.cell? _=_:=l13
 have bAt:W0.drew.cell? _=_:=s0
 have bAu:W0.drew.cell? _=_:=s1
 have bAv:W0.drew.cell? _=_:=s2
 have bAw:W0.drew.cell? _=_:=g0
 have bAx:W0.drew.cell? _=_:=g1
 have bAy:W0.drew.cell? _=_:=g2
 have bAz:W0.drew.cell? _=_:=g3
 have bAA:W0.drew.cell? _=_:=g4
 have bAB:W0.drew.cell? _=_:=g5
 have bAC:W0.drew.cell? _=_:=g6
 have bAD:W0.drew.cell? _=_:=g7
 have bAE:W0.drew.cell? _=_:=g8
 have bAF:W0.drew.cell? _=_:=g9
 have a4F:W0.drew.cell? _=_:=g10
 have a4G:W0.drew.cell? _=_:=g11
 have a4H:W0.drew.cell? _=_:=g12
 have a4I:W0.drew.cell? _=_:=g13
 have tc0:=sT oc0
 have tc1:=sT oc1
 have tc2:=sT oc2
 have tc3:=sT oc3
 have tc4:=sT oc4
 have tc5:=sT oc5
 have tc6:=sT oc6
 have tc7:=sT oc7
 have tc8:=sT oc8
 have tc9:=sT oc9
 have a8Y:=sT a1v
 have a8Z:=sT a1w
 have bHV:=sT a89
 have hSd:W0.drew.cell? ⟨w.heap.size,13,none⟩=some (Value.slice (some {block:=b,off:=0}) m mc)∧W0.drew.cell? ⟨w.heap.size+1,0,none⟩=some sp∧W0.drew.cell? ⟨w.heap.size+1,1,none⟩=some ru∧W0.drew.cell? ⟨w.heap.size+1,2,none⟩=some at'∧W0.drew.cell? ⟨b,i*14,none⟩=some k0∧W0.drew.cell? ⟨b,i*14+1,none⟩=some k1∧W0.drew.cell? ⟨b,i*14+2,none⟩=some k2∧W0.drew.cell? ⟨b,i*14+3,none⟩=some k3∧W0.drew.cell? ⟨b,i*14+4,none⟩=some k4∧W0.drew.cell? ⟨b,i*14+5,none⟩=some k5∧W0.drew.cell? ⟨b,i*14+6,none⟩=some k6∧W0.drew.cell? ⟨b,i*14+7,none⟩=some k7∧W0.drew.cell? ⟨b,i*14+8,none⟩=some k8∧W0.drew.cell? ⟨b,i*14+9,none⟩=some k9∧W0.drew.cell? ⟨b,i*14+10,none⟩=some k10∧W0.drew.cell? ⟨b,i*14+11,none⟩=some k11∧W0.drew.cell? ⟨b,i*14+12,none⟩=some k12∧W0.drew.cell? ⟨b,i*14+13,none⟩=some k13:=⟨a4E,bAt,bAu,bAv,bAw,bAx,bAy,bAz,bAA,bAB,bAC,bAD,bAE,bAF,a4F,a4G,a4H,a4I⟩
 go_region_held3 (fun w'=>w'.cell? ⟨w.heap.size,13,none⟩=some (Value.slice (some {block:=b,off:=0}) m mc)∧w'.cell? ⟨w.heap.size+1,0,none⟩=some sp∧w'.cell? ⟨w.heap.size+1,1,none⟩=some ru∧w'.cell? ⟨w.heap.size+1,2,none⟩=some at'∧w'.cell? ⟨b,i*14,none⟩=some k0∧w'.cell? ⟨b,i*14+1,none⟩=some k1∧w'.cell? ⟨b,i*14+2,none⟩=some k2∧w'.cell? ⟨b,i*14+3,none⟩=some k3∧w'.cell? ⟨b,i*14+4,none⟩=some k4∧w'.cell? ⟨b,i*14+5,none⟩=some k5∧w'.cell? ⟨b,i*14+6,none⟩=some k6∧w'.cell? ⟨b,i*14+7,none⟩=some k7∧w'.cell? ⟨b,i*14+8,none⟩=some k8∧w'.cell? ⟨b,i*14+9,none⟩=some k9∧w'.cell? ⟨b,i*14+10,none⟩=some k10∧w'.cell? ⟨b,i*14+11,none⟩=some k11∧w'.cell? ⟨b,i*14+12,none⟩=some k12∧w'.cell? ⟨b,i*14+13,none⟩=some k13) (first |(refine ⟨?_, ?_, ?_, ?_, ?_, ?_, ?_, ?_, ?_, ?_, ?_, ?_, ?_, ?_, ?_, ?_, ?_, ?_⟩<;>(refine qB ?_ (by dsimp only;omega))<;>(repeat (refine qB ?_ (by dsimp only;omega)))<;>assumption)|exact ⟨a9a,bEN,bEO,bEP,bEQ,bER,bES,bET,bEU,bEV,bEW,bEX,bEY,bEZ,a9b,a9c,a9d,a9e⟩|exact ⟨kA a9a _,kA bEN _,kA bEO _,kA bEP _,kA bEQ _,kA bER _,kA bES _,kA bET _,kA bEU _,kA bEV _,kA bEW _,kA bEX _,kA bEY _,kA bEZ _,kA a9b _,kA a9c _,kA a9d _,kA a9e _⟩|exact ⟨kA a4E _,kA bAt _,kA bAu _,kA bAv _,kA bAw _,kA bAx _,kA bAy _,kA bAz _,kA bAA _,kA bAB _,kA bAC _,kA bAD _,kA bAE _,kA bAF _,kA a4F _,kA a4G _,kA a4H _,kA a4I _⟩|exact hSd) (first |(go_at_call 44;refine (a4D _ (hbl.drew.alloc (by show w.heap.size≤W0.heap.size;omega) _) (by simp;omega)).mono ?_;rintro e W' ⟨r0,r1,r2,r3,r4,r5,r6,r7,r8,r9,r10,r11,r12,r13,rfl,⟨or0,or1,or2,or3,or4,or5,or6,or7,or8,or9,a5P,a5Q,a5R,a5S⟩,hs',hfr,hR⟩;have tr0:=sT or0;have tr1:=sT or1;have tr2:=sT or2;have tr3:=sT or3;have tr4:=sT or4;have tr5:=sT or5;have tr6:=sT or6;have tr7:=sT or7;have tr8:=sT or8;have tr9:=sT or9;have bLe:=sT a5P;have bLf:=sT a5Q;have bLg:=sT a5R;have bLh:=sT a5S;have a9a:=vA hfr nw0 (kA a4E _);have bEN:=vA hfr nw1 (kA bAt _);have bEO:=vA hfr nw1 (kA bAu _);have bEP:=vA hfr nw1 (kA bAv _);have bEQ:=vA hfr hBb (kA bAw _);have bER:=vA hfr hBb (kA bAx _);have bES:=vA hfr hBb (kA bAy _);have bET:=vA hfr hBb (kA bAz _);have bEU:=vA hfr hBb (kA bAA _);have bEV:=vA hfr hBb (kA bAB _);have bEW:=vA hfr hBb (kA bAC _);have bEX:=vA hfr hBb (kA bAD _);have bEY:=vA hfr hBb (kA bAE _);have bEZ:=vA hfr hBb (kA bAF _);have a9b:=vA hfr hBb (kA a4F _);have a9c:=vA hfr hBb (kA a4G _);have a9d:=vA hfr hBb (kA a4H _);have a9e:=vA hfr hBb (kA a4I _);have kv0:W'.cell? ⟨W0.heap.size,0,none⟩=some (Value.int IntKind.i64 0):=vA hfr nwk ((fC W0.drew _ 29 _ 0 rfl).trans rfl);have kv1:W'.cell? ⟨W0.heap.size,1,none⟩=some (Value.string {data:=#[]}):=vA hfr nwk ((fC W0.drew _ 29 _ 1 rfl).trans rfl);have kv2:W'.cell? ⟨W0.heap.size,2,none⟩=some (Value.string {data:=#[]}):=vA hfr nwk ((fC W0.drew _ 29 _ 2 rfl).trans rfl);have kv3:W'.cell? ⟨W0.heap.size,3,none⟩=some (Value.slice none 0 0):=vA hfr nwk ((fC W0.drew _ 29 _ 3 rfl).trans rfl);have kv4:W'.cell? ⟨W0.heap.size,4,none⟩=some (Value.int IntKind.i64 0):=vA hfr nwk ((fC W0.drew _ 29 _ 4 rfl).trans rfl);have kv5:W'.cell? ⟨W0.heap.size,5,none⟩=some (Value.int IntKind.i64 0):=vA hfr nwk ((fC W0.drew _ 29 _ 5 rfl).trans rfl);have kv6:W'.cell? ⟨W0.heap.size,6,none⟩=some (Value.int IntKind.i64 0):=vA hfr nwk ((fC W0.drew _ 29 _ 6 rfl).trans rfl);have kv7:W'.cell? ⟨W0.heap.size,7,none⟩=some (Value.int IntKind.u8 0):=vA hfr nwk ((fC W0.drew _ 29 _ 7 rfl).trans rfl);have kv8:W'.cell? ⟨W0.heap.size,8,none⟩=some (Value.int IntKind.i64 0):=vA hfr nwk ((fC W0.drew _ 29 _ 8 rfl).trans rfl);have kv9:W'.cell? ⟨W0.heap.size,9,none⟩=some (Value.int IntKind.i64 0):=vA hfr nwk ((fC W0.drew _ 29 _ 9 rfl).trans rfl);have bLi:W'.cell? ⟨W0.heap.size,10,none⟩=some (Value.string {data:=#[]}):=vA hfr nwk ((fC W0.drew _ 29 _ 10 rfl).trans rfl);have bLj:W'.cell? ⟨W0.heap.size,11,none⟩=some (Value.slice none 0 0):=vA hfr nwk ((fC W0.drew _ 29 _ 11 rfl).trans rfl);have bLk:W'.cell? ⟨W0.heap.size,12,none⟩=some (Value.slice none 0 0):=vA hfr nwk ((fC W0.drew _ 29 _ 12 rfl).trans rfl);have bLl:W'.cell? ⟨W0.heap.size,13,none⟩=some (Value.slice none 0 0):=vA hfr nwk ((fC W0.drew _ 29 _ 13 rfl).trans rfl);have fz:∀j,W'.frozen? ⟨W0.heap.size,j,none⟩=false:=a5Y hfr nwk (heap_alloc_new W0.drew _))|(go_at_call 44;refine (a4D _ hbl.drew (by show _≤W0.heap.size;omega)).mono ?_;rintro e W' ⟨r0,r1,r2,r3,r4,r5,r6,r7,r8,r9,r10,r11,r12,r13,rfl,⟨or0,or1,or2,or3,or4,or5,or6,or7,or8,or9,a5P,a5Q,a5R,a5S⟩,hs',hfr,hR⟩;have tr0:=sT or0;have tr1:=sT or1;have tr2:=sT or2;have tr3:=sT or3;have tr4:=sT or4;have tr5:=sT or5;have tr6:=sT or6;have tr7:=sT or7;have tr8:=sT or8;have tr9:=sT or9;have bLe:=sT a5P;have bLf:=sT a5Q;have bLg:=sT a5R;have bLh:=sT a5S;have a9a:=vA hfr nw0 a4E;have bEN:=vA hfr nw1 bAt;have bEO:=vA hfr nw1 bAu;have bEP:=vA hfr nw1 bAv;have bEQ:=vA hfr hBb bAw;have bER:=vA hfr hBb bAx;have bES:=vA hfr hBb bAy;have bET:=vA hfr hBb bAz;have bEU:=vA hfr hBb bAA;have bEV:=vA hfr hBb bAB;have bEW:=vA hfr hBb bAC;have bEX:=vA hfr hBb bAD;have bEY:=vA hfr hBb bAE;have bEZ:=vA hfr hBb bAF;have a9b:=vA hfr hBb a4F;have a9c:=vA hfr hBb a4G;have a9d:=vA hfr hBb a4H;have a9e:=vA hfr hBb a4I))
 ·obtain ⟨X,hX⟩:∃X,X=(W'.alloc (Obj.cells #[r0,r1,r2,r3,r4,r5,r6,r7,r8,r9,r10,r11,r12,r13] 29)):=⟨_,rfl⟩
  rw[←hX]
  have old:∀{a:Addr} {x:Value},W'.cell? a=some x→X.cell? a=some x:=fun h=>by rw[hX];exact kA h _
  have Lk:∀{j:Nat} {x:Value},W0.cell? ⟨w.heap.size,j,none⟩=some x→X.cell? ⟨w.heap.size,j,none⟩=some x:=fun h=>old (vA hfr nw0 (show W0.drew.cell? _=_ from h))
  have L0:=Lk l0
  have L1:=Lk l1
  have L2:=Lk l2
  have L3:=Lk l3
  have L4:=Lk l4
  have L5:=Lk l5
  have L6:=Lk l6
  have L7:=Lk l7
  have L8:=Lk l8
  have L9:=Lk l9
  have L10:=Lk l10
  have L11:=Lk l11
  have L12:=Lk l12
  have L13:=Lk l13
  clear Lk
  have Zk:∀{j:Nat} {x:Value},W0.cell? ⟨w.heap.size+2,j,none⟩=some x→X.cell? ⟨w.heap.size+1+1,j,none⟩=some x:=fun h=>old (vA hfr nw2 (show W0.drew.cell? _=_ from h))
  have Z0:=Zk z0
  have Z1:=Zk z1
  have Z2:=Zk z2
  have Z3:=Zk z3
  have Z4:=Zk z4
  have Z5:=Zk z5
  have Z6:=Zk z6
  have Z7:=Zk z7
  have Z8:=Zk z8
  have Z9:=Zk z9
  have Z10:=Zk z10
  have Z11:=Zk z11
  have Z12:=Zk z12
  have Z13:=Zk z13
  clear Zk
  have G0:X.cell? ⟨b,i*14,none⟩=some k0:=old (vA hfr hBb (show W0.drew.cell? _=_ from g0))
  have Gk:∀{j:Nat} {x:Value},W0.cell? ⟨b,i*14+j,none⟩=some x→X.cell? ⟨b,i*14+j,none⟩=some x:=fun h=>old (vA hfr hBb (show W0.drew.cell? _=_ from h))
  have G1:=Gk g1
  have G2:=Gk g2
  have G3:=Gk g3
  have G4:=Gk g4
  have G5:=Gk g5
  have G6:=Gk g6
  have G7:=Gk g7
  have G8:=Gk g8
  have G9:=Gk g9
  have G10:=Gk g10
  have G11:=Gk g11
  have G12:=Gk g12
  have G13:=Gk g13
  clear Gk
  have Rk:∀{j:Nat} {x:Value},#[r0,r1,r2,r3,r4,r5,r6,r7,r8,r9,r10,r11,r12,r13][j]? =some x→X.cell? ⟨W'.heap.size,j,none⟩=some x:=fun {j x} h=>by rw[hX];exact (fC W' _ 29 _ j rfl).trans h
  have R0:=Rk (j:=0) rfl
  have R1:=Rk (j:=1) rfl
  have R2:=Rk (j:=2) rfl
  have R3:=Rk (j:=3) rfl
  have R4:=Rk (j:=4) rfl
  have R5:=Rk (j:=5) rfl
  have R6:=Rk (j:=6) rfl
  have R7:=Rk (j:=7) rfl
  have R8:=Rk (j:=8) rfl
  have R9:=Rk (j:=9) rfl
  have R10:=Rk (j:=10) rfl
  have R11:=Rk (j:=11) rfl
  have R12:=Rk (j:=12) rfl
  have R13:=Rk (j:=13) rfl
  clear Rk
  have HB:W'.heap[b]? =some (.cells cur 29 (0,0)):=(hfr b (show b<W0.heap.size by omega) hBb).trans hB0
  have HZ:=(hfr (w.heap.size+2) (show _<W0.heap.size by omega) nw2).trans hZ0
  have hWs:W0.heap.size≤W'.heap.size:=hs'
  have F0:∀j,X.frozen? ⟨w.heap.size+1+1,j,none⟩=false:=aDa (by rw[hX];exact (heap_alloc_old W' _ (by omega)).trans HZ)
  have F1:∀j,X.frozen? ⟨b,j,none⟩=false:=aDa (by rw[hX];exact (heap_alloc_old W' _ (by omega)).trans HB)
  have hpre:Pre W0.drew W' X w.heap.size:=by rw[hX];exact Pre.alloc _ _ _ _
  have a3p:=fun us:List Value=>hpre.aft (b:=b) (o:=i*14) (g:=w.heap.size+1+1) hb (by omega) (by omega) (show _<W0.heap.size by omega) [r0,r1,r2,r3,r4,r5,r6,r7,r8,r9,r10,r11,r12,r13] us
  have a3p:=hd a3p
  have hR:=hd hR
  have hbd:=hd hbl.drew
  clear hX old HB HZ hpre hs' hfr a4D hB0 hZ0 l0 l1 l2 l3 l4 l5 l6 l7 l8 l9 l10 l11 l12 l13 s0 s1 s2 z0 z1 z2 z3 z4 z5 z6 z7 z8 z9 z10 z11 z12 z13 g0 g1 g2 g3 g4 g5 g6 g7 g8 g9 g10 g11 g12 g13
  generalize W'.heap.size=kp at*
  go_wp2
  (try simp only[Exit.inBlock,Exit.then])
  refine bodyPost_ret (by simp[results,Tryz.f44,go_sem,Z0,Z1,Z2,Z3,Z4,Z5,Z6,Z7,Z8,Z9,Z10,Z11,Z12,Z13];try rfl) rfl ?_
  exact ⟨rfl,W0.drew,W',r0,r1,r2,r3,r4,r5,r6,r7,r8,r9,r10,r11,r12,r13,hbd.out,(show _≤W0.heap.size by omega),hR.out,a3p.out [c0,c1,c2,c3,c4,c5,c6,c7,c8,c9,c10,c11,c12,Value.slice (some {block:=b,off:=0}) m mc]⟩
 ·obtain ⟨X,hX⟩:∃X,X=(xL W' W0.heap.size 0 [r0,r1,r2,r3,r4,r5,r6,r7,r8,r9,r10,r11,r12,r13]):=⟨_,rfl⟩
  change Exit.then _ _ _ _ (xL W' W0.heap.size 0 [r0,r1,r2,r3,r4,r5,r6,r7,r8,r9,r10,r11,r12,r13])
  rw[←hX]
  have old:∀{a:Addr} {x:Value},a.block≠W0.heap.size→W'.cell? a=some x→X.cell? a=some x:=fun h hx=>by rw[hX];exact aTl h hx
  have Lk:∀{j:Nat} {x:Value},W0.cell? ⟨w.heap.size,j,none⟩=some x→X.cell? ⟨w.heap.size,j,none⟩=some x:=fun h=>old (by dsimp only;omega) (vA hfr nw0 (kA (w:=W0.drew) h _))
  have L0:=Lk l0
  have L1:=Lk l1
  have L2:=Lk l2
  have L3:=Lk l3
  have L4:=Lk l4
  have L5:=Lk l5
  have L6:=Lk l6
  have L7:=Lk l7
  have L8:=Lk l8
  have L9:=Lk l9
  have L10:=Lk l10
  have L11:=Lk l11
  have L12:=Lk l12
  have L13:=Lk l13
  clear Lk
  have Zk:∀{j:Nat} {x:Value},W0.cell? ⟨w.heap.size+2,j,none⟩=some x→X.cell? ⟨w.heap.size+1+1,j,none⟩=some x:=fun h=>old (by dsimp only;omega) (vA hfr nw2 (kA (w:=W0.drew) h _))
  have Z0:=Zk z0
  have Z1:=Zk z1
  have Z2:=Zk z2
  have Z3:=Zk z3
  have Z4:=Zk z4
  have Z5:=Zk z5
  have Z6:=Zk z6
  have Z7:=Zk z7
  have Z8:=Zk z8
  have Z9:=Zk z9
  have Z10:=Zk z10
  have Z11:=Zk z11
  have Z12:=Zk z12
  have Z13:=Zk z13
  clear Zk
  have G0:X.cell? ⟨b,i*14,none⟩=some k0:=old (by dsimp only;omega) (vA hfr hBb (kA (w:=W0.drew) g0 _))
  have Gk:∀{j:Nat} {x:Value},W0.cell? ⟨b,i*14+j,none⟩=some x→X.cell? ⟨b,i*14+j,none⟩=some x:=fun h=>old (by dsimp only;omega) (vA hfr hBb (kA (w:=W0.drew) h _))
  have G1:=Gk g1
  have G2:=Gk g2
  have G3:=Gk g3
  have G4:=Gk g4
  have G5:=Gk g5
  have G6:=Gk g6
  have G7:=Gk g7
  have G8:=Gk g8
  have G9:=Gk g9
  have G10:=Gk g10
  have G11:=Gk g11
  have G12:=Gk g12
  have G13:=Gk g13
  clear Gk
  have HB:W'.heap[b]? =some (.cells cur 29 (0,0)):=(hfr b (by simp;omega) hBb).trans ((heap_alloc_old W0.drew _ (show b<W0.heap.size by omega)).trans hB0)
  have HZ:=(hfr (w.heap.size+2) (by simp;omega) nw2).trans ((heap_alloc_old W0.drew _ (show _<W0.heap.size by omega)).trans hZ0)
  have HK:=(hfr W0.heap.size (by simp) nwk).trans (heap_alloc_new W0.drew _)
  have HK2:X.heap[W0.heap.size]? =some (.cells #[r0,r1,r2,r3,r4,r5,r6,r7,r8,r9,r10,r11,r12,r13] 29 (0,0)):=by rw[hX];exact aG0 [r0,r1,r2,r3,r4,r5,r6,r7,r8,r9,r10,r11,r12,r13] W' 0 _ HK (by simp)
  have R0:X.cell? ⟨W0.heap.size,0,none⟩=some r0:=cell_of HK2 0 _ rfl
  have R1:X.cell? ⟨W0.heap.size,1,none⟩=some r1:=cell_of HK2 1 _ rfl
  have R2:X.cell? ⟨W0.heap.size,2,none⟩=some r2:=cell_of HK2 2 _ rfl
  have R3:X.cell? ⟨W0.heap.size,3,none⟩=some r3:=cell_of HK2 3 _ rfl
  have R4:X.cell? ⟨W0.heap.size,4,none⟩=some r4:=cell_of HK2 4 _ rfl
  have R5:X.cell? ⟨W0.heap.size,5,none⟩=some r5:=cell_of HK2 5 _ rfl
  have R6:X.cell? ⟨W0.heap.size,6,none⟩=some r6:=cell_of HK2 6 _ rfl
  have R7:X.cell? ⟨W0.heap.size,7,none⟩=some r7:=cell_of HK2 7 _ rfl
  have R8:X.cell? ⟨W0.heap.size,8,none⟩=some r8:=cell_of HK2 8 _ rfl
  have R9:X.cell? ⟨W0.heap.size,9,none⟩=some r9:=cell_of HK2 9 _ rfl
  have R10:X.cell? ⟨W0.heap.size,10,none⟩=some r10:=cell_of HK2 10 _ rfl
  have R11:X.cell? ⟨W0.heap.size,11,none⟩=some r11:=cell_of HK2 11 _ rfl
  have R12:X.cell? ⟨W0.heap.size,12,none⟩=some r12:=cell_of HK2 12 _ rfl
  have R13:X.cell? ⟨W0.heap.size,13,none⟩=some r13:=cell_of HK2 13 _ rfl
  have hWs:W0.heap.size+1≤W'.heap.size:=by simpa using hs'
  have F0:∀j,X.frozen? ⟨w.heap.size+1+1,j,none⟩=false:=aDa (by rw[hX];exact (qG (by omega) _ W' 0).trans HZ)
  have F1:∀j,X.frozen? ⟨b,j,none⟩=false:=aDa (by rw[hX];exact (qG (by omega) _ W' 0).trans HB)
  have hpre:Pre (W0.drew.alloc (Obj.cells #[Value.int IntKind.i64 0,Value.string {data:=#[]},Value.string {data:=#[]},Value.slice none 0 0,Value.int IntKind.i64 0,Value.int IntKind.i64 0,Value.int IntKind.i64 0,Value.int IntKind.u8 0,Value.int IntKind.i64 0,Value.int IntKind.i64 0,Value.string {data:=#[]},Value.slice none 0 0,Value.slice none 0 0,Value.slice none 0 0] 29)) W' X w.heap.size:=by rw[hX];exact Pre.set (by omega) (by simp) _
  have a3p:=fun us:List Value=>hpre.aft (b:=b) (o:=i*14) (g:=w.heap.size+1+1) hb (by omega) (by omega) (by simp;omega) [r0,r1,r2,r3,r4,r5,r6,r7,r8,r9,r10,r11,r12,r13] us
  have hsW:=hd (show w.heap.size+3≤(W0.drew.alloc (Obj.cells #[Value.int IntKind.i64 0,Value.string {data:=#[]},Value.string {data:=#[]},Value.slice none 0 0,Value.int IntKind.i64 0,Value.int IntKind.i64 0,Value.int IntKind.i64 0,Value.int IntKind.u8 0,Value.int IntKind.i64 0,Value.int IntKind.i64 0,Value.string {data:=#[]},Value.slice none 0 0,Value.slice none 0 0,Value.slice none 0 0] 29)).heap.size by simp;omega)
  have a3p:=hd a3p
  have hR:=hd hR
  have hbd:=hd (hbl.drew.alloc (show w.heap.size≤W0.heap.size by omega) (Obj.cells #[Value.int IntKind.i64 0,Value.string {data:=#[]},Value.string {data:=#[]},Value.slice none 0 0,Value.int IntKind.i64 0,Value.int IntKind.i64 0,Value.int IntKind.i64 0,Value.int IntKind.u8 0,Value.int IntKind.i64 0,Value.int IntKind.i64 0,Value.string {data:=#[]},Value.slice none 0 0,Value.slice none 0 0,Value.slice none 0 0] 29))
  clear hX old HB HZ HK HK2 hpre hs' hfr a4D hB0 hZ0 kv0 kv1 kv2 kv3 kv4 kv5 kv6 kv7 kv8 kv9 bLi bLj bLk bLl fz l0 l1 l2 l3 l4 l5 l6 l7 l8 l9 l10 l11 l12 l13 s0 s1 s2 z0 z1 z2 z3 z4 z5 z6 z7 z8 z9 z10 z11 z12 z13 g0 g1 g2 g3 g4 g5 g6 g7 g8 g9 g10 g11 g12 g13
  generalize W0.heap.size=kp at*
  go_wp2
  (try simp only[Exit.inBlock,Exit.then])
  refine bodyPost_ret (by simp[results,Tryz.f44,go_sem,Z0,Z1,Z2,Z3,Z4,Z5,Z6,Z7,Z8,Z9,Z10,Z11,Z12,Z13];try rfl) rfl ?_
  exact ⟨rfl,_,W',r0,r1,r2,r3,r4,r5,r6,r7,r8,r9,r10,r11,r12,r13,hbd.out,hsW.out,hR.out,a3p.out [c0,c1,c2,c3,c4,c5,c6,c7,c8,c9,c10,c11,c12,Value.slice (some {block:=b,off:=0}) m mc]⟩
end Go.Proofs.Nrm
