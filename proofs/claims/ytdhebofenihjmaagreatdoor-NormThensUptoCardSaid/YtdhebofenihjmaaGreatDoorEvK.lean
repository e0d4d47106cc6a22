/-
  Each operation of the abstract machine does what the model's operation does: nil, min, slices of slices, functions, tuples, make, append.
-/
import Derived.Test.YtdhebofenihjmaaGreatDoorEvG
import Derived.Lib.Strings
import Derived.Lib.ConvBytes
import Derived.Laws.BytesString
import Derived.Laws.MakeOwn
set_option linter.all false
set_option maxRecDepth 100000
namespace Go.Ev
variable {E:Env} {P:Program} {T:Nat→yF} {S S':yA} {pl wD:Pl} {St dD:Ev.St} {F:Fr} {a:Act} {w w':World}
theorem aON {i:Nat} {o':Obj} {av:AV} {v:Value} (hs:mW P T S pl St w) (hi:St[i]? =some .fresh) (hh:o'.has=false)
 (aOu:∀w',n9 P T S pl (St.set i o') w' i o') (hv:iB P T S pl (St.set i o') av v):bB P T S pl St w (St.set i o') av v w:=by
 have hlt:i<St.length:=(List.getElem?_eq_some_iff.1 hi).1
 have hk:kD pl St pl (St.set i o'):= .fresh hi (fun _ _=>⟨rfl,rfl⟩)
 refine ⟨S,pl, ?_,.refl _ _ _,hv,fun _ _ h=>h.keep hk S.le_refl, ?_⟩
 ·exact hs.upd hlt hk S.le_refl (fun _ _=>⟨rfl,rfl⟩) (fun _ _ _ _ _=>rfl) hs.yM (aOu w) (fun h=>by rw[hh]at h;cases h) (fun j o _ h ho=>hs.apart j o h ho) (fun h=>by rw[hh]at h;cases h) (fun g _ _=>⟨rfl,fun h=>by rw[hh]at h;cases h⟩)
 ·rintro b ⟨j,o,h,ho,hb⟩
  by_cases hj:j=i
  ·subst hj
   rw[List.getElem?_set_self hlt]at h
   obtain rfl:=Option.some.inj h
   rw[hh]at ho;cases ho
  ·rw[List.getElem?_set_ne (Ne.symm hj)]at h;exact .inl ⟨j,o,h,ho,hb⟩
theorem iB.aOf {id bO:Nat} {l:L} (h:St[id]? =some (.arr bO l .bA)):iB P T S pl St (.whole id bO) (.slice none 0 0):=
 .whole rfl h (by simp) (fun v l' c' e=>by simp at e;omega) (fun _ _=>rfl) (fun l' rows e=>by simp at e)
theorem iB.a6y {id bO:Nat} {l:L} {rows:List Row} (h:St[id]? =some (.arr bO l (.sl rows))):iB P T S pl St (.whole id bO) (.slice (some ⟨pl.blk id,0,none⟩) rows.length (pl.cap id)):=
 .whole rfl h (by simp) (fun v l' c' e=>by simp at e;omega) (fun l' e=>by simp at e) (fun l' qP e=>by simp at e;rw[e.2])
theorem aSK {t e:TypeId} (ht:P.underlying t=some (.slice e)) (neg:Bool) (v:Value) (ad:Option Addr) (n c:Nat) (hv:v= .slice ad n c) (sw:Bool) (w:World):
 (binOp (if neg then .neq else .eql) t (if sw then .slice none 0 0 else v) (if sw then v else .slice none 0 0)).run P w= .ok (.bool (aZT neg ad.isNone)) w:=by
 subst hv
 cases neg<;>cases sw
 ·exact Lib.run_eql_slice_nil w t e ad n c 0 0 ht
 ·exact run_eql_nil_slice w t e ad n c 0 0 ht
 ·exact run_neq_slice_nil_any w t e ad n c 0 0 ht
 ·exact run_neq_nil_slice w t e ad n c 0 0 ht
section
variable {o:Oper} {x y c:Operand} {ax ay ac:rD} {base:Nat}
variable (hs:mW P T S pl St w) (hF:wX P T S pl St F a.tmps)
include hs hF
theorem a6z {l:L} {id:Nat} {ob:Obj} {av:AV} {no:Option Obj} (ho:o.op= .assign (.const (.slice none 0 0))∨o.op= .move (.const (.slice none 0 0))) (oB:St[base+id]? =some ob)
 (h:rG E F St ob (.a1Z id l) base cB=some (av,no)):∃o',no=some o'∧cE P o a w (bB P T S pl St w (St.set (base+id) o') av):=by
 simp only[rG,uD]at h
 split at h
 ·simp only[cB,Option.some.injEq,Prod.mk.injEq]at h
  obtain ⟨rfl,rfl⟩:=h
  have hlt:base+id<St.length:=(List.getElem?_eq_some_iff.1 oB).1
  refine ⟨_,rfl,mA (v:= .slice none 0 0) (w':=w) ?_ (aON hs oB rfl (fun _=> .inl rfl) (.aOf (List.getElem?_set_self hlt)))⟩
  rcases ho with ho |ho<;>simp[execOp,ho,Act.eval]
 ·simp at h
theorem a3w {neg:Bool} {op:BinOp} {t e u:TypeId} {ob:Obj} {av:AV} {no:Option Obj} (hop:op=(if neg then .neq else .eql)) (ht:P.underlying t=some (.slice e))
 (ho:o.op= .binOp op t x (.const (.slice none 0 0)) u∨o.op= .binOp op t (.const (.slice none 0 0)) x u) (hx:oA P T x ax=true) (oB:∀id,tJ (ax.ev F)=some id→St[id]? =some ob)
 (h:rG E F St ob (.aUs neg ax) base cB=some (av,no)):no=none∧cE P o a w (bB P T S pl St w St av):=by
 have hv:=qA hs hx hF
 have key:∀(ad:Option Addr) (n c:Nat),a.eval x= .slice ad n c→(execOp a.eval o).run P w= .ok (.value (.bool (aZT neg ad.isNone))) w:=by
  intro ad n c hvx
  rcases ho with ho |ho
  ·simp only[execOp,ho]
   refine qW ?_
   have:=aSK ht neg (a.eval x) ad n c hvx false w
   subst hop
   cases neg<;>simpa[Act.eval,hvx,eqGuard]using this
  ·simp only[execOp,ho]
   refine qW ?_
   have:=aSK ht neg (a.eval x) ad n c hvx true w
   subst hop
   cases neg<;>simpa[Act.eval,hvx,eqGuard]using this
 simp only[rG]at h
 split at h
 ·rename_i e' r ex
  simp only[cB,Option.some.injEq,Prod.mk.injEq]at h
  obtain ⟨rfl,rfl⟩:=h
  rw[ex]at hv
  rcases hv.aOM with ⟨e1,e2⟩|⟨l',rows,ad,cap,f,e1,e2,_⟩
  ·rw[e2];exact ⟨rfl,mA (key _ _ _ e1) (.same hs (aWb _))⟩
  ·rw[e2];exact ⟨rfl,mA (key _ _ _ e1) (.same hs (aWb _))⟩
 ·rename_i id v ex
  have oB:=oB id (aD3 (by rw[ex];rfl))
  rw[ex]at hv
  obtain ⟨l',c,rfl,hB⟩:=eE h
  simp only[cB,Option.some.injEq,Prod.mk.injEq]at hB
  obtain ⟨rfl,rfl⟩:=hB
  rcases hs.objs _ _ oB with rfl |⟨rows,cur,e2,i,rfl,hh,q1,q2,q3,q4,q5,q6,q7⟩
  ·exact ⟨rfl,mA (key _ _ _ ((hv.bQ oB).1 rfl)) (.same hs (aWb _))⟩
  ·exact ⟨rfl,mA (key _ _ _ ((hv.bQ oB).2 rows rfl)) (.same hs (aWb _))⟩
 ·simp at h
def mG (P:Program) (T:Nat→yF):List Operand→List rD→Bool
 |[],[]=>true
 |x::xs,ax::axs=>oA P T x ax&&mG P T xs axs
 |_,_=>false
theorem aQg {A:Type} {mx:Bool} {k:IntKind} {c:Int→Option A} {res:A}:
 ∀(xs:List Operand) (axs:List rD) (m:Int),mG P T xs axs=true→aIL F St mx k axs m c=some res→
  ∃n,(List.foldlM (if mx then Builtin.max2 else Builtin.min2) (Value.int k m) (xs.map a.eval)).run P w= .ok (.int k n) w∧c n=some res
 |[],[],m,_,h=>⟨m,by simp,h⟩
 |[],_::_,_,h,_=>by simp[mG]at h
 |_::_,[],_,h,_=>by simp[mG]at h
 |x::xs,ax::axs,m,hp,h=>by
  simp only[mG,Bool.and_eq_true]at hp
  simp only[aIL]at h
  obtain ⟨k',r,ex,hA⟩:=aG h
  obtain ⟨hb,hB⟩:=lA hA
  obtain rfl:=aF4 hb
  have hv:=qA hs hp.1 hF;rw[ex]at hv
  have e1:=hv.of_int
  obtain ⟨n,h1,h2⟩:=aQg xs axs _ hp.2 hB
  refine ⟨n, ?_,h2⟩
  rw[List.map_cons,List.foldlM_cons,Sem.run_bind,e1]
  cases mx
  ·simp only[Bool.false_eq_true,if_false,Builtin.min2,Sem.run_pure,Result.andThen_ok]at h1⊢;exact h1
  ·simp only[if_true,Builtin.max2,Sem.run_pure,Result.andThen_ok]at h1⊢;exact h1
theorem bDy {mx:Bool} {xs:Array Operand} {ts:Array TypeId} {axs:List rD} {ob:Obj} {av:AV} {no:Option Obj} (ho:o.op= .call {callee:= .builtin (if mx then .max else .min),args:=xs,argTypes:=ts}) (hx:mG P T xs.toList axs=true)
 (h:rG E F St ob (.imin mx axs) base cB=some (av,no)):no=none∧cE P o a w (bB P T S pl St w St av):=by
 simp only[rG]at h
 cases axs with
 |nil=>simp at h
 |cons ax axs=>
  cases hxs:xs.toList with
  |nil=>rw[hxs]at hx;simp[mG]at hx
  |cons x xs'=>
   rw[hxs]at hx
   simp only[mG,Bool.and_eq_true]at hx
   simp only at h
   obtain ⟨k,r,ex,hA⟩:=aG h
   have hv:=qA hs hx.1 hF;rw[ex]at hv
   have e1:=hv.of_int
   obtain ⟨n,h1,h2⟩:=aQg hs hF xs' axs _ hx.2 hA
   simp only[cB,Option.some.injEq,Prod.mk.injEq]at h2
   obtain ⟨rfl,rfl⟩:=h2
   refine ⟨rfl,mA (v:= .int k n) (w':=w) ?_ (.same hs (aNa _ _))⟩
   have hm:(xs.map a.eval).toList=Value.int k (at_ r 0).uA::xs'.map a.eval:=by rw[Array.toList_map,hxs,List.map_cons,e1]
   cases mx
   ·simp only[Bool.false_eq_true,if_false]at ho h1
    simp only[execOp,ho,resolve,Sem.run_bind,Sem.run_pure,Result.andThen_ok,invoke,builtin]
    simp only[Builtin.min_,hm,h1,Result.andThen_ok]
   ·simp only[if_true]at ho h1
    simp only[execOp,ho,resolve,Sem.run_bind,Sem.run_pure,Result.andThen_ok,invoke,builtin]
    simp only[Builtin.max_,hm,h1,Result.andThen_ok]
theorem bFX {i:Nat} {ob:Obj} {av:AV} {no:Option Obj} (ho:o.op= .extract x i) (hx:oA P T x ax=true)
 (h:rG E F St ob (.ext i ax) base cB=some (av,no)):no=none∧cE P o a w (bB P T S pl St w St av):=by
 have hv:=sC hs hx hF
 simp only[rG]at h
 split at h
 ·rename_i vs ex
  rw[ex]at hv
  split at h
  ·rename_i u hu
   simp only[cB,Option.some.injEq,Prod.mk.injEq]at h
   obtain ⟨rfl,rfl⟩:=h
   generalize hvx:a.eval x=vx at hv
   cases hv with
   |tup vals hh=>
    have hlt:i<vs.length:=(List.getElem?_eq_some_iff.1 hu).1
    refine ⟨rfl,mA (v:=vals i) (w':=w) ?_ (.same hs (hh i u hu))⟩
    simp[execOp,ho,hvx,Instr.extract,hlt]
  ·simp at h
 ·simp at h
theorem aWf {A:Type} {k:Row→Option A} {res:A}:∀(ks:List K) (xs:List Operand) (axs:List rD),mG P T xs axs=true→aAs F St ks axs k=some res→
 ∃row,xs.length=ks.length∧row.length=ks.length∧(∀i kd,ks[i]? =some kd→gO P T S kd ((xs.map a.eval).getD i undef) (at_ row i))∧k row=some res:=by
 intro ks
 induction ks generalizing k with
 |nil=>intro xs axs hp h;cases axs with
  |nil=>cases xs with
   |nil=>exact ⟨[],rfl,rfl,fun i kd h=>by simp at h,h⟩
   |cons _ _=>simp[mG]at hp
  |cons _ _=>simp[aAs]at h
 |cons kd ks ih=>intro xs axs hp h;cases axs with
  |nil=>simp[aAs]at h
  |cons ax axs=>cases xs with
   |nil=>simp[mG]at hp
   |cons x xs=>
    simp only[mG,Bool.and_eq_true]at hp
    simp only[aAs]at h
    obtain ⟨l,r,ex,hA⟩:=zM h
    obtain ⟨hb,hB⟩:=lA hA
    obtain rfl:=L.beq_eq hb
    have hv:=qA hs hp.1 hF;rw[ex]at hv
    obtain ⟨row,h1,h2,h3,h4⟩:=ih xs axs hp.2 hB
    refine ⟨at_ r 0::row,by simp[h1],by simp[h2],fun i kd' hi=> ?_,h4⟩
    cases i with
    |zero=>simp at hi;subst hi;simpa[at_]using hv.aBR.a6m
    |succ i=>simpa[at_]using h3 i kd' (by simpa using hi)
theorem bFY {f:Nat} {t:TypeId} {ks:List K} {cs:Array Operand} {acs:List rD} {ob:Obj} {av:AV} {no:Option Obj} (ho:o.op= .makeFunc (.func f) #[] cs) (hx:mG P T cs.toList acs=true) (aHW:a6o P T t f ks=true)
 (h:rG E F St ob (.mkf f t ks acs) base cB=some (av,no)):no=none∧cE P o a w (bB P T S pl St w St av):=by
 simp only[rG]at h
 obtain ⟨row,h1,h2,h3,h4⟩:=aWf hs hF ks cs.toList acs hx h
 simp only[cB,Option.some.injEq,Prod.mk.injEq]at h4
 obtain ⟨rfl,rfl⟩:=h4
 refine ⟨rfl,mA (v:= .func (.func f) #[] (cs.map a.eval)) (w':=w) (by simp[execOp,ho,Instr.makeFunc]) (.same hs (.d ⟨_,rfl, ?_⟩))⟩
 have:=gO.fn (P:=P) (T:=T) (S:=S) (cs:=row) (fun i=>(cs.toList.map a.eval).getD i undef) (aUB aHW) h2 h3
 have e:((List.range ks.length).map fun i=>(cs.toList.map a.eval).getD i undef).toArray=cs.map a.eval:=by
  apply Array.ext'
  simp only[List.toList_toArray,Array.toList_map]
  apply List.ext_getElem?
  intro i
  by_cases hi:i<ks.length
  ·have:i<cs.size:=by have:=h1;simp at this;omega
   simp[hi,this]
  ·have:¬i<cs.size:=by have:=h1;simp at this;omega
   simp[hi,this]
 rw[e]at this;exact this
end
end Go.Ev
namespace Go.Ev
variable {E:Env} {P:Program} {T:Nat→yF} {S S':yA} {pl wD:Pl} {St dD:Ev.St} {F:Fr} {a:Act} {w w':World}
def aNn (P:Program) (T:Nat→yF):Option Operand→Option rD→Bool
 |none,none=>true
 |some x,some ax=>oA P T x ax
 |_,_=>false
theorem aBq {A:Type} {x:Option Operand} {ax:Option rD} {d:Int} {k:Int→Option A} {r:A} (hs:mW P T S pl St w) (hF:wX P T S pl St F a.tmps) (hx:aNn P T x ax=true) (h:bnd F St ax d k=some r):
 ∃n,k n=some r∧((x.map a.eval=none∧n=d)∨∃kd,x.map a.eval=some (.int kd n)):=by
 cases x with
 |none=>cases ax with
  |none=>exact ⟨d,h,.inl ⟨rfl,rfl⟩⟩
  |some _=>simp[aNn]at hx
 |some x=>cases ax with
  |none=>simp[aNn]at hx
  |some ax=>
   simp only[bnd]at h
   obtain ⟨kd,row,e,hA⟩:=aG h
   have hv:=qA hs hx hF;rw[e]at hv
   exact ⟨_,hA,.inr ⟨kd,by simp[hv.of_int]⟩⟩
theorem aUJ {isS:Bool} {len cap:Nat} {lo hi:Option Value} {m n:Int} (hlo:(lo=none∧m=0)∨∃k,lo=some (.int k m)) (hhi:(hi=none∧n=len)∨∃k,hi=some (.int k n)) (h0:0≤m) (h1:m≤n) (h2:n≤cap) (w:World):
 (Instr.sliceBounds isS len cap lo hi none).run P w= .ok (m.toNat,n.toNat,cap) w:=by
 have en:(n.toNat:Int)=n:=Int.toNat_of_nonneg (by omega)
 have hn0:0≤n:=by omega
 rcases hlo with ⟨rfl,rfl⟩|⟨k,rfl⟩<;>rcases hhi with ⟨rfl,rfl⟩|⟨k',rfl⟩<;>
  simp[Instr.sliceBounds,run_sliceBound,h0,h1,h2,hn0,en]
theorem a0f (a:Addr) (ha:a.spot=none) (cap m n:Nat):∃ad:Addr,(if cap=m then some a else (some a).map (·.add (m*n)))=some ad∧(cap≠m∨m=0→ad=⟨a.block,a.off+m*n,none⟩):=by
 by_cases h:cap=m
 ·refine ⟨a,by rw[if_pos h],fun hn=> ?_⟩
  rcases hn with hn |hn
  ·exact absurd h hn
  ·subst hn;cases a;simp at ha;simp[ha]
 ·refine ⟨⟨a.block,a.off+m*n,none⟩, ?_,fun _=>rfl⟩
  rw[if_neg h,Option.map_some,add_eq a ha]
theorem iB.aYK {id bO off len cap:Nat} {l:L} {rows:List Row} {ad:Addr} (ho:St[id]? =some (.arr bO l (.sl rows))) (hc:cap=pl.cap id - off) (hle:rows.length≤pl.cap id) (hl:off+len≤rows.length)
 (ha:len≠0∨off=0→ad=⟨pl.blk id,off*l.n,none⟩):iB P T S pl St (.own id bO off len) (.slice (some ad) len cap):=by
 refine .own rfl ho (fun h=>by cases h) (fun v l c e=> ?_) (fun l' r e=> ?_) (fun l e=> ?_)
 ·cases e;exact Nat.le_refl _
 ·cases e;subst hc;exact ⟨ad,rfl,hl,hle,ha⟩
 ·cases e
section
variable {o:Oper} {x y c:Operand} {ax ay ac:rD} {base:Nat}
variable (hs:mW P T S pl St w) (hF:wX P T S pl St F a.tmps)
include hs hF
theorem bDz {t:TypeId} {lo hi:Option Operand} {alo ahi:Option rD} {ob:Obj} {av:AV} {no:Option Obj} (ho:o.op= .slice t x lo hi none) (ht:P.underlying t=some .string) (hx:oA P T x ax=true)
 (hlo:aNn P T lo alo=true) (hhi:aNn P T hi ahi=true)
 (h:rG E F St ob (.slcS ax alo ahi) base cB=some (av,no)):no=none∧cE P o a w (bB P T S pl St w St av):=by
 simp only[rG]at h
 obtain ⟨r,ex,hA⟩:=jT h
 have hv:=qA hs hx hF;rw[ex]at hv;obtain ⟨b,e1,q1⟩:=hv.aFm
 obtain ⟨m,hB,hm⟩:=aBq hs hF hlo hA
 obtain ⟨n,hC,hn⟩:=aBq hs hF hhi hB
 obtain ⟨hlt,hD⟩:=jD hC
 simp only[cB,Option.some.injEq,Prod.mk.injEq]at hD
 obtain ⟨rfl,rfl⟩:=hD
 rw[←q1,bsize]at hlt hn
 have hb:=aUJ (P:=P) (isS:=false) (cap:=b.size) hm hn hlt.1 hlt.2.1 hlt.2.2 w
 refine ⟨rfl,mA (v:= .string (b.extract m.toNat n.toNat)) (w':=w) ?_ (.same hs ?_)⟩
 ·simp only[execOp,ho]
  refine qW ?_
  rw[run_sliceAt_string w t _ _ _ _ ht,e1]
  simp[Instr.slice,run_underlying ht,hb]
 ·rw[←q1]
  have e:(b.extract m.toNat n.toNat).data.toList=(b.data.toList.take n.toNat).drop m.toNat:=by
   rw[Lib.extract_data,List.drop_take]
  rw[←e];exact bDa _
theorem bF1 {t e:TypeId} {l:L} {lo hi:Option Operand} {alo ahi:Option rD} {ob:Obj} {av:AV} {no:Option Obj} (ho:o.op= .slice t x lo hi none) (hel:aJ7 P t e l=true) (hx:oA P T x ax=true)
 (hlo:aNn P T lo alo=true) (hhi:aNn P T hi ahi=true) (oB:∀id,tJ (ax.ev F)=some id→St[id]? =some ob)
 (h:rG E F St ob (.slc e l ax alo ahi) base cB=some (av,no)):no=none∧cE P o a w (bB P T S pl St w St av):=by
 obtain ⟨hu,hL⟩:=tO hel
 have hv:=qA hs hx hF
 have key:∀(ad:Option Addr) (len cap:Nat) (m n:Int),a.eval x= .slice ad len cap→((lo.map a.eval=none∧m=0)∨∃kd,lo.map a.eval=some (.int kd m))→
  ((hi.map a.eval=none∧n=len)∨∃kd,hi.map a.eval=some (.int kd n))→0≤m→m≤n→n≤cap→
  (execOp a.eval o).run P w= .ok (.value (.slice (if cap=m.toNat then ad else ad.map (·.add (m.toNat*l.n))) (n.toNat - m.toNat) (cap - m.toNat))) w:=by
  intro ad len cap m n hvx hm hn h0 h1 h2
  have hb:=aUJ (P:=P) (isS:=true) (len:=len) hm hn h0 h1 h2 w
  simp only[execOp,ho]
  refine qW ?_
  rw[hvx]
  simp[Instr.sliceAt,Instr.slice,run_underlying hu,hb,hL.size w]
 simp only[rG]at h
 split at h
 ·rename_i e' r ex
  obtain ⟨hb,hA⟩:=lA h
  obtain rfl:=Nat.eq_of_beq_eq_true hb
  obtain ⟨m,hB,hm⟩:=aBq hs hF hlo hA
  obtain ⟨n,hC,hn⟩:=aBq hs hF hhi hB
  obtain ⟨hlt,hD⟩:=jD hC
  simp only[cB,Option.some.injEq,Prod.mk.injEq]at hD
  obtain ⟨rfl,rfl⟩:=hD
  rw[ex]at hv
  rcases hv.aOM with ⟨e1,e2⟩|⟨l',rows,ad,cap,f,e1,e2,h1,h2,h3,h4,h5,h6⟩
  ·rw[e2]at hlt hn⊢
   simp only[C.rows,List.length_nil]at hlt hn
   have m0:m.toNat=0:=by omega
   have n0:n.toNat=0:=by omega
   refine ⟨rfl,mA (key _ _ _ _ _ e1 hm (by simpa using hn) hlt.1 hlt.2.1 (by omega)) (.same hs (.d ⟨_,rfl, ?_⟩))⟩
   simp[m0,n0,eR];exact .bA
  ·obtain rfl:=h1.inj hL
   rw[e2]at hlt hn⊢
   simp only[C.rows]at hlt hn
   refine ⟨rfl,mA (key _ _ _ _ _ e1 hm hn hlt.1 hlt.2.1 (by omega)) (.same hs (.d ⟨_,rfl, ?_⟩))⟩
   simp only[eR,C.rows,Option.map_some]
   have hlen:((rows.take n.toNat).drop m.toNat).length=n.toNat - m.toNat:=by simp;omega
   have hat:∀i,i<n.toNat - m.toNat→aA ((rows.take n.toNat).drop m.toNat) i=aA rows (m.toNat+i):=by
    intro i hi
    simp[aA,List.getD_eq_getElem?_getD,List.getElem?_drop,List.getElem?_take,show m.toNat+i<n.toNat from by omega]
   by_cases hz:n.toNat - m.toNat=0
   ·have aRF:(rows.take n.toNat).drop m.toNat=[]:=List.eq_nil_of_length_eq_zero (by rw[hlen];exact hz)
    rw[hz,aRF]
    by_cases hc:cap=m.toNat
    ·rw[if_pos hc]
     exact .sl (fun _ _=>undef) h1 rfl (by omega) (by simp) (fun h=>absurd rfl h) (fun i j hi _=>by omega) (fun i j k hi _=>by omega)
    ·rw[if_neg hc]
     exact .sl (fun _ _=>undef) h1 rfl (by omega) (by simp) (fun h=>absurd rfl h) (fun i j hi _=>by omega) (fun i j k hi _=>by omega)
   ·have hc:¬cap=m.toNat:=by omega
    rw[if_neg hc]
    have bF2:=h4 (by omega)
    rw[add_eq ad bF2]
    refine .sl (fun i j=>f (m.toNat+i) j) h1 hlen (by omega) (fun r hr=>h3 r (List.mem_of_mem_take (List.mem_of_mem_drop hr))) (fun _=>rfl) (fun i j hi hj=> ?_) (fun i j k hi hk=> ?_)
    ·have:=h5 (m.toNat+i) j (by omega) hj
     simp only
     rw[←this,Nat.add_mul]
     congr 1;omega
    ·rw[hat i hi];exact h6 (m.toNat+i) j k (by omega) hk
 ·rename_i id v ex
  have oB:=oB id (aD3 (by rw[ex];rfl))
  rw[ex]at hv
  obtain ⟨l',c,rfl,hA⟩:=eE h
  obtain ⟨hlb,hA2⟩:=lA hA
  obtain rfl:=L.beq_eq hlb
  split at hA2
  ·obtain ⟨m,hB,hm⟩:=aBq hs hF hlo hA2
   obtain ⟨n,hC,hn⟩:=aBq hs hF hhi hB
   obtain ⟨hlt,hD⟩:=jD hC
   simp only[cB,Option.some.injEq,Prod.mk.injEq]at hD
   obtain ⟨rfl,rfl⟩:=hD
   rcases hs.objs _ _ oB with hq |⟨qP,cur,e2,i,hq,hh,q1,q2,q3,q4,q5,q6,q7⟩
   ·simp at hq
   ·simp at hq;subst hq
    have e1:=(hv.bQ oB).2 _ rfl
    refine ⟨rfl,mA (key _ _ _ _ _ e1 hm hn hlt.1 hlt.2.1 (by omega)) (.same hs ?_)⟩
    obtain ⟨ad,had,hz⟩:=a0f (⟨pl.blk id,0,none⟩:Addr) rfl (pl.cap id) m.toNat l.n
    rw[had]
    refine .aYK oB rfl q4 (by omega) (fun hne=> ?_)
    rw[hz (by omega)];simp
  ·simp at hA2
 ·rename_i id v off len ex
  have oB:=oB id (aD3 (by rw[ex];rfl))
  rw[ex]at hv
  obtain ⟨l',c,rfl,hA⟩:=eE h
  obtain ⟨hlb,hA2⟩:=lA hA
  obtain rfl:=L.beq_eq hlb
  unfold aM7 at hA2
  split at hA2
  ·rename_i rows
   obtain ⟨m,hB,hm⟩:=aBq hs hF hlo hA2
   obtain ⟨n,hC,hn⟩:=aBq hs hF hhi hB
   obtain ⟨hlt,hD⟩:=jD hC
   simp only[cB,Option.some.injEq,Prod.mk.injEq]at hD
   obtain ⟨rfl,rfl⟩:=hD
   obtain ⟨ad0,e1,h1,h2,h3⟩:=hv.a3v oB
   refine ⟨rfl,mA (key _ _ _ _ _ e1 hm hn hlt.1 hlt.2.1 (by omega)) (.same hs ?_)⟩
   by_cases hz:len=0∧off≠0
   ·have hm0:m.toNat=0:=by omega
    have hn0:n.toNat=0:=by omega
    rw[hm0,hn0]
    by_cases hc:pl.cap id - off=0
    ·rw[if_pos hc];exact .aYK oB (by omega) h2 (by omega) (fun hne=>by omega)
    ·rw[if_neg hc];exact .aYK oB (by omega) h2 (by omega) (fun hne=>by omega)
   ·obtain rfl:=h3 (by omega)
    obtain ⟨ad,had,hz⟩:=a0f (⟨pl.blk id,off*l.n,none⟩:Addr) rfl (pl.cap id - off) m.toNat l.n
    rw[had]
    refine .aYK oB (by omega) h2 (by omega) (fun hne=> ?_)
    rw[hz (by omega)];simp[Nat.add_mul]
  ·simp at hA2
 ·simp at h
end
end Go.Ev
namespace Go.Ev
variable {E:Env} {P:Program} {T:Nat→yF} {S S':yA} {pl wD:Pl} {St dD:Ev.St} {F:Fr} {a:Act} {w w':World}
theorem aJ8 {i u b cap:Nat} {l:L} {o:Obj} {c':C} {v':Value} (hs:mW P T S pl St w) (oB:St[i]? =some o) (kT:o= .fresh∨∃v0 c0,o= .arr v0 l c0∧v0<u)
 (hw:w'.os=w.os∧w'.tape=w.tape∧w'.output=w.output) (hsz:w.heap.size≤w'.heap.size)
 (hold:∀k,k<w.heap.size→(o.has=true→k≠pl.blk i)→w'.heap[k]? =w.heap[k]?)
 (hb:(o.has=true∧b=pl.blk i)∨w.heap.size≤b)
 (aOu:n9 P T S (pl.at i b cap) (St.set i (.arr u l c')) w' i (.arr u l c'))
 (hv:(c'= .bA∧v'= .slice none 0 0)∨∃rows,c'= .sl rows∧v'= .slice (some ⟨b,0,none⟩) rows.length cap):
 bB P T S pl St w (St.set i (.arr u l c')) (.whole i u) v' w':=by
 have hlt:i<St.length:=(List.getElem?_eq_some_iff.1 oB).1
 have hk:kD pl St (pl.at i b cap) (St.set i (.arr u l c')):=by
  intro id o1 h hf
  by_cases hne:id=i
  ·subst hne
   rw[oB]at h;obtain rfl:=Option.some.inj h
   refine ⟨.arr u l c',List.getElem?_set_self hlt,by simp,fun l row e=>(by cases e),fun c vs e=>(by cases e),fun v l' c e=> ?_,fun _ _ _ _ e=>(by cases e),fun _ _ _ e=>(by cases e),fun _ _ _ _ e=>(by cases e)⟩
   cases e
   rcases kT with h |⟨v0,c0,rfl,hv0⟩
   ·exact absurd h hf
   ·exact ⟨v0,c0,rfl,Nat.le_of_lt hv0,fun e=>by omega⟩
  ·exact ⟨o1,by rw[List.getElem?_set_ne (Ne.symm hne)];exact h,hf,kD.same (pl.qZ i _ _ id hne).1 (pl.qZ i _ _ id hne).2⟩
 refine ⟨S,pl.at i b cap, ?_,⟨hw.1,hw.2.1,hw.2.2,hsz,fun k hk hn=>hold k hk (fun ho e=>hn ⟨i,o,oB,ho,(by rcases kT with rfl |⟨v0,c0,rfl,_⟩<;>rfl),e.symm⟩),S.le_refl,fun _ _ _ _=>rfl⟩, ?_,fun _ _ h=>h.keep hk S.le_refl, ?_⟩
 ·refine hs.upd hlt hk S.le_refl (pl.qZ i _ _) (fun j o1 hj h ho=>hold _ (hs.aAZ h ho) (fun ho' e=>hj (hs.inj j i _ _ h oB ho ho' e))) (fun b o1 v h=> ?_) aOu (fun _ off _=> ?_) (fun j o _ h ho=>hs.apart j o h ho) (fun _ j o1 hj h ho=> ?_) (fun g hg ha=>⟨hold g hg (fun ho e=>ha i o oB ho e.symm),fun _=>by
   rw[Pl.lD]
   rcases hb with ⟨ho',rfl⟩|hb
   ·exact ha i o oB ho'
   ·omega⟩)
  ·rw[World.cell?_of_block (w:=w) (w':=w') (hold b (hs.aD4 h) (fun ho e=>by have:=hs.apart i o oB ho o1 (by rcases kT with rfl |⟨v0,c0,rfl,_⟩<;>exact Nat.zero_le _);rw[←e,h]at this;cases this))];exact hs.yM _ _ _ h
  ·rw[Pl.lD]
   rcases hb with ⟨ho,rfl⟩|hb
   ·exact hs.apart i o oB ho off (by rcases kT with rfl |⟨v0,c0,rfl,_⟩<;>exact Nat.zero_le _)
   ·cases hS:S b off with
    |none=>rfl
    |some v=>exact absurd (hs.aD4 hS) (by omega)
  ·rw[Pl.lD]
   rcases hb with ⟨ho',rfl⟩|hb
   ·exact fun e=>hj (hs.inj j i _ _ h oB ho ho' e)
   ·have:=hs.aAZ h ho;omega
 ·rcases hv with ⟨rfl,rfl⟩|⟨rows,rfl,rfl⟩
  ·exact .aOf (List.getElem?_set_self hlt)
  ·have:=iB.a6y (P:=P) (T:=T) (S:=S) (pl:=pl.at i b cap) (St:=St.set i (.arr u l (.sl rows))) (List.getElem?_set_self hlt)
   rw[Pl.lD,Pl.bG]at this;exact this
 ·rintro b' ⟨id,o1,h,ho,hc1,hb'⟩
  by_cases hid:id=i
  ·subst hid;rw[Pl.lD]at hb';subst hb'
   rcases hb with ⟨ho',rfl⟩|hb
   ·exact .inl ⟨id,o,oB,ho',(by rcases kT with rfl |⟨v0,c0,rfl,_⟩<;>rfl),rfl⟩
   ·exact .inr hb
  ·rw[List.getElem?_set_ne (Ne.symm hid)]at h
   rw[(pl.qZ i _ _ id hid).1]at hb'
   exact .inl ⟨id,o1,h,ho,hc1,hb'⟩
theorem a3x {A:Type} (xs t:List A) (o n:Nat) (h:o+n≤xs.length):((xs++t).drop o).take n=(xs.drop o).take n:=by
 rw[List.drop_append_of_le_length (by omega),List.take_append_of_le_length (by simp;omega)]
theorem rC.more {l:L} {xs t:List Value} {r:List Row} (h:rC P T S l xs r):rC P T S l (xs++t) r:=by
 refine ⟨by have:=h.len;simp;omega,fun i row hi=> ?_⟩
 have hi':=(List.getElem?_eq_some_iff.1 hi).1
 have hle:=Nat.mul_le_mul_right l.n (show i+1≤r.length from hi')
 have aWa:(i+1)*l.n=i*l.n+l.n:=Nat.succ_mul _ _
 have hlen:=h.len
 rw[a3x _ _ _ _ (by omega)];exact h.row i row hi
theorem rC.take {l:L} {xs:List Value} {r:List Row} (h:rC P T S l xs r):rC P T S l (xs.take (r.length*l.n)) r:=by
 have hlen:=h.len
 refine ⟨by simp;omega,fun i row hi=> ?_⟩
 have hi':=(List.getElem?_eq_some_iff.1 hi).1
 have hle:=Nat.mul_le_mul_right l.n (show i+1≤r.length from hi')
 have aWa:(i+1)*l.n=i*l.n+l.n:=Nat.succ_mul _ _
 have:=h.row i row hi
 rw[←List.take_append_drop (r.length*l.n) xs,a3x _ _ _ _ (by simp;omega)]at this
 exact this
theorem rC.app {l:L} {xs ys:List Value} {r1 r2:List Row} (h1:rC P T S l xs r1) (hx:xs.length=r1.length*l.n) (h2:rC P T S l ys r2):rC P T S l (xs++ys) (r1++r2):=by
 refine ⟨by have:=h2.len;simp[Nat.add_mul];omega,fun i row hi=> ?_⟩
 by_cases hi1:i<r1.length
 ·rw[List.getElem?_append_left hi1]at hi
  exact h1.more.row i row hi
 ·have hge:r1.length≤i:=by omega
  rw[List.getElem?_append_right hge]at hi
  have e:i*l.n=xs.length+(i - r1.length)*l.n:=by
   rw[hx,←Nat.add_mul];congr 1;omega
  rw[e,←List.drop_drop,List.drop_left]
  exact h2.row _ row hi
theorem aPd {l:L} {rows:List Row} {ad:Addr} {f:Nat→Nat→Value} (hs:mW P T S pl St w) (hn:0<l.n) (h3:∀r∈rows,r.length=l.n) (h4:rows.length≠0→ad.spot=none)
 (h5:∀i j,i<rows.length→j<l.n→S ad.block (ad.off+i*l.n+j)=some (f i j))
 (h6:∀i j k,i<rows.length→l.ks[j]? =some k→gO P T S k (f i j) (at_ (aA rows i) j)):
 ∃news:List Value,news.length=rows.length*l.n∧rC P T S l news rows∧(∀j u,news[j]? =some u→w.cell? (ad.add j)=some u)∧∀u∈news,u.oneCell'=true:=by
 have hd:∀i j,j<l.n→(i*l.n+j)/l.n=i∧(i*l.n+j)% l.n=j:=fun i j hj=>by
  constructor
  ·rw[Nat.mul_comm,Nat.mul_add_div hn,Nat.div_eq_of_lt hj,Nat.add_zero]
  ·rw[Nat.mul_comm,Nat.mul_add_mod,Nat.mod_eq_of_lt hj]
 have hq:∀q,q<rows.length*l.n→q/l.n<rows.length∧q % l.n<l.n:=fun q hq=>⟨Nat.div_lt_of_lt_mul (by rw[Nat.mul_comm];exact hq),Nat.mod_lt _ hn⟩
 refine ⟨(List.range (rows.length*l.n)).map fun q=>f (q/l.n) (q % l.n),by simp,⟨by simp,fun i r hi=> ?_⟩,fun j u hj=> ?_,fun u hu=> ?_⟩
 ·have hi':=(List.getElem?_eq_some_iff.1 hi).1
  have hr:aA rows i=r:=by simp[aA,List.getD_eq_getElem?_getD,hi]
  have hle:=Nat.mul_le_mul_right l.n (show i+1≤rows.length from hi')
  have aWa:(i+1)*l.n=i*l.n+l.n:=Nat.succ_mul _ _
  refine ⟨by simp[L.n]at hle aWa⊢;omega,by rw[h3 r (List.mem_of_getElem? hi)];rfl,fun j k hk=> ?_⟩
  have hj:j<l.n:=(List.getElem?_eq_some_iff.1 hk).1
  have:=h6 i j k hi' hk
  rw[hr]at this
  have e:((((List.range (rows.length*l.n)).map fun q=>f (q/l.n) (q % l.n)).drop (i*l.n)).take l.n).getD j undef=f i j:=by
   have h1:i*l.n+j<rows.length*l.n:=by omega
   simp[List.getD_eq_getElem?_getD,hj,List.getElem?_range h1,(hd i j hj).1,(hd i j hj).2]
  rw[e];exact this
 ·have hjl:j<rows.length*l.n:=by have:=(List.getElem?_eq_some_iff.1 hj).1;simpa using this
  simp[List.getElem?_range hjl]at hj
  have:=hs.yM _ _ _ (h5 (j/l.n) (j % l.n) (hq j hjl).1 (hq j hjl).2)
  rw[hj]at this
  have hz:rows.length≠0:=fun e=>by rw[e]at hjl;omega
  rw[add_eq ad (h4 hz)]
  rw[←this]
  congr 2
  have:=Nat.div_add_mod j l.n
  rw[Nat.mul_comm]at this
  omega
 ·simp only[List.mem_map,List.mem_range]at hu
  obtain ⟨q,hql,rfl⟩:=hu
  have:=hq q hql
  obtain ⟨k,hk⟩:∃k,l.ks[q % l.n]? =some k:=⟨_,List.getElem?_eq_getElem (show q % l.n<l.ks.length from this.2)⟩
  exact (h6 _ _ k this.1 hk).wB.1
theorem aME {t ty e:TypeId} {i:TypeInfo} (ht:P.underlying t=some (.slice e)) (hi:P.info? e=some i) (base:Option Addr) (n cap:Nat) (hle:n≤cap) (q:Option Addr) (c':Nat) (w:World):
 (Builtin.append_ #[t,t] ty #[.slice base n cap,.slice q 0 c']).run P w= .ok (.slice base n cap) w:=by
 cases base<;>cases q<;>simp[Builtin.append_,run_underlying ht,sizeOf,typeInfo,hi,Builtin.lenOf,Builtin.firstCells,loadCells,loadCellsFrom,hle,storeCells]
def aWg (P:Program) (t e:TypeId) (l:L) (bytes:Nat):Bool:=
 aJ7 P t e l&&Nat.blt 0 l.n&&Nat.blt 0 bytes&&
 (match P.info? e with |some i=>Nat.beq i.bytes bytes&&(match i.zero with |some zv=>Nat.beq zv.cells.size l.n |none=>false)|none=>false)
theorem aDs {t e:TypeId} {l:L} {bytes:Nat} (h:aWg P t e l bytes=true):P.underlying t=some (.slice e)∧Lay P e l∧0<l.n∧0<bytes∧∃i zv,P.info? e=some i∧i.bytes=bytes∧i.zero=some zv∧zv.cells.size=l.n∧i.size=l.n:=by
 simp only[aWg,Bool.and_eq_true]at h
 obtain ⟨⟨⟨h1,h2⟩,h3⟩,h4⟩:=h
 obtain ⟨hu,hL⟩:=tO h1
 split at h4
 ·rename_i i hi
  simp only[Bool.and_eq_true]at h4
  split at h4
  ·rename_i zv hz
   obtain ⟨i',hi',hsz⟩:=hL.2
   rw[hi]at hi';obtain rfl:=Option.some.inj hi'
   exact ⟨hu,hL,by simpa using h2,by simpa using h3,i,zv,hi,Nat.eq_of_beq_eq_true h4.1,hz,Nat.eq_of_beq_eq_true h4.2,hsz⟩
  ·simp at h4
 ·simp at h4
theorem a0g (w:World) (t ty e e2:TypeId) (i:TypeInfo) (ht:P.underlying t=some (.slice e)) (hi:P.info? e=some i)
 (g sLen sCap:Nat) (cur:Array Value) (hg:w.heap[g]? =some (.cells cur e2 (0,0)))
 (a:Addr) (m c:Nat) (news:List Value) (hl:news.length=m*i.size) (hnews:∀j u,news[j]? =some u→w.cell? (a.add j)=some u) (h1:∀u∈news,u.oneCell'=true)
 (hroom:sLen+m≤sCap) (hfit:sLen*i.size+news.length≤cur.size):
 (Builtin.append_ #[t,t] ty #[.slice (some ⟨g,0,none⟩) sLen sCap,.slice (some a) m c]).run P w=
   .ok (.slice (some ⟨g,0,none⟩) (sLen+m) sCap) (w.setRow g (cur.toList.take (sLen*i.size)++news++cur.toList.drop (sLen*i.size+news.length)).toArray):=by
 have hf:=run_firstCells_some (P:=P) w i.size m a m c news hl hnews
 have hst:=run_storeCells_at P g (sLen*i.size) e2 news 0 cur w hg (by simpa using hfit) h1
 simp only[Nat.add_zero]at hst
 simp[Builtin.append_,run_underlying ht,sizeOf,typeInfo,hi,Builtin.lenOf,hroom,hf,Addr.add_lit,hst]
theorem a3y {t ty e:TypeId} {l:L} {bytes:Nat} (hB:aWg P t e l bytes=true) (hs:mW P T S pl St w) {i u:Nat} {ob:Obj} {c:C} {v0:Value} (oB:St[i]? =some ob)
 (kT:(ob= .fresh∧c= .bA)∨∃v1,ob= .arr v1 l c∧v1<u)
 (hv0:(c= .bA∧v0= .slice none 0 0)∨∃rows,c= .sl rows∧v0= .slice (some ⟨pl.blk i,0,none⟩) rows.length (pl.cap i))
 (q:Option Addr) (m c2:Nat) (news:List Value) (aDj:List Row) (hnr:aDj.length=m) (hq:m≠0→∃ad,q=some ad∧news.length=m*l.n∧rC P T S l news aDj∧(∀j u,news[j]? =some u→w.cell? (ad.add j)=some u)∧∀u∈news,u.oneCell'=true)
 (aLd:(c.rows.length+m)*bytes≤140737488355328):
 ∃v' w',(Builtin.append_ #[t,t] ty #[v0,.slice q m c2]).run P w= .ok v' w'∧bB P T S pl St w (St.set i (.arr u l (wE c aDj))) (.whole i u) v' w':=by
 obtain ⟨hu,hL,hn,hby,inf,zv,hi,hib,hz,hzs,hsz⟩:=aDs hB
 have aLe:ob= .fresh∨∃v1 c1,ob= .arr v1 l c1∧v1<u:=by
  rcases kT with ⟨h,_⟩|⟨v1,h,hlt⟩
  ·exact .inl h
  ·exact .inr ⟨v1,c,h,hlt⟩
 have bDA:c.rows.length+m≤140737488355328:=Nat.le_trans (Nat.le_mul_of_pos_right _ hby) aLd
 have aYM:((c.rows.length+m:Nat):Int)≤9223372036854775807:=by omega
 have grown:∀(old:Nat) (olds:List Value),olds.length=c.rows.length*l.n→rC P T S l olds c.rows→old<c.rows.length+m→m≠0→
  bB P T S pl St w (St.set i (.arr u l (.sl (c.rows++aDj)))) (.whole i u) (.slice (some ⟨w.heap.size,0,none⟩) (c.rows.length+m) (grownCap w (c.rows.length+m) old e))
   (w.drew.alloc (.cells (olds.toArray++news.toArray++Builtin.zeroCells zv.cells (grownCap w (c.rows.length+m) old e - (c.rows.length+m))) e)):=by
  intro old olds vE hor ho hm
  obtain ⟨ad,_,hnl,bDB,_,_⟩:=hq hm
  have hge:=grownCap_ge w (c.rows.length+m) old e
  have hcm:grownCap w (c.rows.length+m) old e≤maxLen:=grownCap_le_maxLen w _ old e (by simp[maxLen];omega)
  refine aJ8 (b:=w.heap.size) (cap:=grownCap w (c.rows.length+m) old e) hs oB aLe ⟨rfl,rfl,rfl⟩ (by simp) (fun k hk _=>by have:=heap_alloc_old w.drew (.cells (olds.toArray++news.toArray++Builtin.zeroCells zv.cells (grownCap w (c.rows.length+m) old e - (c.rows.length+m))) e) hk;exact this) (.inr (Nat.le_refl _)) ?_ (.inr ⟨_,rfl,by simp[hnr]⟩)
  refine .inr ⟨_,_,e,inf,rfl,by rw[Pl.lD];exact heap_alloc_new w.drew _,hL,hi,hn,by rw[Pl.bG];simp[hnr,hge],by rw[Pl.bG];exact hcm, ?_,fun j r hj=> ?_⟩
  ·rw[Pl.bG]
   simp only[Array.size_append,List.size_toArray,size_zeroCells,hzs,vE,hnl,←Nat.add_mul]
   congr 1;omega
  ·have:=(hor.app vE bDB).more (t:=(Builtin.zeroCells zv.cells (grownCap w (c.rows.length+m) old e - (c.rows.length+m))).toList)
   have:=this.row j r hj
   simpa using this
 by_cases hm:m=0
 ·subst hm
  have aRF:aDj=[]:=List.eq_nil_of_length_eq_zero hnr
  subst aRF
  rcases hv0 with ⟨rfl,rfl⟩|⟨rows,rfl,rfl⟩
  ·refine ⟨_,_,aME hu hi none 0 0 (Nat.le_refl _) q c2 w, ?_⟩
   exact aJ8 (b:=w.heap.size) (cap:=0) hs oB aLe ⟨rfl,rfl,rfl⟩ (Nat.le_refl _) (fun _ _ _=>rfl) (.inr (Nat.le_refl _)) (.inl rfl) (.inl ⟨rfl,rfl⟩)
  ·obtain ⟨v1,rfl,hlt⟩:∃v1,ob= .arr v1 l (.sl rows)∧v1<u:=by
    rcases kT with ⟨_,h⟩|h
    ·cases h
    ·exact h
   rcases hs.objs _ _ oB with hqq |⟨qP,cur,e2,i2,hqq,hh,q1,q2,q3,q4,q5,q6,q7⟩
   ·simp at hqq
   ·simp at hqq;subst hqq
    refine ⟨_,_,aME hu hi _ _ _ q4 q c2 w, ?_⟩
    have a2n:wE (.sl rows) []= .sl rows:=by simp[wE,C.rows]
    rw[a2n]
    refine aJ8 (b:=pl.blk i) (cap:=pl.cap i) hs oB aLe ⟨rfl,rfl,rfl⟩ (Nat.le_refl _) (fun _ _ _=>rfl) (.inl ⟨rfl,rfl⟩) ?_ (.inr ⟨_,rfl,rfl⟩)
    exact .inr ⟨rows,cur,e2,i2,rfl,by rw[Pl.lD];exact hh,q1,q2,q3,by rw[Pl.bG];exact q4,by rw[Pl.bG];exact q5,by rw[Pl.bG];exact q6,q7⟩
 ·obtain ⟨ad,rfl,hnl,bDB,hcells,hone⟩:=hq hm
  have a2n:wE c aDj= .sl (c.rows++aDj):=by
   cases aDj with
   |nil=>exact absurd hnr.symm hm
   |cons r rs=>cases c<;>rfl
  rw[a2n]
  rcases hv0 with ⟨rfl,rfl⟩|⟨rows,rfl,rfl⟩
  ·have hr:=run_append_nil (P:=P) w t ty e inf zv hu hi hz ad m c2 news (by rw[hsz];exact hnl) hcells (by omega) (by simp[C.rows]at aYM;omega) (by rw[hib];simp[C.rows]at aLd;omega)
   have:=grown 0 [] (by simp[C.rows]) ⟨by simp[C.rows],fun j r hj=>by simp[C.rows]at hj⟩ (by simp[C.rows];omega) hm
   simp only[C.rows,List.length_nil,Nat.zero_add,Array.empty_append]at this
   exact ⟨_,_,hr,this⟩
  ·obtain ⟨v1,rfl,hlt⟩:∃v1,ob= .arr v1 l (.sl rows)∧v1<u:=by
    rcases kT with ⟨_,h⟩|h
    ·cases h
    ·exact h
   rcases hs.objs _ _ oB with hqq |⟨qP,cur,e2,i2,hqq,hh,q1,q2,q3,q4,q5,q6,q7⟩
   ·simp at hqq
   ·simp at hqq;subst hqq
    have hrr:rC P T S l cur.toList rows:=⟨by rw[show cur.toList.length=cur.size from Array.length_toList,q6];exact Nat.mul_le_mul_right _ q4,q7⟩
    have htl:(cur.toList.take (rows.length*l.n)).length=rows.length*l.n:=by
     have:=hrr.len;rw[List.length_take];omega
    by_cases hroom:rows.length+m≤pl.cap i
    ·have hfit:rows.length*inf.size+news.length≤cur.size:=by rw[hnl,hsz,q6,←Nat.add_mul];exact Nat.mul_le_mul_right _ hroom
     have hr:=a0g (P:=P) w t ty e e2 inf hu hi (pl.blk i) rows.length (pl.cap i) cur hh ad m c2 news (by rw[hsz];exact hnl) hcells hone hroom hfit
     refine ⟨_,_,hr, ?_⟩
     refine aJ8 (b:=pl.blk i) (cap:=pl.cap i) hs oB aLe ⟨rfl,rfl,rfl⟩ (by simp) (fun k hk hne=>setRow_other w _ k _ (hne rfl)) (.inl ⟨rfl,rfl⟩) ?_ (.inr ⟨_,rfl,by simp[hnr,C.rows]⟩)
     refine .inr ⟨_,_,e2,i2,rfl,by rw[Pl.lD];exact setRow_heap w _ cur _ e2 _ hh,q1,q2,hn,by rw[Pl.bG];simp[hnr,C.rows,hroom],by rw[Pl.bG];exact q5, ?_,fun j r hj=> ?_⟩
     ·rw[Pl.bG]
      rw[hsz]at hfit
      simp only[List.size_toArray,List.length_append,List.length_take,List.length_drop,Array.length_toList,hsz]
      rw[←q6];omega
     ·have:=((hrr.take.app htl bDB).more (t:=cur.toList.drop (rows.length*inf.size+news.length))).row j r hj
      simpa[hsz]using this
    ·have a2o:∀j v,(cur.toList.take (rows.length*l.n))[j]? =some v→w.cell? ((⟨pl.blk i,0,none⟩:Addr).add j)=some v:=by
      intro j v hj
      rw[add_eq _ rfl,cell_of_row w _ _ _ _ _ hh]
      rw[List.getElem?_take]at hj
      split at hj
      ·simpa using hj
      ·cases hj
     have hr:=run_append_grow (P:=P) w t ty e inf zv hu hi hz ⟨pl.blk i,0,none⟩ rows.length (pl.cap i) (cur.toList.take (rows.length*l.n)) (by rw[hsz];exact htl) a2o ad m c2 news (by rw[hsz];exact hnl) hcells (by omega) (by simpa[C.rows]using aYM)
      (growslice_fits (by omega) (by rw[hib];simpa[C.rows]using aLd))
     exact ⟨_,_,hr,grown (pl.cap i) _ htl hrr.take (by simp[C.rows];omega) hm⟩
end Go.Ev
namespace Go.Ev
variable {E:Env} {P:Program} {T:Nat→yF} {S S':yA} {pl wD:Pl} {St dD:Ev.St} {F:Fr} {a:Act} {w w':World}
theorem rC.ints {k:IntKind} {xs:List Value} {rows:List Row} (h:rC P T S (.one (.int k)) xs rows) (hl:xs.length=rows.length):xs=rows.map fun r=> .int k (at_ r 0).uA:=by
 apply List.ext_getElem?
 intro i
 by_cases hi:i<rows.length
 ·have hr:=(h.row i _ (List.getElem?_eq_getElem hi)).cell 0 (.int k) rfl
  have e:((xs.drop (i*(L.one (K.int k)).n)).take (L.one (K.int k)).n).getD 0 undef=xs[i]'(by omega):=by
   have hx:i<xs.length:=by omega
   simp[L.n,L.ks,List.getD_eq_getElem?_getD,List.getElem?_eq_getElem hx]
  rw[e]at hr
  have hx:i<xs.length:=by omega
  rw[List.getElem?_eq_getElem hx,List.getElem?_map,List.getElem?_eq_getElem hi,Option.map_some]
  generalize xs[i]=q at hr
  generalize at_ rows[i] 0=c at hr⊢
  cases hr;rfl
 ·rw[List.getElem?_eq_none (by omega),List.getElem?_eq_none (by simp;omega)]
section
variable {o:Oper} {x y c:Operand} {ax ay ac:rD} {base:Nat}
variable (hs:mW P T S pl St w) (hF:wX P T S pl St F a.tmps)
include hs hF
theorem aBr {t u:TypeId} (ho:o.op= .call {callee:= .builtin .append,args:=#[x,y],argTypes:=#[t,u]}) {v':Value} {w':World}
 (h:(Builtin.append_ #[t,u] o.type #[a.eval x,a.eval y]).run P w= .ok v' w'):(execOp a.eval o).run P w= .ok (.value v') w':=by
 unfold execOp
 simp only[ho,resolve,invoke,builtin,Sem.run_bind,Sem.run_pure,Result.andThen_ok,List.map_toArray,List.map_cons,List.map_nil,h]
theorem bF3 {t e:TypeId} {l:L} {id bytes:Nat} {ob:Obj} {av:AV} {no:Option Obj} (ho:o.op= .call {callee:= .builtin .append,args:=#[x,y],argTypes:=#[t,t]})
 (hB:aWg P t e l bytes=true) (hx:oA P T x ax=true) (hy:oA P T y ay=true) (oB:∀j,tgt F (.app id e l bytes ax ay) base=some j→St[j]? =some ob)
 (h:rG E F St ob (.app id e l bytes ax ay) base cB=some (av,no)):∃j o',tgt F (.app id e l bytes ax ay) base=some j∧no=some o'∧cE P o a w (bB P T S pl St w (St.set j o') av):=by
 obtain ⟨hu,hL,hn,hby,_⟩:=aDs hB
 have hvx:=sC hs hx hF
 have hvy:=qA hs hy hF
 simp only[rG]at h
 obtain ⟨e',ry,ey,hA⟩:=aXf h
 obtain ⟨hbe,hB1⟩:=lA hA
 obtain rfl:=Nat.eq_of_beq_eq_true hbe
 rw[ey]at hvy
 have aYO:∃(q:Option Addr) (c2:Nat) (news:List Value),a.eval y= .slice q (at_ ry 0).rows.length c2∧
  ((at_ ry 0).rows.length≠0→∃ad,q=some ad∧news.length=(at_ ry 0).rows.length*l.n∧rC P T S l news (at_ ry 0).rows∧(∀j u,news[j]? =some u→w.cell? (ad.add j)=some u)∧∀u∈news,u.oneCell'=true):=by
  rcases hvy.aOM with ⟨e1,e2⟩|⟨l',rows,ad,cap,f,e1,e2,h1,h2,h3,h4,h5,h6⟩
  ·exact ⟨none,0,[],by rw[e2];exact e1,fun hne=>by rw[e2]at hne;exact absurd rfl hne⟩
  ·obtain rfl:=h1.inj hL
   rw[e2]
   obtain ⟨news,g1,g2,g3,g4⟩:=aPd hs hn h3 h4 h5 h6
   exact ⟨some ad,cap,news,e1,fun _=>⟨ad,rfl,g1,g2,g3,g4⟩⟩
 obtain ⟨q,c2,news,hye,hnews⟩:=aYO
 split at hB1
 ·rename_i e2 r ex
  obtain ⟨hb2,hC⟩:=lA hB1
  obtain rfl:=Nat.eq_of_beq_eq_true hb2
  rw[ex]at hvx
  split at hC
  ·rename_i aRF
   unfold uD at hC
   split at hC
   ·obtain ⟨aLd,hD⟩:=jD hC
    simp only[cB,Option.some.injEq,Prod.mk.injEq]at hD
    obtain ⟨rfl,rfl⟩:=hD
    have htg:tgt F (.app id e l bytes ax ay) base=some (base+id):=by simp[tgt,ex,tJ]
    have e1:a.eval x= .slice none 0 0:=by
     rcases hvx.aOM with ⟨e1,e2⟩|⟨l',rows,ad,cap,f,e1,e2,_⟩
     ·exact e1
     ·rw[aRF]at e2;cases e2
    obtain ⟨v',w',hr,hp⟩:=a3y (ty:=o.type) hB hs (oB _ htg) (.inl ⟨rfl,rfl⟩) (.inl ⟨rfl,rfl⟩) q _ c2 news (at_ ry 0).rows rfl hnews (by simpa[C.rows]using aLd) (u:=0)
    refine ⟨_,_,htg,rfl,mA (aBr hs hF ho ?_) hp⟩
    rw[e1,hye];exact hr
   ·simp at hC
  ·simp at hC
 ·rename_i i v ex
  rw[ex]at hvx
  have htg:tgt F (.app id e l bytes ax ay) base=some i:=by simp[tgt,ex,tJ]
  have oB:=oB _ htg
  obtain ⟨l',c,rfl,hC⟩:=eE hB1
  obtain ⟨hlb,hC2⟩:=lA hC
  obtain rfl:=L.beq_eq hlb
  obtain ⟨aLd,hD⟩:=jD hC2
  simp only[cB,Option.some.injEq,Prod.mk.injEq]at hD
  obtain ⟨rfl,rfl⟩:=hD
  have hv0:(c= .bA∧a.eval x= .slice none 0 0)∨∃rows,c= .sl rows∧a.eval x= .slice (some ⟨pl.blk i,0,none⟩) rows.length (pl.cap i):=by
   have:=hvx.bQ oB
   rcases hs.objs _ _ oB with hq |⟨qP,cur,e2,i2,hq,_⟩
   ·exact .inl ⟨hq,this.1 hq⟩
   ·exact .inr ⟨qP,hq,this.2 _ hq⟩
  obtain ⟨v',w',hr,hp⟩:=a3y (ty:=o.type) hB hs oB (.inr ⟨v,rfl,Nat.lt_succ_self v⟩) hv0 q _ c2 news (at_ ry 0).rows rfl hnews aLd
  refine ⟨_,_,htg,rfl,mA (aBr hs hF ho ?_) hp⟩
  rw[hye];exact hr
 ·simp at hB1
def mkB (P:Program) (T:Nat→yF) (t e:TypeId) (l:L) (z:Row) (bytes:Nat):Bool:=
 aWg P t e l bytes&&(match P.info? e with |some i=>(match i.zero with |some zv=>aAt l zv z |none=>false)|none=>false)
theorem bIW {t e:TypeId} {l:L} {id bytes:Nat} {z:Row} {ob:Obj} {av:AV} {no:Option Obj} (ho:o.op= .makeSlice t x y)
 (hB:mkB P T t e l z bytes=true) (hx:oA P T x ax=true) (hy:oA P T y ay=true) (oB:St[base+id]? =some ob)
 (h:rG E F St ob (.mk id e l z bytes ax ay) base cB=some (av,no)):∃o',no=some o'∧cE P o a w (bB P T S pl St w (St.set (base+id) o') av):=by
 simp only[mkB,Bool.and_eq_true]at hB
 obtain ⟨hB,hzb⟩:=hB
 obtain ⟨hu,hL,hn,hby,i,zv,hi,hib,hz,hzs,hsz⟩:=aDs hB
 rw[hi]at hzb
 simp only[hz]at hzb
 have hzr:=(pM (P:=P) (T:=T) (S:=S) hzb).cells
 simp only[rG,uD]at h
 split at h
 ·obtain ⟨k1,r1,e1,hA⟩:=aG h
  obtain ⟨k2,r2,e2,hC⟩:=aG hA
  obtain ⟨⟨h0,h1,h2,h3⟩,hD⟩:=jD hC
  have gvx:=qA hs hx hF;rw[e1]at gvx;have hvx:=gvx.of_int
  have gvy:=qA hs hy hF;rw[e2]at gvy;have hvy:=gvy.of_int
  clear gvx gvy e1 e2 hA hC h
  simp only[cB,Option.some.injEq,Prod.mk.injEq]at hD
  obtain ⟨rfl,rfl⟩:=hD
  generalize (at_ r1 0).uA=m at*
  generalize (at_ r2 0).uA=n at*
  have hlt:base+id<St.length:=(List.getElem?_eq_some_iff.1 oB).1
  have hr:=run_make (P:=P) w t e i zv hu hi hz k1 k2 m n h0 h1 (by rw[hib,Int.mul_comm];omega) (by omega)
  refine ⟨_,rfl,mA (v:= .slice (some ⟨w.heap.size,0,none⟩) m.toNat n.toNat) (w':=w.alloc (.cells (madeCells zv.cells (n.toNat*i.size)) e)) ?_ ?_⟩
  ·simp only[execOp,ho]
   refine qW ?_
   rw[hvx,hvy];exact hr
  ·refine aJ8 (b:=w.heap.size) (cap:=n.toNat) hs oB (.inl rfl) ⟨rfl,rfl,rfl⟩ (by simp) (fun k hk _=>heap_alloc_old w _ hk) (.inr (Nat.le_refl _)) ?_ (.inr ⟨_,rfl,by simp⟩)
   refine .inr ⟨_,_,e,i,rfl,by rw[Pl.lD];exact heap_alloc_new w _,hL,hi,hn,by rw[Pl.bG];simp;omega,by rw[Pl.bG];simp[maxLen];omega,by rw[Pl.bG,size_madeCells,hsz],fun j r hj=> ?_⟩
   have hall:=yU hzr hn n.toNat
   have:=hall.row j r (by
    have hjm:j<m.toNat:=by have:=(List.getElem?_eq_some_iff.1 hj).1;simpa using this
    have hrz:r=z:=by have:=(List.getElem?_eq_some_iff.1 hj).2;simpa using this.symm
    subst hrz
    rw[List.getElem?_replicate,if_pos (by omega)])
   rw[hsz]
   exact this
 ·simp at h
theorem bF5 {s t e:TypeId} {ob:Obj} {av:AV} {no:Option Obj} (ho:o.op= .convert s t x) (hsu:(P.underlying s).isSome=true) (hel:aJ7 P t e (.one (.int .u8))=true) (he:P.underlying e=some (.int .u8)) (hx:oA P T x ax=true)
 (h:rG E F St ob (.s2b e ax) base cB=some (av,no)):no=none∧cE P o a w (bB P T S pl St w St av):=by
 obtain ⟨hu,hL⟩:=tO hel
 simp only[rG]at h
 obtain ⟨r,ex,hA⟩:=jT h
 have hv:=qA hs hx hF;rw[ex]at hv;obtain ⟨b,e1,q1⟩:=hv.aFm
 simp only[cB,Option.some.injEq,Prod.mk.injEq]at hA
 obtain ⟨rfl,rfl⟩:=hA
 obtain ⟨d,hd⟩:=Option.isSome_iff_exists.1 hsu
 refine ⟨rfl,mA (v:= .slice (some ⟨w.heap.size,0,none⟩) b.size (grownCap w b.size 0 e)) (w':=Lib.bytesWorld w e b) ?_ ?_⟩
 ·simp only[execOp,ho]
  refine qW ?_
  rw[e1];exact Lib.run_convert_string_bytes w s t e b hd hu he
 ·rw[←q1]
  refine aK0 hs ⟨rfl,rfl,rfl⟩ (fun k hk=>Lib.bytesWorld_at_old w e b k hk) (Lib.bytesWorld_size w e b) (Lib.bytesWorld_at_new w e b) b.size ?_
  have hcell:∀i,i<b.size→(S.more w.heap.size ((Lib.bytesCells w e b).toList.take b.size)) w.heap.size i=some (.int .u8 (b.data.toList.getD i 0).toNat):=by
   intro i hi
   simp only[yA.more,if_true]
   rw[List.getElem?_take,if_pos hi]
   have:=Lib.bytesWorld_cell w e b i hi
   rw[cell_of_row _ _ _ _ _ _ (Lib.bytesWorld_at_new w e b)]at this
   simpa using this
  refine .d ⟨_,rfl,.sl (fun i _=> .int .u8 (b.data.toList.getD i 0).toNat) hL (by simp[bsize]) (grownCap_ge w _ _ _) (fun r hr=> ?_) (fun _=>rfl) (fun i j hi hj=> ?_) (fun i j k hi hk=> ?_)⟩
  ·simp only[List.mem_map]at hr
   obtain ⟨c,_,rfl⟩:=hr;rfl
  ·obtain rfl:j=0:=by simp[L.n,L.ks]at hj;exact hj
   simp only[L.n,L.ks,List.length_cons,List.length_nil,Nat.zero_add,Nat.mul_one,Nat.add_zero]
   exact hcell i hi
  ·cases j with
   |succ j=>simp[L.ks]at hk
   |zero=>
    simp[L.ks]at hk;subst hk
    have hil:i<b.data.toList.length:=by rw[bsize];exact hi
    have:at_ (aA (b.data.toList.map uU) i) 0= .int (b.data.toList.getD i 0).toNat:=by
     simp only[aA,List.getD_eq_getElem?_getD,List.getElem?_map,List.getElem?_eq_getElem hil,Option.map_some,Option.getD_some,uU,Ev.at_]
     rfl
    rw[this];exact .int
theorem bF6 {s t e:TypeId} {ob:Obj} {av:AV} {no:Option Obj} (ho:o.op= .convert s t x) (hel:aJ7 P s e (.one (.int .u8))=true) (he:P.underlying e=some (.int .u8)) (ht:P.underlying t=some .string) (hx:oA P T x ax=true)
 (oB:∀id,tJ (ax.ev F)=some id→St[id]? =some ob)
 (h:rG E F St ob (.b2s e ax) base cB=some (av,no)):no=none∧cE P o a w (bB P T S pl St w St av):=by
 obtain ⟨hu,hL⟩:=tO hel
 have hv:=qA hs hx hF
 have key:∀(ad:Addr) (cap:Nat) (news:List Value) (rows:List Row),a.eval x= .slice (some ad) rows.length cap→news.length=rows.length→rC P T S (.one (.int .u8)) news rows→(∀j u,news[j]? =some u→w.cell? (ad.add j)=some u)→
  cE P o a w (bB P T S pl St w St (vS (bytesOf rows))):=by
  intro ad cap news rows hvx hl hr hc
  have hnews:=hr.ints hl
  have aQh:=run_loadCells_list (P:=P) w ad news hc
  rw[hl]at aQh
  have hnm:news=(rows.map fun r=>(at_ r 0).uA).map (Value.int .u8):=by rw[hnews];simp
  rw[hnm]at aQh
  have hrun:=run_bytesToString (P:=P) w ad rows.length cap _ aQh
  have hb:∀(ns:List Int) (b:ByteArray),(ns.foldl (fun r n=>r.push (UInt8.ofNat n.toNat)) b).data.toList=b.data.toList++ns.map fun n=>UInt8.ofNat n.toNat:=by
   intro ns
   induction ns with
   |nil=>intro b;simp
   |cons n ns ih=>intro b;rw[List.foldl_cons,ih];simp[ByteArray.push]
  refine mA (w':=w) ?_ (.same hs (by have:=bDa (P:=P) (T:=T) (S:=S) (pl:=pl) (St:=St) ((rows.map fun r=>(at_ r 0).uA).foldl (fun r n=>r.push (UInt8.ofNat n.toNat)) ByteArray.empty);rw[hb,List.map_map]at this;exact this))
  simp only[execOp,ho]
  refine qW ?_
  rw[hvx,run_convert_bytes_string w s t e _ _ _ hu he ht,hrun]
 have bF7:a.eval x= .slice none 0 0→cE P o a w (bB P T S pl St w St (vS (bytesOf []))):=by
  intro hvx
  refine mA (v:= .string ByteArray.empty) (w':=w) ?_ (.same hs (.d ⟨_,rfl,.str⟩))
  simp only[execOp,ho]
  refine qW ?_
  rw[hvx,run_convert_bytes_string w s t e _ _ _ hu he ht]
  simp[Conv.bytesToString]
 simp only[rG]at h
 split at h
 ·rename_i e' r ex
  obtain ⟨hb,hA⟩:=lA h
  obtain rfl:=Nat.eq_of_beq_eq_true hb
  simp only[cB,Option.some.injEq,Prod.mk.injEq]at hA
  obtain ⟨rfl,rfl⟩:=hA
  rw[ex]at hv
  rcases hv.aOM with ⟨e1,e2⟩|⟨l',rows,ad,cap,f,e1,e2,h1,h2,h3,h4,h5,h6⟩
  ·rw[e2];exact ⟨rfl,bF7 e1⟩
  ·obtain rfl:=h1.inj hL
   obtain ⟨news,g1,g2,g3,g4⟩:=aPd hs (by decide) h3 h4 h5 h6
   rw[e2]
   exact ⟨rfl,key ad cap news rows e1 (by rw[g1];exact Nat.mul_one _) g2 g3⟩
 ·rename_i id v ex
  have oB:=oB id (aD3 (by rw[ex];rfl))
  rw[ex]at hv
  obtain ⟨l',c,rfl,hA⟩:=eE h
  obtain ⟨hlb,hA2⟩:=lA hA
  obtain rfl:=L.beq_eq hlb
  simp only[cB,Option.some.injEq,Prod.mk.injEq]at hA2
  obtain ⟨rfl,rfl⟩:=hA2
  have hw:=hv.bQ oB
  rcases hs.objs _ _ oB with hq |⟨rows,cur,e2,i,hq,hh,q1,q2,q3,q4,q5,q6,q7⟩
  ·rw[hq];exact ⟨rfl,bF7 (hw.1 hq)⟩
  ·rw[hq]
   have q6:cur.size=pl.cap id:=by rw[q6];exact Nat.mul_one _
   have hrr:rC P T S (.one (.int .u8)) cur.toList rows:=⟨by rw[show cur.toList.length=cur.size from Array.length_toList,q6];simp only[L.n,L.ks,List.length_cons,List.length_nil,Nat.zero_add,Nat.mul_one];exact q4,q7⟩
   have hrt:=hrr.take
   have e1:rows.length*(L.one (K.int .u8)).n=rows.length:=Nat.mul_one _
   rw[e1]at hrt
   refine ⟨rfl,key _ _ (cur.toList.take rows.length) rows (hw.2 _ hq) (by rw[List.length_take,show cur.toList.length=cur.size from Array.length_toList];omega) hrt (fun j u hj=> ?_)⟩
   rw[add_eq _ rfl,cell_of_row w _ _ _ _ _ hh]
   rw[List.getElem?_take]at hj
   split at hj
   ·simpa using hj
   ·cases hj
 ·simp at h
end
end Go.Ev
namespace Go.Ev
variable {E:Env} {P:Program} {T:Nat→yF} {S S':yA} {pl wD:Pl} {St dD:Ev.St} {F:Fr} {a:Act} {w w':World}
structure fE (P:Program) (T:Nat→yF) (S:yA) (ls:List L) (vs:List Value) (rows:List Row):Prop where
 aNo:vs.length=ls.length
 aBQ:rows.length=ls.length
 arg:∀i l,ls[i]? =some l→cF P T S l (vs.getD i undef) (aA rows i)
theorem fE.mono (h:S.le S') {ls vs rows} (r:fE P T S ls vs rows):fE P T S' ls vs rows:=⟨r.aNo,r.aBQ,fun i l hi=>(r.arg i l hi).mono h⟩
theorem fE.nil:fE P T S [] [] []:=⟨rfl,rfl,fun i l h=>by simp at h⟩
theorem fE.cons {l v row ls vs rows} (h:cF P T S l v row) (r:fE P T S ls vs rows):fE P T S (l::ls) (v::vs) (row::rows):=by
 refine ⟨by simp[r.aNo],by simp[r.aBQ],fun i l' hi=> ?_⟩
 cases i with
 |zero=>simp at hi;subst hi;simpa[aA]using h
 |succ i=>simpa[aA]using r.arg i l' (by simpa using hi)
theorem fE.append {ls vs rows ls2 vs2 bAS} (h:fE P T S ls vs rows) (r:fE P T S ls2 vs2 bAS):fE P T S (ls++ls2) (vs++vs2) (rows++bAS):=by
 have h1:=h.aNo
 have h2:=h.aBQ
 refine ⟨by simp[h.aNo,r.aNo],by simp[h.aBQ,r.aBQ],fun i l hi=> ?_⟩
 by_cases hlt:i<ls.length
 ·rw[List.getElem?_append_left hlt]at hi
  have:=h.arg i l hi
  simp only[aA,List.getD_eq_getElem?_getD]at this⊢
  rw[List.getElem?_append_left (by omega),List.getElem?_append_left (by omega)];exact this
 ·rw[List.getElem?_append_right (by omega)]at hi
  have:=r.arg _ l hi
  simp only[aA,List.getD_eq_getElem?_getD]at this⊢
  rw[List.getElem?_append_right (by omega),List.getElem?_append_right (by omega),h1,h2];exact this
def aPe (vs:List Value):Value:=match vs with |[v]=>v |_=> .tuple vs.toArray
def tD (S:yA) (w:World):Prop:=∀b o v,S b o=some v→w.cell? ⟨b,o,none⟩=some v
def aXo (P:Program) (f:Nat):Prop:=∀(a:ByteArray) (c:Int) (w:World),(callFunc f #[.string a,.int .u8 c]).run P w= .ok (.value (.int .i64 (aM8 a.data.toList c.toNat.toUInt8))) w
def aXp (P:Program) (f:Nat):Prop:=∀(a b:ByteArray) (w:World),(callFunc f #[.string a,.string b]).run P w= .ok (.value (.int .i64 (nF a.data.toList b.data.toList))) w
def a6B (P:Program) (T:Nat→yF) (pc:Nat→List Row→Option (List Row)):Prop:=
 ((∀f,T f= .cmp→aXp P f)∧∀f,T f= .ixb→aXo P f)∧∀f rows out ps rs,pc f rows=some out→(T f).sig=some (ps,rs)→∀S w vs,tD S w→hO P T S→xM T w→fE P T S ps vs rows→
   (callFunc f vs.toArray).run P w= .ok (.enter f vs.toArray) w∧
   Calls P f vs.toArray w fun e w'=>∃out' S',e= .returned (aPe out')∧Grow (fun _=>False) S w S' w'∧tD S' w'∧fE P T S' rs out' out
theorem aLf {A:Type} {k:List Row→Option A} {res:A} (hs:mW P T S pl St w) (hF:wX P T S pl St F a.tmps):
 ∀(ps:List L) (xs:List Operand) (axs:List rD),mG P T xs axs=true→rowsOf F St ps axs k=some res→∃rows,fE P T S ps (xs.map a.eval) rows∧k rows=some res
 |[],[],[],_,h=>⟨[],.nil,h⟩
 |[],_::_,[],h,_=>by simp[mG]at h
 |[],[],_::_,h,_=>by simp[mG]at h
 |[],_::_,_::_,_,h=>by simp[rowsOf]at h
 |_::_,[],[],_,h=>by simp[rowsOf]at h
 |_::_,_::_,[],h,_=>by simp[mG]at h
 |_::_,[],_::_,h,_=>by simp[mG]at h
 |l::ls,x::xs,ax::axs,hp,h=>by
  simp only[mG,Bool.and_eq_true]at hp
  simp only[rowsOf]at h
  obtain ⟨l',r,ex,hA⟩:=zM h
  obtain ⟨hb,hB⟩:=lA hA
  obtain rfl:=L.beq_eq hb
  have hv:=qA hs hp.1 hF;rw[ex]at hv
  obtain ⟨rows,h1,h2⟩:=aLf hs hF ls xs axs hp.2 hB
  exact ⟨r::rows,.cons hv.aBR h1,h2⟩
theorem a0i:∀(ls:List L) (rows:List Row) (j i:Nat),(aUv ls rows j)[i]? =(ls[i]?).map fun l=> .d l (nrm l (aA rows (j+i)))
 |[],_,_,_=>by simp[aUv]
 |l::ls,rows,j,0=>by simp[aUv]
 |l::ls,rows,j,i+1=>by
  simp only[aUv,List.getElem?_cons_succ]
  rw[a0i ls rows (j+1) i]
  simp only[Nat.add_assoc,Nat.add_comm 1 i]
theorem aSL:∀(ls:List L) (rows:List Row) (j:Nat),(aUv ls rows j).length=ls.length
 |[],_,_=>rfl
 |l::ls,rows,j=>by simp[aUv,aSL ls rows (j+1)]
theorem a6C {ls:List L} {vs:List Value} {rows:List Row} (h:fE P T S ls vs rows):iB P T S pl St (aZS ls rows) (aPe vs):=by
 have tup:iB P T S pl St (.tup (aUv ls rows 0)) (.tuple vs.toArray):=by
  have:=iB.tup (P:=P) (T:=T) (S:=S) (pl:=pl) (St:=St) (yL:=aUv ls rows 0) (fun i=>vs.getD i undef) (fun i av hi=>by
   rw[a0i]at hi
   obtain ⟨l,hl,rfl⟩:=Option.map_eq_some_iff.1 hi
   have:=h.arg i l hl
   rw[Nat.zero_add,this.nrm];exact .d this)
  have e:((List.range (aUv ls rows 0).length).map fun i=>vs.getD i undef)=vs:=by
   rw[aSL,←h.aNo]
   apply List.ext_getElem?
   intro i
   by_cases hi:i<vs.length
   ·simp[hi]
   ·simp[hi]
  rw[e]at this;exact this
 have hl:=h.aNo
 match ls,vs,hl with
 |[l],[v],_=>
  have:=h.arg 0 l rfl
  simp only[List.getD_cons_zero]at this
  simp only[aZS,aPe,this.nrm]
  exact .d this
 |[],[],_=>exact tup
 |_::_::_,_::_::_,_=>exact tup
section
variable {o:Oper} {x y c:Operand} {ax ay ac:rD} {base:Nat}
variable (hs:mW P T S pl St w) (hF:wX P T S pl St F a.tmps)
include hs hF
theorem aXq {f:Nat} {ps rs:List L} {rows out:List Row} {vs:List Value} (hpc:a6B P T E.pc) (aHW:(T f).sig=some (ps,rs)) (hargs:fE P T S ps vs rows) (hout:E.pc f rows=some out)
 (hrun:(execOp a.eval o).run P w=(callFunc f vs.toArray).run P w):cE P o a w (bB P T S pl St w St (aZS rs out)):=by
 obtain ⟨h1,h2⟩:=hpc.2 f rows out ps rs hout aHW S w vs hs.yM hs.fR hs.gsz hargs
 intro next Q hn
 unfold Oper.wp
 rw[hrun,h1]
 rw[Oper.upon_enter]
 refine h2.mono fun e w' he=> ?_
 obtain ⟨out',S',rfl,hg,hst,hr⟩:=he
 refine hn _ _ ⟨S',pl, ?_, ?_,a6C hr,fun _ _ h=>h.keep (.refl _ _) hg.mono,fun _ h=> .inl h⟩
 ·refine hs.frame hg.mono (fun j ob hj hh=>hg.block _ (hs.aAZ hj hh) (fun h=>h)) hst (fun j ob hj hh off hoff=> ?_) (fun g hlt _=>hg.block g hlt (fun h=>h))
  rw[hg.new _ _ (hs.aAZ hj hh) (fun h=>h)]
  exact hs.apart j ob hj hh off hoff
 ·exact ⟨hg.os,hg.tape,hg.output,hg.size,fun b hb _=>hg.block b hb (fun h=>h),hg.mono,fun b off hb _=>hg.new b off hb (fun h=>h)⟩
def a3z (P:Program) (T:Nat→yF) (f:Nat) (ps rs:List L):Bool:=match (T f).sig with |some (ps',rs')=>aM9 ps ps'&&aM9 rs rs' |none=>false
omit hs hF in
theorem a0j {f:Nat} {ps rs:List L} (h:a3z P T f ps rs=true):(T f).sig=some (ps,rs):=by
 unfold a3z at h
 split at h
 ·rename_i hq
  simp only[Bool.and_eq_true]at h
  rw[hq,aHc h.1,aHc h.2]
 ·simp at h
theorem bDC {f:Nat} {ps rs:List L} {xs:Array Operand} {ts:Array TypeId} {axs:List rD} {ob:Obj} {av:AV} {no:Option Obj} (hpc:a6B P T E.pc)
 (ho:o.op= .call {callee:= .value (.func f),args:=xs,argTypes:=ts}) (hx:mG P T xs.toList axs=true) (hc:a3z P T f ps rs=true)
 (h:rG E F St ob (.call f ps rs axs) base cB=some (av,no)):no=none∧cE P o a w (bB P T S pl St w St av):=by
 simp only[rG]at h
 obtain ⟨rows,h1,h2⟩:=aLf hs hF ps xs.toList axs hx h
 obtain ⟨out,h3,h4⟩:=Option.bind_eq_some_iff.1 h2
 simp only[cB,Option.some.injEq,Prod.mk.injEq]at h4
 obtain ⟨rfl,rfl⟩:=h4
 refine ⟨rfl,aXq hs hF hpc (a0j hc) h1 h3 ?_⟩
 have e:(List.map a.eval xs.toList).toArray=Array.map a.eval xs:=by apply Array.ext';simp
 rw[e]
 unfold execOp
 simp[ho,resolve,Deferred.ofValue,invoke,Act.eval]
def a2p (P:Program) (t:TypeId) (ps rs:List L):Bool:=
 match P.underlying t with
 |some (.func pt rt _)=>(match aDq P pt.toList,aDq P rt.toList with |some ps',some rs'=>aM9 ps ps'&&aM9 rs rs' |_,_=>false)
 |_=>false
theorem a9G {t:TypeId} {ps rs:List L} {xs:Array Operand} {ts:Array TypeId} {axs:List rD} {ob:Obj} {av:AV} {no:Option Obj} (hpc:a6B P T E.pc)
 (ho:o.op= .call {callee:= .value x,args:=xs,argTypes:=ts}) (hx:oA P T x ax=true) (hxs:mG P T xs.toList axs=true) (hc:a2p P t ps rs=true)
 (h:rG E F St ob (.callv t ps rs ax axs) base cB=some (av,no)):no=none∧cE P o a w (bB P T S pl St w St av):=by
 have hv:=sC hs hx hF
 simp only[rG]at h
 split at h
 ·rename_i t' r ex
  rw[ex]at hv
  obtain ⟨hb,hA⟩:=lA h
  obtain rfl:=Nat.eq_of_beq_eq_true hb
  obtain ⟨rows,h1,h2⟩:=aLf hs hF ps xs.toList axs hxs hA
  obtain ⟨out,h3,h4⟩:=Option.bind_eq_some_iff.1 h2
  simp only[cB,Option.some.injEq,Prod.mk.injEq]at h4
  obtain ⟨rfl,rfl⟩:=h4
  obtain ⟨cc,rfl,aF7⟩:=hv.aBR
  have hat:at_ [cc] 0=cc:=rfl
  rw[hat]at h3
  generalize hvv:a.eval x=v at aF7
  cases aF7 with
  |aM5=>simp[aOH]at h3
  | @fn _ f ks cs vs hok hlen bF9=>
    simp only[aOH]at h3
    obtain ⟨pt,rt,vr,ps',rs',hu,hp1,hp2,aHW⟩:=hok
    simp only[a2p,hu,hp1,hp2,Bool.and_eq_true]at hc
    obtain rfl:=aHc hc.1
    obtain rfl:=aHc hc.2
    have hcap:fE P T S (ks.map .one) ((List.range ks.length).map vs) (cs.map fun c=>[c]):=by
     refine ⟨by simp,by simp[hlen],fun i l hi=> ?_⟩
     rw[List.getElem?_map]at hi
     obtain ⟨k,hk,rfl⟩:=Option.map_eq_some_iff.1 hi
     have hi':=(List.getElem?_eq_some_iff.1 hk).1
     have:=bF9 i k hk
     refine ⟨at_ cs i, ?_, ?_⟩
     ·simp[aA,List.getD_eq_getElem?_getD,Ev.at_,show i<cs.length by omega]
     ·simpa[List.getD_eq_getElem?_getD,hi']using this
    refine ⟨rfl,aXq hs hF hpc aHW (h1.append hcap) h3 ?_⟩
    unfold execOp
    simp[ho,resolve,Deferred.ofValue,invoke,hvv,List.map_toArray]
    congr 2
    apply Array.ext'
    simp
 ·simp at h
end
end Go.Ev
