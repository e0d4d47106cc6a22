/-
  Each operation of the abstract machine does what the model's operation does: nil, min, slices of slices, functions, tuples, make, append.
-/
import Derived.Test.YtfonaepdedbhhaaGreatDoorEvG
import Derived.Lib.Strings
import Derived.Lib.ConvBytes
import Derived.Laws.BytesString
import Derived.Laws.MakeOwn
set_option linter.all false
set_option maxRecDepth 100000
namespace Go.Ev
variable {E:Env} {P:Program} {T:Nat→gG} {S S':fB} {pl jE:Pl} {St eD:Ev.St} {F:Fr} {a:Act} {w w':World}
theorem aQF {i:Nat} {o':Obj} {av:AV} {v:Value} (hs:kW P T S pl St w) (hi:St[i]? =some .fresh) (hh:o'.has=false)
 (aKc:∀w',sZ P T S pl (St.set i o') w' i o') (hv:eB P T S pl (St.set i o') av v):aB P T S pl St w (St.set i o') av v w:=by
 have hlt:i<St.length:=(List.getElem?_eq_some_iff.1 hi).1
 have hk:kD pl St pl (St.set i o'):= .fresh hi (fun _ _=>⟨rfl,rfl⟩)
 refine ⟨S,pl, ?_, .refl _ _ _,hv,fun _ _ h=>h.keep hk S.le_refl, ?_⟩
 ·exact hs.upd hlt hk S.le_refl (fun _ _=>⟨rfl,rfl⟩) (fun _ _ _ _ _=>rfl) hs.aCk (aKc w) (fun h=>by rw[hh]at h;cases h) (fun j o _ h ho=>hs.apart j o h ho) (fun h=>by rw[hh]at h;cases h) (fun g _ _=>⟨rfl,fun h=>by rw[hh]at h;cases h⟩)
 ·rintro b ⟨j,o,h,ho,hb⟩
  by_cases hj:j=i
  ·subst hj
   rw[List.getElem?_set_self hlt]at h
   obtain rfl:=Option.some.inj h
   rw[hh]at ho;cases ho
  ·rw[List.getElem?_set_ne (Ne.symm hj)]at h;exact .inl ⟨j,o,h,ho,hb⟩
theorem eB.aM6 {id nO:Nat} {l:L} (h:St[id]? =some (.arr nO l .fA)):eB P T S pl St (.whole id nO) (.slice none 0 0):=
 .whole rfl h (by simp) (fun v l' c' e=>by simp at e;omega) (fun _ _=>rfl) (fun l' rows e=>by simp at e)
theorem eB.aYB {id nO:Nat} {l:L} {rows:List Row} (h:St[id]? =some (.arr nO l (.sl rows))):eB P T S pl St (.whole id nO) (.slice (some ⟨pl.blk id,0,none⟩) rows.length (pl.cap id)):=
 .whole rfl h (by simp) (fun v l' c' e=>by simp at e;omega) (fun l' e=>by simp at e) (fun l' wZ e=>by simp at e;rw[e.2])
section
variable {o:Oper} {x y c:Operand} {ax ay ac:zC} {base:Nat}
variable (hs:kW P T S pl St w) (hF:wX P T S pl St F a.tmps)
include hs hF
def nG (P:Program) (T:Nat→gG):List Operand→List zC→Bool
 |[],[]=>true
 |x::xs,ax::axs=>nA P T x ax&&nG P T xs axs
 |_,_=>false
theorem aLQ {A:Type} {mx:Bool} {k:IntKind} {c:Int→Option A} {res:A}:
 ∀(xs:List Operand) (axs:List zC) (m:Int),nG P T xs axs=true→aFQ F St mx k axs m c=some res→
  ∃n,(List.foldlM (if mx then Builtin.max2 else Builtin.min2) (Value.int k m) (xs.map a.eval)).run P w= .ok (.int k n) w∧c n=some res
 |[],[],m,_,h=>⟨m,by simp,h⟩
 |[],_::_,_,h,_=>by simp[nG]at h
 |_::_,[],_,h,_=>by simp[nG]at h
 |x::xs,ax::axs,m,hp,h=>by
  simp only[nG,Bool.and_eq_true]at hp
  simp only[aFQ]at h
  obtain ⟨k',r,ex,hA⟩:=fF h
  obtain ⟨hb,hB⟩:=iA hA
  obtain rfl:=aD3 hb
  have hv:=qA hs hp.1 hF;rw[ex]at hv
  have e1:=hv.of_int
  obtain ⟨n,h1,h2⟩:=aLQ xs axs _ hp.2 hB
  refine ⟨n, ?_,h2⟩
  rw[List.map_cons,List.foldlM_cons,Sem.run_bind,e1]
  cases mx
  ·simp only[Bool.false_eq_true,if_false,Builtin.min2,Sem.run_pure,Result.andThen_ok]at h1⊢;exact h1
  ·simp only[if_true,Builtin.max2,Sem.run_pure,Result.andThen_ok]at h1⊢;exact h1
theorem a2C {mx:Bool} {xs:Array Operand} {ts:Array TypeId} {axs:List zC} {ob:Obj} {av:AV} {no:Option Obj} (ho:o.op= .call {callee:= .builtin (if mx then .max else .min),args:=xs,argTypes:=ts}) (hx:nG P T xs.toList axs=true)
 (h:bH E F St ob (.imin mx axs) base bB=some (av,no)):no=none∧qE P o a w (aB P T S pl St w St av):=by
 simp only[bH]at h
 cases axs with
 |nil=>simp at h
 |cons ax axs=>
  cases hxs:xs.toList with
  |nil=>rw[hxs]at hx;simp[nG]at hx
  |cons x xs'=>
   rw[hxs]at hx
   simp only[nG,Bool.and_eq_true]at hx
   simp only at h
   obtain ⟨k,r,ex,hA⟩:=fF h
   have hv:=qA hs hx.1 hF;rw[ex]at hv
   have e1:=hv.of_int
   obtain ⟨n,h1,h2⟩:=aLQ hs hF xs' axs _ hx.2 hA
   simp only[bB,Option.some.injEq,Prod.mk.injEq]at h2
   obtain ⟨rfl,rfl⟩:=h2
   refine ⟨rfl,mA (v:= .int k n) (w':=w) ?_ (.same hs (aIY _ _))⟩
   have hm:(xs.map a.eval).toList=Value.int k (at_ r 0).vA::xs'.map a.eval:=by rw[Array.toList_map,hxs,List.map_cons,e1]
   cases mx
   ·simp only[Bool.false_eq_true,if_false]at ho h1
    simp only[execOp,ho,resolve,Sem.run_bind,Sem.run_pure,Result.andThen_ok,invoke,builtin]
    simp only[Builtin.min_,hm,h1,Result.andThen_ok]
   ·simp only[if_true]at ho h1
    simp only[execOp,ho,resolve,Sem.run_bind,Sem.run_pure,Result.andThen_ok,invoke,builtin]
    simp only[Builtin.max_,hm,h1,Result.andThen_ok]
theorem a5d {i:Nat} {ob:Obj} {av:AV} {no:Option Obj} (ho:o.op= .extract x i) (hx:nA P T x ax=true)
 (h:bH E F St ob (.ext i ax) base bB=some (av,no)):no=none∧qE P o a w (aB P T S pl St w St av):=by
 have hv:=nC hs hx hF
 simp only[bH]at h
 split at h
 ·rename_i vs ex
  rw[ex]at hv
  split at h
  ·rename_i u hu
   simp only[bB,Option.some.injEq,Prod.mk.injEq]at h
   obtain ⟨rfl,rfl⟩:=h
   generalize hvx:a.eval x=vx at hv
   cases hv with
   |tup vals hh=>
    have hlt:i<vs.length:=(List.getElem?_eq_some_iff.1 hu).1
    refine ⟨rfl,mA (v:=vals i) (w':=w) ?_ (.same hs (hh i u hu))⟩
    simp[execOp,ho,hvx,Instr.extract,hlt]
  ·simp at h
 ·simp at h
theorem aQG {A:Type} {k:Row→Option A} {res:A}:∀(ks:List K) (xs:List Operand) (axs:List zC),nG P T xs axs=true→j4 F St ks axs k=some res→
 ∃row,xs.length=ks.length∧row.length=ks.length∧(∀i kd,ks[i]? =some kd→Rep P T S kd ((xs.map a.eval).getD i undef) (at_ row i))∧k row=some res:=by
 intro ks
 induction ks generalizing k with
 |nil=>intro xs axs hp h;cases axs with
  |nil=>cases xs with
   |nil=>exact ⟨[],rfl,rfl,fun i kd h=>by simp at h,h⟩
   |cons _ _=>simp[nG]at hp
  |cons _ _=>simp[j4]at h
 |cons kd ks ih=>intro xs axs hp h;cases axs with
  |nil=>simp[j4]at h
  |cons ax axs=>cases xs with
   |nil=>simp[nG]at hp
   |cons x xs=>
    simp only[nG,Bool.and_eq_true]at hp
    simp only[j4]at h
    obtain ⟨l,r,ex,hA⟩:=mP h
    obtain ⟨hb,hB⟩:=iA hA
    obtain rfl:=L.beq_eq hb
    have hv:=qA hs hp.1 hF;rw[ex]at hv
    obtain ⟨row,h1,h2,h3,h4⟩:=ih xs axs hp.2 hB
    refine ⟨at_ r 0::row,by simp[h1],by simp[h2],fun i kd' hi=> ?_,h4⟩
    cases i with
    |zero=>simp at hi;subst hi;simpa[at_]using hv.aA3.aYj
    |succ i=>simpa[at_]using h3 i kd' (by simpa using hi)
theorem a5e {f:Nat} {t:TypeId} {ks:List K} {cs:Array Operand} {acs:List zC} {ob:Obj} {av:AV} {no:Option Obj} (ho:o.op= .makeFunc (.func f) #[] cs) (hx:nG P T cs.toList acs=true) (aLR:aYm P T t f ks=true)
 (h:bH E F St ob (.mkf f t ks acs) base bB=some (av,no)):no=none∧qE P o a w (aB P T S pl St w St av):=by
 simp only[bH]at h
 obtain ⟨row,h1,h2,h3,h4⟩:=aQG hs hF ks cs.toList acs hx h
 simp only[bB,Option.some.injEq,Prod.mk.injEq]at h4
 obtain ⟨rfl,rfl⟩:=h4
 refine ⟨rfl,mA (v:= .func (.func f) #[] (cs.map a.eval)) (w':=w) (by simp[execOp,ho,Instr.makeFunc]) (.same hs (.d ⟨_,rfl, ?_⟩))⟩
 have:=Rep.fn (P:=P) (T:=T) (S:=S) (cs:=row) (fun i=>(cs.toList.map a.eval).getD i undef) (aPq aLR) h2 h3
 have e:((List.range ks.length).map fun i=>(cs.toList.map a.eval).getD i undef).toArray=cs.map a.eval:=by
  apply Array.ext'
  simp only[List.toList_toArray,Array.toList_map]
  apply List.ext_getElem?
  intro i
  by_cases hi:i<ks.length
  ·have:i<cs.size:=by have:=h1;simp at this;omega
   simp[hi,this]
  ·have:¬i<cs.size:=by have:=h1;simp at this;omega
   simp[hi,this]
 rw[e]at this;exact this
end
end Go.Ev
namespace Go.Ev
variable {E:Env} {P:Program} {T:Nat→gG} {S S':fB} {pl jE:Pl} {St eD:Ev.St} {F:Fr} {a:Act} {w w':World}
def aJi (P:Program) (T:Nat→gG):Option Operand→Option zC→Bool
 |none,none=>true
 |some x,some ax=>nA P T x ax
 |_,_=>false
theorem aAx {A:Type} {x:Option Operand} {ax:Option zC} {d:Int} {k:Int→Option A} {r:A} (hs:kW P T S pl St w) (hF:wX P T S pl St F a.tmps) (hx:aJi P T x ax=true) (h:bnd F St ax d k=some r):
 ∃n,k n=some r∧((x.map a.eval=none∧n=d)∨∃kd,x.map a.eval=some (.int kd n)):=by
 cases x with
 |none=>cases ax with
  |none=>exact ⟨d,h, .inl ⟨rfl,rfl⟩⟩
  |some _=>simp[aJi]at hx
 |some x=>cases ax with
  |none=>simp[aJi]at hx
  |some ax=>
   simp only[bnd]at h
   obtain ⟨kd,row,e,hA⟩:=fF h
   have hv:=qA hs hx hF;rw[e]at hv
   exact ⟨_,hA, .inr ⟨kd,by simp[hv.of_int]⟩⟩
theorem aPx {isS:Bool} {len cap:Nat} {lo hi:Option Value} {m n:Int} (hlo:(lo=none∧m=0)∨∃k,lo=some (.int k m)) (hhi:(hi=none∧n=len)∨∃k,hi=some (.int k n)) (h0:0≤m) (h1:m≤n) (h2:n≤cap) (w:World):
 (Instr.sliceBounds isS len cap lo hi none).run P w= .ok (m.toNat,n.toNat,cap) w:=by
 have en:(n.toNat:Int)=n:=Int.toNat_of_nonneg (by omega)
 have hn0:0≤n:=by omega
 rcases hlo with ⟨rfl,rfl⟩|⟨k,rfl⟩<;>rcases hhi with ⟨rfl,rfl⟩|⟨k',rfl⟩<;>
  simp[Instr.sliceBounds,run_sliceBound,h0,h1,h2,hn0,en]
theorem aTI (a:Addr) (ha:a.spot=none) (cap m n:Nat):∃ad:Addr,(if cap=m then some a else (some a).map (·.add (m*n)))=some ad∧(cap≠m∨m=0→ad=⟨a.block,a.off+m*n,none⟩):=by
 by_cases h:cap=m
 ·refine ⟨a,by rw[if_pos h],fun hn=> ?_⟩
  rcases hn with hn |hn
  ·exact absurd h hn
  ·subst hn;cases a;simp at ha;simp[ha]
 ·refine ⟨⟨a.block,a.off+m*n,none⟩, ?_,fun _=>rfl⟩
  rw[if_neg h,Option.map_some,add_eq a ha]
theorem eB.aSH {id nO off len cap:Nat} {l:L} {rows:List Row} {ad:Addr} (ho:St[id]? =some (.arr nO l (.sl rows))) (hc:cap=pl.cap id - off) (hle:rows.length≤pl.cap id) (hl:off+len≤rows.length)
 (ha:len≠0∨off=0→ad=⟨pl.blk id,off*l.n,none⟩):eB P T S pl St (.own id nO off len) (.slice (some ad) len cap):=by
 refine .own rfl ho (fun h=>by cases h) (fun v l c e=> ?_) (fun l' r e=> ?_) (fun l e=> ?_)
 ·cases e;exact Nat.le_refl _
 ·cases e;subst hc;exact ⟨ad,rfl,hl,hle,ha⟩
 ·cases e
section
variable {o:Oper} {x y c:Operand} {ax ay ac:zC} {base:Nat}
variable (hs:kW P T S pl St w) (hF:wX P T S pl St F a.tmps)
include hs hF
theorem a2D {t:TypeId} {lo hi:Option Operand} {alo ahi:Option zC} {ob:Obj} {av:AV} {no:Option Obj} (ho:o.op= .slice t x lo hi none) (ht:P.underlying t=some .string) (hx:nA P T x ax=true)
 (hlo:aJi P T lo alo=true) (hhi:aJi P T hi ahi=true)
 (h:bH E F St ob (.slcS ax alo ahi) base bB=some (av,no)):no=none∧qE P o a w (aB P T S pl St w St av):=by
 simp only[bH]at h
 obtain ⟨r,ex,hA⟩:=gU h
 have hv:=qA hs hx hF;rw[ex]at hv;obtain ⟨b,e1,q1⟩:=hv.aDH
 obtain ⟨m,hB,hm⟩:=aAx hs hF hlo hA
 obtain ⟨n,hC,hn⟩:=aAx hs hF hhi hB
 obtain ⟨hlt,hD⟩:=bD hC
 simp only[bB,Option.some.injEq,Prod.mk.injEq]at hD
 obtain ⟨rfl,rfl⟩:=hD
 rw[←q1,bsize]at hlt hn
 have hb:=aPx (P:=P) (isS:=false) (cap:=b.size) hm hn hlt.1 hlt.2.1 hlt.2.2 w
 refine ⟨rfl,mA (v:= .string (b.extract m.toNat n.toNat)) (w':=w) ?_ (.same hs ?_)⟩
 ·simp only[execOp,ho]
  refine vY ?_
  rw[run_sliceAt_string w t _ _ _ _ ht,e1]
  simp[Instr.slice,run_underlying ht,hb]
 ·rw[←q1]
  have e:(b.extract m.toNat n.toNat).data.toList=(b.data.toList.take n.toNat).drop m.toNat:=by
   rw[Lib.extract_data,List.drop_take]
  rw[←e];exact a2g _
theorem a5g {t e:TypeId} {l:L} {lo hi:Option Operand} {alo ahi:Option zC} {ob:Obj} {av:AV} {no:Option Obj} (ho:o.op= .slice t x lo hi none) (hel:aGQ P t e l=true) (hx:nA P T x ax=true)
 (hlo:aJi P T lo alo=true) (hhi:aJi P T hi ahi=true) (kB:∀id,mG (ax.ev F)=some id→St[id]? =some ob)
 (h:bH E F St ob (.slc e l ax alo ahi) base bB=some (av,no)):no=none∧qE P o a w (aB P T S pl St w St av):=by
 obtain ⟨hu,hL⟩:=pP hel
 have hv:=qA hs hx hF
 have key:∀(ad:Option Addr) (len cap:Nat) (m n:Int),a.eval x= .slice ad len cap→((lo.map a.eval=none∧m=0)∨∃kd,lo.map a.eval=some (.int kd m))→
  ((hi.map a.eval=none∧n=len)∨∃kd,hi.map a.eval=some (.int kd n))→0≤m→m≤n→n≤cap→
  (execOp a.eval o).run P w= .ok (.value (.slice (if cap=m.toNat then ad else ad.map (·.add (m.toNat*l.n))) (n.toNat - m.toNat) (cap - m.toNat))) w:=by
  intro ad len cap m n hvx hm hn h0 h1 h2
  have hb:=aPx (P:=P) (isS:=true) (len:=len) hm hn h0 h1 h2 w
  simp only[execOp,ho]
  refine vY ?_
  rw[hvx]
  simp[Instr.sliceAt,Instr.slice,run_underlying hu,hb,hL.size w]
 simp only[bH]at h
 split at h
 ·rename_i e' r ex
  obtain ⟨hb,hA⟩:=iA h
  obtain rfl:=Nat.eq_of_beq_eq_true hb
  obtain ⟨m,hB,hm⟩:=aAx hs hF hlo hA
  obtain ⟨n,hC,hn⟩:=aAx hs hF hhi hB
  obtain ⟨hlt,hD⟩:=bD hC
  simp only[bB,Option.some.injEq,Prod.mk.injEq]at hD
  obtain ⟨rfl,rfl⟩:=hD
  rw[ex]at hv
  rcases hv.aLP with ⟨e1,e2⟩|⟨l',rows,ad,cap,f,e1,e2,h1,h2,h3,h4,h5,h6⟩
  ·rw[e2]at hlt hn⊢
   simp only[C.rows,List.length_nil]at hlt hn
   have m0:m.toNat=0:=by omega
   have n0:n.toNat=0:=by omega
   refine ⟨rfl,mA (key _ _ _ _ _ e1 hm (by simpa using hn) hlt.1 hlt.2.1 (by omega)) (.same hs (.d ⟨_,rfl, ?_⟩))⟩
   simp[m0,n0,aKG];exact .fA
  ·obtain rfl:=h1.inj hL
   rw[e2]at hlt hn⊢
   simp only[C.rows]at hlt hn
   refine ⟨rfl,mA (key _ _ _ _ _ e1 hm hn hlt.1 hlt.2.1 (by omega)) (.same hs (.d ⟨_,rfl, ?_⟩))⟩
   simp only[aKG,C.rows,Option.map_some]
   have hlen:((rows.take n.toNat).drop m.toNat).length=n.toNat - m.toNat:=by simp;omega
   have hat:∀i,i<n.toNat - m.toNat→aA ((rows.take n.toNat).drop m.toNat) i=aA rows (m.toNat+i):=by
    intro i hi
    simp[aA,List.getD_eq_getElem?_getD,List.getElem?_drop,List.getElem?_take,show m.toNat+i<n.toNat from by omega]
   by_cases hz:n.toNat - m.toNat=0
   ·have aM7:(rows.take n.toNat).drop m.toNat=[]:=List.eq_nil_of_length_eq_zero (by rw[hlen];exact hz)
    rw[hz,aM7]
    by_cases hc:cap=m.toNat
    ·rw[if_pos hc]
     exact .sl (fun _ _=>undef) h1 rfl (by omega) (by simp) (fun h=>absurd rfl h) (fun i j hi _=>by omega) (fun i j k hi _=>by omega)
    ·rw[if_neg hc]
     exact .sl (fun _ _=>undef) h1 rfl (by omega) (by simp) (fun h=>absurd rfl h) (fun i j hi _=>by omega) (fun i j k hi _=>by omega)
   ·have hc:¬cap=m.toNat:=by omega
    rw[if_neg hc]
    have a5h:=h4 (by omega)
    rw[add_eq ad a5h]
    refine .sl (fun i j=>f (m.toNat+i) j) h1 hlen (by omega) (fun r hr=>h3 r (List.mem_of_mem_take (List.mem_of_mem_drop hr))) (fun _=>rfl) (fun i j hi hj=> ?_) (fun i j k hi hk=> ?_)
    ·have:=h5 (m.toNat+i) j (by omega) hj
     simp only
     rw[←this,Nat.add_mul]
     congr 1;omega
    ·rw[hat i hi];exact h6 (m.toNat+i) j k (by omega) hk
 ·rename_i id v ex
  have kB:=kB id (aD4 (by rw[ex];rfl))
  rw[ex]at hv
  obtain ⟨l',c,rfl,hA⟩:=gF h
  obtain ⟨hlb,hA2⟩:=iA hA
  obtain rfl:=L.beq_eq hlb
  split at hA2
  ·obtain ⟨m,hB,hm⟩:=aAx hs hF hlo hA2
   obtain ⟨n,hC,hn⟩:=aAx hs hF hhi hB
   obtain ⟨hlt,hD⟩:=bD hC
   simp only[bB,Option.some.injEq,Prod.mk.injEq]at hD
   obtain ⟨rfl,rfl⟩:=hD
   rcases hs.objs _ _ kB with hq |⟨wZ,cur,e2,i,hq,hh,q1,q2,q3,q4,q5,q6,q7⟩
   ·simp at hq
   ·simp at hq;subst hq
    have e1:=(hv.sW kB).2 _ rfl
    refine ⟨rfl,mA (key _ _ _ _ _ e1 hm hn hlt.1 hlt.2.1 (by omega)) (.same hs ?_)⟩
    obtain ⟨ad,had,hz⟩:=aTI (⟨pl.blk id,0,none⟩:Addr) rfl (pl.cap id) m.toNat l.n
    rw[had]
    refine .aSH kB rfl q4 (by omega) (fun hne=> ?_)
    rw[hz (by omega)];simp
  ·simp at hA2
 ·rename_i id v off len ex
  have kB:=kB id (aD4 (by rw[ex];rfl))
  rw[ex]at hv
  obtain ⟨l',c,rfl,hA⟩:=gF h
  obtain ⟨hlb,hA2⟩:=iA hA
  obtain rfl:=L.beq_eq hlb
  unfold aDE at hA2
  split at hA2
  ·rename_i rows
   obtain ⟨m,hB,hm⟩:=aAx hs hF hlo hA2
   obtain ⟨n,hC,hn⟩:=aAx hs hF hhi hB
   obtain ⟨hlt,hD⟩:=bD hC
   simp only[bB,Option.some.injEq,Prod.mk.injEq]at hD
   obtain ⟨rfl,rfl⟩:=hD
   obtain ⟨ad0,e1,h1,h2,h3⟩:=hv.aWc kB
   refine ⟨rfl,mA (key _ _ _ _ _ e1 hm hn hlt.1 hlt.2.1 (by omega)) (.same hs ?_)⟩
   by_cases hz:len=0∧off≠0
   ·have hm0:m.toNat=0:=by omega
    have hn0:n.toNat=0:=by omega
    rw[hm0,hn0]
    by_cases hc:pl.cap id - off=0
    ·rw[if_pos hc];exact .aSH kB (by omega) h2 (by omega) (fun hne=>by omega)
    ·rw[if_neg hc];exact .aSH kB (by omega) h2 (by omega) (fun hne=>by omega)
   ·obtain rfl:=h3 (by omega)
    obtain ⟨ad,had,hz⟩:=aTI (⟨pl.blk id,off*l.n,none⟩:Addr) rfl (pl.cap id - off) m.toNat l.n
    rw[had]
    refine .aSH kB (by omega) h2 (by omega) (fun hne=> ?_)
    rw[hz (by omega)];simp[Nat.add_mul]
  ·simp at hA2
 ·simp at h
end
end Go.Ev
namespace Go.Ev
variable {E:Env} {P:Program} {T:Nat→gG} {S S':fB} {pl jE:Pl} {St eD:Ev.St} {F:Fr} {a:Act} {w w':World}
theorem aGR {i u b cap:Nat} {l:L} {o:Obj} {c':C} {v':Value} (hs:kW P T S pl St w) (kB:St[i]? =some o) (hU:o= .fresh∨∃v0 c0,o= .arr v0 l c0∧v0<u)
 (hw:w'.os=w.os∧w'.tape=w.tape∧w'.output=w.output) (hsz:w.heap.size≤w'.heap.size)
 (hold:∀k,k<w.heap.size→(o.has=true→k≠pl.blk i)→w'.heap[k]? =w.heap[k]?)
 (hb:(o.has=true∧b=pl.blk i)∨w.heap.size≤b)
 (aKc:sZ P T S (pl.at i b cap) (St.set i (.arr u l c')) w' i (.arr u l c'))
 (hv:(c'= .fA∧v'= .slice none 0 0)∨∃rows,c'= .sl rows∧v'= .slice (some ⟨b,0,none⟩) rows.length cap):
 aB P T S pl St w (St.set i (.arr u l c')) (.whole i u) v' w':=by
 have hlt:i<St.length:=(List.getElem?_eq_some_iff.1 kB).1
 have hk:kD pl St (pl.at i b cap) (St.set i (.arr u l c')):=by
  intro id o1 h hf
  by_cases hne:id=i
  ·subst hne
   rw[kB]at h;obtain rfl:=Option.some.inj h
   refine ⟨.arr u l c',List.getElem?_set_self hlt,by simp,fun l row e=>(by cases e),fun c vs e=>(by cases e),fun v l' c e=> ?_,fun _ _ _ _ e=>(by cases e),fun _ _ _ e=>(by cases e),fun _ _ _ _ e=>(by cases e)⟩
   cases e
   rcases hU with h |⟨v0,c0,rfl,hv0⟩
   ·exact absurd h hf
   ·exact ⟨v0,c0,rfl,Nat.le_of_lt hv0,fun e=>by omega⟩
  ·exact ⟨o1,by rw[List.getElem?_set_ne (Ne.symm hne)];exact h,hf,kD.same (pl.uY i _ _ id hne).1 (pl.uY i _ _ id hne).2⟩
 refine ⟨S,pl.at i b cap, ?_,⟨hw.1,hw.2.1,hw.2.2,hsz,fun k hk hn=>hold k hk (fun ho e=>hn ⟨i,o,kB,ho,(by rcases hU with rfl |⟨v0,c0,rfl,_⟩<;>rfl),e.symm⟩),S.le_refl,fun _ _ _ _=>rfl⟩, ?_,fun _ _ h=>h.keep hk S.le_refl, ?_⟩
 ·refine hs.upd hlt hk S.le_refl (pl.uY i _ _) (fun j o1 hj h ho=>hold _ (hs.n9 h ho) (fun ho' e=>hj (hs.inj j i _ _ h kB ho ho' e))) (fun b o1 v h=> ?_) aKc (fun _ off _=> ?_) (fun j o _ h ho=>hs.apart j o h ho) (fun _ j o1 hj h ho=> ?_) (fun g hg ha=>⟨hold g hg (fun ho e=>ha i o kB ho e.symm),fun _=>by
   rw[Pl.sD]
   rcases hb with ⟨ho',rfl⟩|hb
   ·exact ha i o kB ho'
   ·omega⟩)
  ·rw[World.cell?_of_block (w:=w) (w':=w') (hold b (hs.aCS h) (fun ho e=>by have:=hs.apart i o kB ho o1 (by rcases hU with rfl |⟨v0,c0,rfl,_⟩<;>exact Nat.zero_le _);rw[←e,h]at this;cases this))];exact hs.aCk _ _ _ h
  ·rw[Pl.sD]
   rcases hb with ⟨ho,rfl⟩|hb
   ·exact hs.apart i o kB ho off (by rcases hU with rfl |⟨v0,c0,rfl,_⟩<;>exact Nat.zero_le _)
   ·cases hS:S b off with
    |none=>rfl
    |some v=>exact absurd (hs.aCS hS) (by omega)
  ·rw[Pl.sD]
   rcases hb with ⟨ho',rfl⟩|hb
   ·exact fun e=>hj (hs.inj j i _ _ h kB ho ho' e)
   ·have:=hs.n9 h ho;omega
 ·rcases hv with ⟨rfl,rfl⟩|⟨rows,rfl,rfl⟩
  ·exact .aM6 (List.getElem?_set_self hlt)
  ·have:=eB.aYB (P:=P) (T:=T) (S:=S) (pl:=pl.at i b cap) (St:=St.set i (.arr u l (.sl rows))) (List.getElem?_set_self hlt)
   rw[Pl.sD,Pl.bG]at this;exact this
 ·rintro b' ⟨id,o1,h,ho,hc1,hb'⟩
  by_cases hid:id=i
  ·subst hid;rw[Pl.sD]at hb';subst hb'
   rcases hb with ⟨ho',rfl⟩|hb
   ·exact .inl ⟨id,o,kB,ho',(by rcases hU with rfl |⟨v0,c0,rfl,_⟩<;>rfl),rfl⟩
   ·exact .inr hb
  ·rw[List.getElem?_set_ne (Ne.symm hid)]at h
   rw[(pl.uY i _ _ id hid).1]at hb'
   exact .inl ⟨id,o1,h,ho,hc1,hb'⟩
theorem aWd {A:Type} (xs t:List A) (o n:Nat) (h:o+n≤xs.length):((xs++t).drop o).take n=(xs.drop o).take n:=by
 rw[List.drop_append_of_le_length (by omega),List.take_append_of_le_length (by simp;omega)]
theorem qC.more {l:L} {xs t:List Value} {r:List Row} (h:qC P T S l xs r):qC P T S l (xs++t) r:=by
 refine ⟨by have:=h.len;simp;omega,fun i row hi=> ?_⟩
 have hi':=(List.getElem?_eq_some_iff.1 hi).1
 have hle:=Nat.mul_le_mul_right l.n (show i+1≤r.length from hi')
 have aQD:(i+1)*l.n=i*l.n+l.n:=Nat.succ_mul _ _
 have hlen:=h.len
 rw[aWd _ _ _ _ (by omega)];exact h.row i row hi
theorem qC.take {l:L} {xs:List Value} {r:List Row} (h:qC P T S l xs r):qC P T S l (xs.take (r.length*l.n)) r:=by
 have hlen:=h.len
 refine ⟨by simp;omega,fun i row hi=> ?_⟩
 have hi':=(List.getElem?_eq_some_iff.1 hi).1
 have hle:=Nat.mul_le_mul_right l.n (show i+1≤r.length from hi')
 have aQD:(i+1)*l.n=i*l.n+l.n:=Nat.succ_mul _ _
 have:=h.row i row hi
 rw[←List.take_append_drop (r.length*l.n) xs,aWd _ _ _ _ (by simp;omega)]at this
 exact this
theorem qC.app {l:L} {xs ys:List Value} {r1 r2:List Row} (h1:qC P T S l xs r1) (hx:xs.length=r1.length*l.n) (h2:qC P T S l ys r2):qC P T S l (xs++ys) (r1++r2):=by
 refine ⟨by have:=h2.len;simp[Nat.add_mul];omega,fun i row hi=> ?_⟩
 by_cases hi1:i<r1.length
 ·rw[List.getElem?_append_left hi1]at hi
  exact h1.more.row i row hi
 ·have hge:r1.length≤i:=by omega
  rw[List.getElem?_append_right hge]at hi
  have e:i*l.n=xs.length+(i - r1.length)*l.n:=by
   rw[hx,←Nat.add_mul];congr 1;omega
  rw[e,←List.drop_drop,List.drop_left]
  exact h2.row _ row hi
theorem aKM {l:L} {rows:List Row} {ad:Addr} {f:Nat→Nat→Value} (hs:kW P T S pl St w) (hn:0<l.n) (h3:∀r∈rows,r.length=l.n) (h4:rows.length≠0→ad.spot=none)
 (h5:∀i j,i<rows.length→j<l.n→S ad.block (ad.off+i*l.n+j)=some (f i j))
 (h6:∀i j k,i<rows.length→l.ks[j]? =some k→Rep P T S k (f i j) (at_ (aA rows i) j)):
 ∃news:List Value,news.length=rows.length*l.n∧qC P T S l news rows∧(∀j u,news[j]? =some u→w.cell? (ad.add j)=some u)∧∀u∈news,u.oneCell'=true:=by
 have hd:∀i j,j<l.n→(i*l.n+j)/l.n=i∧(i*l.n+j)% l.n=j:=fun i j hj=>by
  constructor
  ·rw[Nat.mul_comm,Nat.mul_add_div hn,Nat.div_eq_of_lt hj,Nat.add_zero]
  ·rw[Nat.mul_comm,Nat.mul_add_mod,Nat.mod_eq_of_lt hj]
 have hq:∀q,q<rows.length*l.n→q/l.n<rows.length∧q % l.n<l.n:=fun q hq=>⟨Nat.div_lt_of_lt_mul (by rw[Nat.mul_comm];exact hq),Nat.mod_lt _ hn⟩
 refine ⟨(List.range (rows.length*l.n)).map fun q=>f (q/l.n) (q % l.n),by simp,⟨by simp,fun i r hi=> ?_⟩,fun j u hj=> ?_,fun u hu=> ?_⟩
 ·have hi':=(List.getElem?_eq_some_iff.1 hi).1
  have hr:aA rows i=r:=by simp[aA,List.getD_eq_getElem?_getD,hi]
  have hle:=Nat.mul_le_mul_right l.n (show i+1≤rows.length from hi')
  have aQD:(i+1)*l.n=i*l.n+l.n:=Nat.succ_mul _ _
  refine ⟨by simp[L.n]at hle aQD⊢;omega,by rw[h3 r (List.mem_of_getElem? hi)];rfl,fun j k hk=> ?_⟩
  have hj:j<l.n:=(List.getElem?_eq_some_iff.1 hk).1
  have:=h6 i j k hi' hk
  rw[hr]at this
  have e:((((List.range (rows.length*l.n)).map fun q=>f (q/l.n) (q % l.n)).drop (i*l.n)).take l.n).getD j undef=f i j:=by
   have h1:i*l.n+j<rows.length*l.n:=by omega
   simp[List.getD_eq_getElem?_getD,hj,List.getElem?_range h1,(hd i j hj).1,(hd i j hj).2]
  rw[e];exact this
 ·have hjl:j<rows.length*l.n:=by have:=(List.getElem?_eq_some_iff.1 hj).1;simpa using this
  simp[List.getElem?_range hjl]at hj
  have:=hs.aCk _ _ _ (h5 (j/l.n) (j % l.n) (hq j hjl).1 (hq j hjl).2)
  rw[hj]at this
  have hz:rows.length≠0:=fun e=>by rw[e]at hjl;omega
  rw[add_eq ad (h4 hz)]
  rw[←this]
  congr 2
  have:=Nat.div_add_mod j l.n
  rw[Nat.mul_comm]at this
  omega
 ·simp only[List.mem_map,List.mem_range]at hu
  obtain ⟨q,hql,rfl⟩:=hu
  have:=hq q hql
  obtain ⟨k,hk⟩:∃k,l.ks[q % l.n]? =some k:=⟨_,List.getElem?_eq_getElem (show q % l.n<l.ks.length from this.2)⟩
  exact (h6 _ _ k this.1 hk).aJY.1
theorem aIN {t ty e:TypeId} {i:TypeInfo} (ht:P.underlying t=some (.slice e)) (hi:P.info? e=some i) (base:Option Addr) (n cap:Nat) (hle:n≤cap) (q:Option Addr) (c':Nat) (w:World):
 (Builtin.append_ #[t,t] ty #[.slice base n cap, .slice q 0 c']).run P w= .ok (.slice base n cap) w:=by
 cases base<;>cases q<;>simp[Builtin.append_,run_underlying ht,sizeOf,typeInfo,hi,Builtin.lenOf,Builtin.firstCells,loadCells,loadCellsFrom,hle,storeCells]
def aQH (P:Program) (t e:TypeId) (l:L) (bytes:Nat):Bool:=
 aGQ P t e l&&Nat.blt 0 l.n&&Nat.blt 0 bytes&&
 (match P.info? e with |some i=>Nat.beq i.bytes bytes&&(match i.zero with |some zv=>Nat.beq zv.cells.size l.n |none=>false)|none=>false)
theorem aCl {t e:TypeId} {l:L} {bytes:Nat} (h:aQH P t e l bytes=true):P.underlying t=some (.slice e)∧Lay P e l∧0<l.n∧0<bytes∧∃i zv,P.info? e=some i∧i.bytes=bytes∧i.zero=some zv∧zv.cells.size=l.n∧i.size=l.n:=by
 simp only[aQH,Bool.and_eq_true]at h
 obtain ⟨⟨⟨h1,h2⟩,h3⟩,h4⟩:=h
 obtain ⟨hu,hL⟩:=pP h1
 split at h4
 ·rename_i i hi
  simp only[Bool.and_eq_true]at h4
  split at h4
  ·rename_i zv hz
   obtain ⟨i',hi',hsz⟩:=hL.2
   rw[hi]at hi';obtain rfl:=Option.some.inj hi'
   exact ⟨hu,hL,by simpa using h2,by simpa using h3,i,zv,hi,Nat.eq_of_beq_eq_true h4.1,hz,Nat.eq_of_beq_eq_true h4.2,hsz⟩
  ·simp at h4
 ·simp at h4
theorem aTJ (w:World) (t ty e e2:TypeId) (i:TypeInfo) (ht:P.underlying t=some (.slice e)) (hi:P.info? e=some i)
 (g sLen sCap:Nat) (cur:Array Value) (hg:w.heap[g]? =some (.cells cur e2 (0,0)))
 (a:Addr) (m c:Nat) (news:List Value) (hl:news.length=m*i.size) (hnews:∀j u,news[j]? =some u→w.cell? (a.add j)=some u) (h1:∀u∈news,u.oneCell'=true)
 (hroom:sLen+m≤sCap) (hfit:sLen*i.size+news.length≤cur.size):
 (Builtin.append_ #[t,t] ty #[.slice (some ⟨g,0,none⟩) sLen sCap, .slice (some a) m c]).run P w=
   .ok (.slice (some ⟨g,0,none⟩) (sLen+m) sCap) (w.setRow g (cur.toList.take (sLen*i.size)++news++cur.toList.drop (sLen*i.size+news.length)).toArray):=by
 have hf:=run_firstCells_some (P:=P) w i.size m a m c news hl hnews
 have hst:=run_storeCells_at P g (sLen*i.size) e2 news 0 cur w hg (by simpa using hfit) h1
 simp only[Nat.add_zero]at hst
 simp[Builtin.append_,run_underlying ht,sizeOf,typeInfo,hi,Builtin.lenOf,hroom,hf,Addr.add_lit,hst]
theorem aWe {t ty e:TypeId} {l:L} {bytes:Nat} (hB:aQH P t e l bytes=true) (hs:kW P T S pl St w) {i u:Nat} {ob:Obj} {c:C} {v0:Value} (kB:St[i]? =some ob)
 (hU:(ob= .fresh∧c= .fA)∨∃v1,ob= .arr v1 l c∧v1<u)
 (hv0:(c= .fA∧v0= .slice none 0 0)∨∃rows,c= .sl rows∧v0= .slice (some ⟨pl.blk i,0,none⟩) rows.length (pl.cap i))
 (q:Option Addr) (m c2:Nat) (news:List Value) (aCb:List Row) (hnr:aCb.length=m) (hq:m≠0→∃ad,q=some ad∧news.length=m*l.n∧qC P T S l news aCb∧(∀j u,news[j]? =some u→w.cell? (ad.add j)=some u)∧∀u∈news,u.oneCell'=true)
 (aHP:(c.rows.length+m)*bytes≤140737488355328):
 ∃v' w',(Builtin.append_ #[t,t] ty #[v0, .slice q m c2]).run P w= .ok v' w'∧aB P T S pl St w (St.set i (.arr u l (pE c aCb))) (.whole i u) v' w':=by
 obtain ⟨hu,hL,hn,hby,inf,zv,hi,hib,hz,hzs,hsz⟩:=aCl hB
 have aHQ:ob= .fresh∨∃v1 c1,ob= .arr v1 l c1∧v1<u:=by
  rcases hU with ⟨h,_⟩|⟨v1,h,hlt⟩
  ·exact .inl h
  ·exact .inr ⟨v1,c,h,hlt⟩
 have a2E:c.rows.length+m≤140737488355328:=Nat.le_trans (Nat.le_mul_of_pos_right _ hby) aHP
 have aSJ:((c.rows.length+m:Nat):Int)≤9223372036854775807:=by omega
 have grown:∀(old:Nat) (olds:List Value),olds.length=c.rows.length*l.n→qC P T S l olds c.rows→old<c.rows.length+m→m≠0→
  aB P T S pl St w (St.set i (.arr u l (.sl (c.rows++aCb)))) (.whole i u) (.slice (some ⟨w.heap.size,0,none⟩) (c.rows.length+m) (grownCap w (c.rows.length+m) old e))
   (w.drew.alloc (.cells (olds.toArray++news.toArray++Builtin.zeroCells zv.cells (grownCap w (c.rows.length+m) old e - (c.rows.length+m))) e)):=by
  intro old olds dF hor ho hm
  obtain ⟨ad,_,hnl,a2F,_,_⟩:=hq hm
  have hge:=grownCap_ge w (c.rows.length+m) old e
  have hcm:grownCap w (c.rows.length+m) old e≤maxLen:=grownCap_le_maxLen w _ old e (by simp[maxLen];omega)
  refine aGR (b:=w.heap.size) (cap:=grownCap w (c.rows.length+m) old e) hs kB aHQ ⟨rfl,rfl,rfl⟩ (by simp) (fun k hk _=>by have:=heap_alloc_old w.drew (.cells (olds.toArray++news.toArray++Builtin.zeroCells zv.cells (grownCap w (c.rows.length+m) old e - (c.rows.length+m))) e) hk;exact this) (.inr (Nat.le_refl _)) ?_ (.inr ⟨_,rfl,by simp[hnr]⟩)
  refine .inr ⟨_,_,e,inf,rfl,by rw[Pl.sD];exact heap_alloc_new w.drew _,hL,hi,hn,by rw[Pl.bG];simp[hnr,hge],by rw[Pl.bG];exact hcm, ?_,fun j r hj=> ?_⟩
  ·rw[Pl.bG]
   simp only[Array.size_append,List.size_toArray,size_zeroCells,hzs,dF,hnl,←Nat.add_mul]
   congr 1;omega
  ·have:=(hor.app dF a2F).more (t:=(Builtin.zeroCells zv.cells (grownCap w (c.rows.length+m) old e - (c.rows.length+m))).toList)
   have:=this.row j r hj
   simpa using this
 by_cases hm:m=0
 ·subst hm
  have aM7:aCb=[]:=List.eq_nil_of_length_eq_zero hnr
  subst aM7
  rcases hv0 with ⟨rfl,rfl⟩|⟨rows,rfl,rfl⟩
  ·refine ⟨_,_,aIN hu hi none 0 0 (Nat.le_refl _) q c2 w, ?_⟩
   exact aGR (b:=w.heap.size) (cap:=0) hs kB aHQ ⟨rfl,rfl,rfl⟩ (Nat.le_refl _) (fun _ _ _=>rfl) (.inr (Nat.le_refl _)) (.inl rfl) (.inl ⟨rfl,rfl⟩)
  ·obtain ⟨v1,rfl,hlt⟩:∃v1,ob= .arr v1 l (.sl rows)∧v1<u:=by
    rcases hU with ⟨_,h⟩|h
    ·cases h
    ·exact h
   rcases hs.objs _ _ kB with hqq |⟨wZ,cur,e2,i2,hqq,hh,q1,q2,q3,q4,q5,q6,q7⟩
   ·simp at hqq
   ·simp at hqq;subst hqq
    refine ⟨_,_,aIN hu hi _ _ _ q4 q c2 w, ?_⟩
    have aVf:pE (.sl rows) []= .sl rows:=by simp[pE,C.rows]
    rw[aVf]
    refine aGR (b:=pl.blk i) (cap:=pl.cap i) hs kB aHQ ⟨rfl,rfl,rfl⟩ (Nat.le_refl _) (fun _ _ _=>rfl) (.inl ⟨rfl,rfl⟩) ?_ (.inr ⟨_,rfl,rfl⟩)
    exact .inr ⟨rows,cur,e2,i2,rfl,by rw[Pl.sD];exact hh,q1,q2,q3,by rw[Pl.bG];exact q4,by rw[Pl.bG];exact q5,by rw[Pl.bG];exact q6,q7⟩
 ·obtain ⟨ad,rfl,hnl,a2F,hcells,hone⟩:=hq hm
  have aVf:pE c aCb= .sl (c.rows++aCb):=by
   cases aCb with
   |nil=>exact absurd hnr.symm hm
   |cons r rs=>cases c<;>rfl
  rw[aVf]
  rcases hv0 with ⟨rfl,rfl⟩|⟨rows,rfl,rfl⟩
  ·have hr:=run_append_nil (P:=P) w t ty e inf zv hu hi hz ad m c2 news (by rw[hsz];exact hnl) hcells (by omega) (by simp[C.rows]at aSJ;omega) (by rw[hib];simp[C.rows]at aHP;omega)
   have:=grown 0 [] (by simp[C.rows]) ⟨by simp[C.rows],fun j r hj=>by simp[C.rows]at hj⟩ (by simp[C.rows];omega) hm
   simp only[C.rows,List.length_nil,Nat.zero_add,Array.empty_append]at this
   exact ⟨_,_,hr,this⟩
  ·obtain ⟨v1,rfl,hlt⟩:∃v1,ob= .arr v1 l (.sl rows)∧v1<u:=by
    rcases hU with ⟨_,h⟩|h
    ·cases h
    ·exact h
   rcases hs.objs _ _ kB with hqq |⟨wZ,cur,e2,i2,hqq,hh,q1,q2,q3,q4,q5,q6,q7⟩
   ·simp at hqq
   ·simp at hqq;subst hqq
    have hrr:qC P T S l cur.toList rows:=⟨by rw[show cur.toList.length=cur.size from Array.length_toList,q6];exact Nat.mul_le_mul_right _ q4,q7⟩
    have htl:(cur.toList.take (rows.length*l.n)).length=rows.length*l.n:=by
     have:=hrr.len;rw[List.length_take];omega
    by_cases hroom:rows.length+m≤pl.cap i
    ·have hfit:rows.length*inf.size+news.length≤cur.size:=by rw[hnl,hsz,q6,←Nat.add_mul];exact Nat.mul_le_mul_right _ hroom
     have hr:=aTJ (P:=P) w t ty e e2 inf hu hi (pl.blk i) rows.length (pl.cap i) cur hh ad m c2 news (by rw[hsz];exact hnl) hcells hone hroom hfit
     refine ⟨_,_,hr, ?_⟩
     refine aGR (b:=pl.blk i) (cap:=pl.cap i) hs kB aHQ ⟨rfl,rfl,rfl⟩ (by simp) (fun k hk hne=>setRow_other w _ k _ (hne rfl)) (.inl ⟨rfl,rfl⟩) ?_ (.inr ⟨_,rfl,by simp[hnr,C.rows]⟩)
     refine .inr ⟨_,_,e2,i2,rfl,by rw[Pl.sD];exact setRow_heap w _ cur _ e2 _ hh,q1,q2,hn,by rw[Pl.bG];simp[hnr,C.rows,hroom],by rw[Pl.bG];exact q5, ?_,fun j r hj=> ?_⟩
     ·rw[Pl.bG]
      rw[hsz]at hfit
      simp only[List.size_toArray,List.length_append,List.length_take,List.length_drop,Array.length_toList,hsz]
      rw[←q6];omega
     ·have:=((hrr.take.app htl a2F).more (t:=cur.toList.drop (rows.length*inf.size+news.length))).row j r hj
      simpa[hsz]using this
    ·have aVg:∀j v,(cur.toList.take (rows.length*l.n))[j]? =some v→w.cell? ((⟨pl.blk i,0,none⟩:Addr).add j)=some v:=by
      intro j v hj
      rw[add_eq _ rfl,cell_of_row w _ _ _ _ _ hh]
      rw[List.getElem?_take]at hj
      split at hj
      ·simpa using hj
      ·cases hj
     have hr:=run_append_grow (P:=P) w t ty e inf zv hu hi hz ⟨pl.blk i,0,none⟩ rows.length (pl.cap i) (cur.toList.take (rows.length*l.n)) (by rw[hsz];exact htl) aVg ad m c2 news (by rw[hsz];exact hnl) hcells (by omega) (by simpa[C.rows]using aSJ)
      (growslice_fits (by omega) (by rw[hib];simpa[C.rows]using aHP))
     exact ⟨_,_,hr,grown (pl.cap i) _ htl hrr.take (by simp[C.rows];omega) hm⟩
end Go.Ev
namespace Go.Ev
variable {E:Env} {P:Program} {T:Nat→gG} {S S':fB} {pl jE:Pl} {St eD:Ev.St} {F:Fr} {a:Act} {w w':World}
theorem qC.ints {k:IntKind} {xs:List Value} {rows:List Row} (h:qC P T S (.one (.int k)) xs rows) (hl:xs.length=rows.length):xs=rows.map fun r=> .int k (at_ r 0).vA:=by
 apply List.ext_getElem?
 intro i
 by_cases hi:i<rows.length
 ·have hr:=(h.row i _ (List.getElem?_eq_getElem hi)).cell 0 (.int k) rfl
  have e:((xs.drop (i*(L.one (K.int k)).n)).take (L.one (K.int k)).n).getD 0 undef=xs[i]'(by omega):=by
   have hx:i<xs.length:=by omega
   simp[L.n,L.ks,List.getD_eq_getElem?_getD,List.getElem?_eq_getElem hx]
  rw[e]at hr
  have hx:i<xs.length:=by omega
  rw[List.getElem?_eq_getElem hx,List.getElem?_map,List.getElem?_eq_getElem hi,Option.map_some]
  generalize xs[i]=q at hr
  generalize at_ rows[i] 0=c at hr⊢
  cases hr;rfl
 ·rw[List.getElem?_eq_none (by omega),List.getElem?_eq_none (by simp;omega)]
section
variable {o:Oper} {x y c:Operand} {ax ay ac:zC} {base:Nat}
variable (hs:kW P T S pl St w) (hF:wX P T S pl St F a.tmps)
include hs hF
theorem aAy {t u:TypeId} (ho:o.op= .call {callee:= .builtin .append,args:=#[x,y],argTypes:=#[t,u]}) {v':Value} {w':World}
 (h:(Builtin.append_ #[t,u] o.type #[a.eval x,a.eval y]).run P w= .ok v' w'):(execOp a.eval o).run P w= .ok (.value v') w':=by
 unfold execOp
 simp only[ho,resolve,invoke,builtin,Sem.run_bind,Sem.run_pure,Result.andThen_ok,List.map_toArray,List.map_cons,List.map_nil,h]
theorem a5i {t e:TypeId} {l:L} {id bytes:Nat} {ob:Obj} {av:AV} {no:Option Obj} (ho:o.op= .call {callee:= .builtin .append,args:=#[x,y],argTypes:=#[t,t]})
 (hB:aQH P t e l bytes=true) (hx:nA P T x ax=true) (hy:nA P T y ay=true) (kB:∀j,tgt F (.app id e l bytes ax ay) base=some j→St[j]? =some ob)
 (h:bH E F St ob (.app id e l bytes ax ay) base bB=some (av,no)):∃j o',tgt F (.app id e l bytes ax ay) base=some j∧no=some o'∧qE P o a w (aB P T S pl St w (St.set j o') av):=by
 obtain ⟨hu,hL,hn,hby,_⟩:=aCl hB
 have hvx:=nC hs hx hF
 have hvy:=qA hs hy hF
 simp only[bH]at h
 obtain ⟨e',ry,ey,hA⟩:=aRw h
 obtain ⟨hbe,hB1⟩:=iA hA
 obtain rfl:=Nat.eq_of_beq_eq_true hbe
 rw[ey]at hvy
 have aSL:∃(q:Option Addr) (c2:Nat) (news:List Value),a.eval y= .slice q (at_ ry 0).rows.length c2∧
  ((at_ ry 0).rows.length≠0→∃ad,q=some ad∧news.length=(at_ ry 0).rows.length*l.n∧qC P T S l news (at_ ry 0).rows∧(∀j u,news[j]? =some u→w.cell? (ad.add j)=some u)∧∀u∈news,u.oneCell'=true):=by
  rcases hvy.aLP with ⟨e1,e2⟩|⟨l',rows,ad,cap,f,e1,e2,h1,h2,h3,h4,h5,h6⟩
  ·exact ⟨none,0,[],by rw[e2];exact e1,fun hne=>by rw[e2]at hne;exact absurd rfl hne⟩
  ·obtain rfl:=h1.inj hL
   rw[e2]
   obtain ⟨news,g1,g2,g3,g4⟩:=aKM hs hn h3 h4 h5 h6
   exact ⟨some ad,cap,news,e1,fun _=>⟨ad,rfl,g1,g2,g3,g4⟩⟩
 obtain ⟨q,c2,news,hye,hnews⟩:=aSL
 split at hB1
 ·rename_i e2 r ex
  obtain ⟨hb2,hC⟩:=iA hB1
  obtain rfl:=Nat.eq_of_beq_eq_true hb2
  rw[ex]at hvx
  split at hC
  ·rename_i aM7
   unfold zD at hC
   split at hC
   ·obtain ⟨aHP,hD⟩:=bD hC
    simp only[bB,Option.some.injEq,Prod.mk.injEq]at hD
    obtain ⟨rfl,rfl⟩:=hD
    have htg:tgt F (.app id e l bytes ax ay) base=some (base+id):=by simp[tgt,ex,mG]
    have e1:a.eval x= .slice none 0 0:=by
     rcases hvx.aLP with ⟨e1,e2⟩|⟨l',rows,ad,cap,f,e1,e2,_⟩
     ·exact e1
     ·rw[aM7]at e2;cases e2
    obtain ⟨v',w',hr,hp⟩:=aWe (ty:=o.type) hB hs (kB _ htg) (.inl ⟨rfl,rfl⟩) (.inl ⟨rfl,rfl⟩) q _ c2 news (at_ ry 0).rows rfl hnews (by simpa[C.rows]using aHP) (u:=0)
    refine ⟨_,_,htg,rfl,mA (aAy hs hF ho ?_) hp⟩
    rw[e1,hye];exact hr
   ·simp at hC
  ·simp at hC
 ·rename_i i v ex
  rw[ex]at hvx
  have htg:tgt F (.app id e l bytes ax ay) base=some i:=by simp[tgt,ex,mG]
  have kB:=kB _ htg
  obtain ⟨l',c,rfl,hC⟩:=gF hB1
  obtain ⟨hlb,hC2⟩:=iA hC
  obtain rfl:=L.beq_eq hlb
  obtain ⟨aHP,hD⟩:=bD hC2
  simp only[bB,Option.some.injEq,Prod.mk.injEq]at hD
  obtain ⟨rfl,rfl⟩:=hD
  have hv0:(c= .fA∧a.eval x= .slice none 0 0)∨∃rows,c= .sl rows∧a.eval x= .slice (some ⟨pl.blk i,0,none⟩) rows.length (pl.cap i):=by
   have:=hvx.sW kB
   rcases hs.objs _ _ kB with hq |⟨wZ,cur,e2,i2,hq,_⟩
   ·exact .inl ⟨hq,this.1 hq⟩
   ·exact .inr ⟨wZ,hq,this.2 _ hq⟩
  obtain ⟨v',w',hr,hp⟩:=aWe (ty:=o.type) hB hs kB (.inr ⟨v,rfl,Nat.lt_succ_self v⟩) hv0 q _ c2 news (at_ ry 0).rows rfl hnews aHP
  refine ⟨_,_,htg,rfl,mA (aAy hs hF ho ?_) hp⟩
  rw[hye];exact hr
 ·simp at hB1
def mkB (P:Program) (T:Nat→gG) (t e:TypeId) (l:L) (z:Row) (bytes:Nat):Bool:=
 aQH P t e l bytes&&(match P.info? e with |some i=>(match i.zero with |some zv=>j5 l zv z |none=>false)|none=>false)
theorem a8B {t e:TypeId} {l:L} {id bytes:Nat} {z:Row} {ob:Obj} {av:AV} {no:Option Obj} (ho:o.op= .makeSlice t x y)
 (hB:mkB P T t e l z bytes=true) (hx:nA P T x ax=true) (hy:nA P T y ay=true) (kB:St[base+id]? =some ob)
 (h:bH E F St ob (.mk id e l z bytes ax ay) base bB=some (av,no)):∃o',no=some o'∧qE P o a w (aB P T S pl St w (St.set (base+id) o') av):=by
 simp only[mkB,Bool.and_eq_true]at hB
 obtain ⟨hB,hzb⟩:=hB
 obtain ⟨hu,hL,hn,hby,i,zv,hi,hib,hz,hzs,hsz⟩:=aCl hB
 rw[hi]at hzb
 simp only[hz]at hzb
 have hzr:=(iN (P:=P) (T:=T) (S:=S) hzb).cells
 simp only[bH,zD]at h
 split at h
 ·obtain ⟨k1,r1,e1,hA⟩:=fF h
  obtain ⟨k2,r2,e2,hC⟩:=fF hA
  obtain ⟨⟨h0,h1,h2,h3⟩,hD⟩:=bD hC
  have gvx:=qA hs hx hF;rw[e1]at gvx;have hvx:=gvx.of_int
  have gvy:=qA hs hy hF;rw[e2]at gvy;have hvy:=gvy.of_int
  clear gvx gvy e1 e2 hA hC h
  simp only[bB,Option.some.injEq,Prod.mk.injEq]at hD
  obtain ⟨rfl,rfl⟩:=hD
  generalize (at_ r1 0).vA=m at*
  generalize (at_ r2 0).vA=n at*
  have hlt:base+id<St.length:=(List.getElem?_eq_some_iff.1 kB).1
  have hr:=run_make (P:=P) w t e i zv hu hi hz k1 k2 m n h0 h1 (by rw[hib,Int.mul_comm];omega) (by omega)
  refine ⟨_,rfl,mA (v:= .slice (some ⟨w.heap.size,0,none⟩) m.toNat n.toNat) (w':=w.alloc (.cells (madeCells zv.cells (n.toNat*i.size)) e)) ?_ ?_⟩
  ·simp only[execOp,ho]
   refine vY ?_
   rw[hvx,hvy];exact hr
  ·refine aGR (b:=w.heap.size) (cap:=n.toNat) hs kB (.inl rfl) ⟨rfl,rfl,rfl⟩ (by simp) (fun k hk _=>heap_alloc_old w _ hk) (.inr (Nat.le_refl _)) ?_ (.inr ⟨_,rfl,by simp⟩)
   refine .inr ⟨_,_,e,i,rfl,by rw[Pl.sD];exact heap_alloc_new w _,hL,hi,hn,by rw[Pl.bG];simp;omega,by rw[Pl.bG];simp[maxLen];omega,by rw[Pl.bG,size_madeCells,hsz],fun j r hj=> ?_⟩
   have hall:=jV hzr hn n.toNat
   have:=hall.row j r (by
    have hjm:j<m.toNat:=by have:=(List.getElem?_eq_some_iff.1 hj).1;simpa using this
    have hrz:r=z:=by have:=(List.getElem?_eq_some_iff.1 hj).2;simpa using this.symm
    subst hrz
    rw[List.getElem?_replicate,if_pos (by omega)])
   rw[hsz]
   exact this
 ·simp at h
theorem a5l {s t e:TypeId} {ob:Obj} {av:AV} {no:Option Obj} (ho:o.op= .convert s t x) (hsu:(P.underlying s).isSome=true) (hel:aGQ P t e (.one (.int .u8))=true) (he:P.underlying e=some (.int .u8)) (hx:nA P T x ax=true)
 (h:bH E F St ob (.s2b e ax) base bB=some (av,no)):no=none∧qE P o a w (aB P T S pl St w St av):=by
 obtain ⟨hu,hL⟩:=pP hel
 simp only[bH]at h
 obtain ⟨r,ex,hA⟩:=gU h
 have hv:=qA hs hx hF;rw[ex]at hv;obtain ⟨b,e1,q1⟩:=hv.aDH
 simp only[bB,Option.some.injEq,Prod.mk.injEq]at hA
 obtain ⟨rfl,rfl⟩:=hA
 obtain ⟨d,hd⟩:=Option.isSome_iff_exists.1 hsu
 refine ⟨rfl,mA (v:= .slice (some ⟨w.heap.size,0,none⟩) b.size (grownCap w b.size 0 e)) (w':=Lib.bytesWorld w e b) ?_ ?_⟩
 ·simp only[execOp,ho]
  refine vY ?_
  rw[e1];exact Lib.run_convert_string_bytes w s t e b hd hu he
 ·rw[←q1]
  refine aHE hs ⟨rfl,rfl,rfl⟩ (fun k hk=>Lib.bytesWorld_at_old w e b k hk) (Lib.bytesWorld_size w e b) (Lib.bytesWorld_at_new w e b) b.size ?_
  have hcell:∀i,i<b.size→(S.more w.heap.size ((Lib.bytesCells w e b).toList.take b.size)) w.heap.size i=some (.int .u8 (b.data.toList.getD i 0).toNat):=by
   intro i hi
   simp only[fB.more,if_true]
   rw[List.getElem?_take,if_pos hi]
   have:=Lib.bytesWorld_cell w e b i hi
   rw[cell_of_row _ _ _ _ _ _ (Lib.bytesWorld_at_new w e b)]at this
   simpa using this
  refine .d ⟨_,rfl, .sl (fun i _=> .int .u8 (b.data.toList.getD i 0).toNat) hL (by simp[bsize]) (grownCap_ge w _ _ _) (fun r hr=> ?_) (fun _=>rfl) (fun i j hi hj=> ?_) (fun i j k hi hk=> ?_)⟩
  ·simp only[List.mem_map]at hr
   obtain ⟨c,_,rfl⟩:=hr;rfl
  ·obtain rfl:j=0:=by simp[L.n,L.ks]at hj;exact hj
   simp only[L.n,L.ks,List.length_cons,List.length_nil,Nat.zero_add,Nat.mul_one,Nat.add_zero]
   exact hcell i hi
  ·cases j with
   |succ j=>simp[L.ks]at hk
   |zero=>
    simp[L.ks]at hk;subst hk
    have hil:i<b.data.toList.length:=by rw[bsize];exact hi
    have:at_ (aA (b.data.toList.map yD) i) 0= .int (b.data.toList.getD i 0).toNat:=by
     simp only[aA,List.getD_eq_getElem?_getD,List.getElem?_map,List.getElem?_eq_getElem hil,Option.map_some,Option.getD_some,yD,Ev.at_]
     rfl
    rw[this];exact .int
theorem a5m {s t e:TypeId} {ob:Obj} {av:AV} {no:Option Obj} (ho:o.op= .convert s t x) (hel:aGQ P s e (.one (.int .u8))=true) (he:P.underlying e=some (.int .u8)) (ht:P.underlying t=some .string) (hx:nA P T x ax=true)
 (kB:∀id,mG (ax.ev F)=some id→St[id]? =some ob)
 (h:bH E F St ob (.b2s e ax) base bB=some (av,no)):no=none∧qE P o a w (aB P T S pl St w St av):=by
 obtain ⟨hu,hL⟩:=pP hel
 have hv:=qA hs hx hF
 have key:∀(ad:Addr) (cap:Nat) (news:List Value) (rows:List Row),a.eval x= .slice (some ad) rows.length cap→news.length=rows.length→qC P T S (.one (.int .u8)) news rows→(∀j u,news[j]? =some u→w.cell? (ad.add j)=some u)→
  qE P o a w (aB P T S pl St w St (vS (bytesOf rows))):=by
  intro ad cap news rows hvx hl hr hc
  have hnews:=hr.ints hl
  have aLS:=run_loadCells_list (P:=P) w ad news hc
  rw[hl]at aLS
  have hnm:news=(rows.map fun r=>(at_ r 0).vA).map (Value.int .u8):=by rw[hnews];simp
  rw[hnm]at aLS
  have hrun:=run_bytesToString (P:=P) w ad rows.length cap _ aLS
  have hb:∀(ns:List Int) (b:ByteArray),(ns.foldl (fun r n=>r.push (UInt8.ofNat n.toNat)) b).data.toList=b.data.toList++ns.map fun n=>UInt8.ofNat n.toNat:=by
   intro ns
   induction ns with
   |nil=>intro b;simp
   |cons n ns ih=>intro b;rw[List.foldl_cons,ih];simp[ByteArray.push]
  refine mA (w':=w) ?_ (.same hs (by have:=a2g (P:=P) (T:=T) (S:=S) (pl:=pl) (St:=St) ((rows.map fun r=>(at_ r 0).vA).foldl (fun r n=>r.push (UInt8.ofNat n.toNat)) ByteArray.empty);rw[hb,List.map_map]at this;exact this))
  simp only[execOp,ho]
  refine vY ?_
  rw[hvx,run_convert_bytes_string w s t e _ _ _ hu he ht,hrun]
 have a5n:a.eval x= .slice none 0 0→qE P o a w (aB P T S pl St w St (vS (bytesOf []))):=by
  intro hvx
  refine mA (v:= .string ByteArray.empty) (w':=w) ?_ (.same hs (.d ⟨_,rfl, .str⟩))
  simp only[execOp,ho]
  refine vY ?_
  rw[hvx,run_convert_bytes_string w s t e _ _ _ hu he ht]
  simp[Conv.bytesToString]
 simp only[bH]at h
 split at h
 ·rename_i e' r ex
  obtain ⟨hb,hA⟩:=iA h
  obtain rfl:=Nat.eq_of_beq_eq_true hb
  simp only[bB,Option.some.injEq,Prod.mk.injEq]at hA
  obtain ⟨rfl,rfl⟩:=hA
  rw[ex]at hv
  rcases hv.aLP with ⟨e1,e2⟩|⟨l',rows,ad,cap,f,e1,e2,h1,h2,h3,h4,h5,h6⟩
  ·rw[e2];exact ⟨rfl,a5n e1⟩
  ·obtain rfl:=h1.inj hL
   obtain ⟨news,g1,g2,g3,g4⟩:=aKM hs (by decide) h3 h4 h5 h6
   rw[e2]
   exact ⟨rfl,key ad cap news rows e1 (by rw[g1];exact Nat.mul_one _) g2 g3⟩
 ·rename_i id v ex
  have kB:=kB id (aD4 (by rw[ex];rfl))
  rw[ex]at hv
  obtain ⟨l',c,rfl,hA⟩:=gF h
  obtain ⟨hlb,hA2⟩:=iA hA
  obtain rfl:=L.beq_eq hlb
  simp only[bB,Option.some.injEq,Prod.mk.injEq]at hA2
  obtain ⟨rfl,rfl⟩:=hA2
  have hw:=hv.sW kB
  rcases hs.objs _ _ kB with hq |⟨rows,cur,e2,i,hq,hh,q1,q2,q3,q4,q5,q6,q7⟩
  ·rw[hq];exact ⟨rfl,a5n (hw.1 hq)⟩
  ·rw[hq]
   have q6:cur.size=pl.cap id:=by rw[q6];exact Nat.mul_one _
   have hrr:qC P T S (.one (.int .u8)) cur.toList rows:=⟨by rw[show cur.toList.length=cur.size from Array.length_toList,q6];simp only[L.n,L.ks,List.length_cons,List.length_nil,Nat.zero_add,Nat.mul_one];exact q4,q7⟩
   have hrt:=hrr.take
   have e1:rows.length*(L.one (K.int .u8)).n=rows.length:=Nat.mul_one _
   rw[e1]at hrt
   refine ⟨rfl,key _ _ (cur.toList.take rows.length) rows (hw.2 _ hq) (by rw[List.length_take,show cur.toList.length=cur.size from Array.length_toList];omega) hrt (fun j u hj=> ?_)⟩
   rw[add_eq _ rfl,cell_of_row w _ _ _ _ _ hh]
   rw[List.getElem?_take]at hj
   split at hj
   ·simpa using hj
   ·cases hj
 ·simp at h
end
end Go.Ev
namespace Go.Ev
variable {E:Env} {P:Program} {T:Nat→gG} {S S':fB} {pl jE:Pl} {St eD:Ev.St} {F:Fr} {a:Act} {w w':World}
structure iF (P:Program) (T:Nat→gG) (S:fB) (ls:List L) (vs:List Value) (rows:List Row):Prop where
 aKN:vs.length=ls.length
 aCj:rows.length=ls.length
 arg:∀i l,ls[i]? =some l→sG P T S l (vs.getD i undef) (aA rows i)
theorem iF.mono (h:S.le S') {ls vs rows} (r:iF P T S ls vs rows):iF P T S' ls vs rows:=⟨r.aKN,r.aCj,fun i l hi=>(r.arg i l hi).mono h⟩
theorem iF.nil:iF P T S [] [] []:=⟨rfl,rfl,fun i l h=>by simp at h⟩
theorem iF.cons {l v row ls vs rows} (h:sG P T S l v row) (r:iF P T S ls vs rows):iF P T S (l::ls) (v::vs) (row::rows):=by
 refine ⟨by simp[r.aKN],by simp[r.aCj],fun i l' hi=> ?_⟩
 cases i with
 |zero=>simp at hi;subst hi;simpa[aA]using h
 |succ i=>simpa[aA]using r.arg i l' (by simpa using hi)
theorem iF.append {ls vs rows ls2 vs2 a1A} (h:iF P T S ls vs rows) (r:iF P T S ls2 vs2 a1A):iF P T S (ls++ls2) (vs++vs2) (rows++a1A):=by
 have h1:=h.aKN
 have h2:=h.aCj
 refine ⟨by simp[h.aKN,r.aKN],by simp[h.aCj,r.aCj],fun i l hi=> ?_⟩
 by_cases hlt:i<ls.length
 ·rw[List.getElem?_append_left hlt]at hi
  have:=h.arg i l hi
  simp only[aA,List.getD_eq_getElem?_getD]at this⊢
  rw[List.getElem?_append_left (by omega),List.getElem?_append_left (by omega)];exact this
 ·rw[List.getElem?_append_right (by omega)]at hi
  have:=r.arg _ l hi
  simp only[aA,List.getD_eq_getElem?_getD]at this⊢
  rw[List.getElem?_append_right (by omega),List.getElem?_append_right (by omega),h1,h2];exact this
def aKO (vs:List Value):Value:=match vs with |[v]=>v |_=> .tuple vs.toArray
def eZ (S:fB) (w:World):Prop:=∀b o v,S b o=some v→w.cell? ⟨b,o,none⟩=some v
def aRE (P:Program) (f:Nat):Prop:=∀(a:ByteArray) (c:Int) (w:World),(callFunc f #[.string a, .int .u8 c]).run P w= .ok (.value (.int .i64 (aJa a.data.toList c.toNat.toUInt8))) w
def aRF (P:Program) (f:Nat):Prop:=∀(a b:ByteArray) (w:World),(callFunc f #[.string a, .string b]).run P w= .ok (.value (.int .i64 (oF a.data.toList b.data.toList))) w
def aYE (P:Program) (T:Nat→gG) (pc:Nat→List Row→Option (List Row)):Prop:=
 ((∀f,T f= .cmp→aRF P f)∧∀f,T f= .ixb→aRE P f)∧∀f rows out ps rs,pc f rows=some out→(T f).sig=some (ps,rs)→∀S w vs,eZ S w→aDG P T S→aFT T w→iF P T S ps vs rows→
   (callFunc f vs.toArray).run P w= .ok (.enter f vs.toArray) w∧
   Calls P f vs.toArray w fun e w'=>∃out' S',e= .returned (aKO out')∧Grow (fun _=>False) S w S' w'∧eZ S' w'∧iF P T S' rs out' out
theorem aHR {A:Type} {k:List Row→Option A} {res:A} (hs:kW P T S pl St w) (hF:wX P T S pl St F a.tmps):
 ∀(ps:List L) (xs:List Operand) (axs:List zC),nG P T xs axs=true→rowsOf F St ps axs k=some res→∃rows,iF P T S ps (xs.map a.eval) rows∧k rows=some res
 |[],[],[],_,h=>⟨[], .nil,h⟩
 |[],_::_,[],h,_=>by simp[nG]at h
 |[],[],_::_,h,_=>by simp[nG]at h
 |[],_::_,_::_,_,h=>by simp[rowsOf]at h
 |_::_,[],[],_,h=>by simp[rowsOf]at h
 |_::_,_::_,[],h,_=>by simp[nG]at h
 |_::_,[],_::_,h,_=>by simp[nG]at h
 |l::ls,x::xs,ax::axs,hp,h=>by
  simp only[nG,Bool.and_eq_true]at hp
  simp only[rowsOf]at h
  obtain ⟨l',r,ex,hA⟩:=mP h
  obtain ⟨hb,hB⟩:=iA hA
  obtain rfl:=L.beq_eq hb
  have hv:=qA hs hp.1 hF;rw[ex]at hv
  obtain ⟨rows,h1,h2⟩:=aHR hs hF ls xs axs hp.2 hB
  exact ⟨r::rows, .cons hv.aA3 h1,h2⟩
theorem aTL:∀(ls:List L) (rows:List Row) (j i:Nat),(aPl ls rows j)[i]? =(ls[i]?).map fun l=> .d l (nrm l (aA rows (j+i)))
 |[],_,_,_=>by simp[aPl]
 |l::ls,rows,j,0=>by simp[aPl]
 |l::ls,rows,j,i+1=>by
  simp only[aPl,List.getElem?_cons_succ]
  rw[aTL ls rows (j+1) i]
  simp only[Nat.add_assoc,Nat.add_comm 1 i]
theorem aNX:∀(ls:List L) (rows:List Row) (j:Nat),(aPl ls rows j).length=ls.length
 |[],_,_=>rfl
 |l::ls,rows,j=>by simp[aPl,aNX ls rows (j+1)]
theorem aYF {ls:List L} {vs:List Value} {rows:List Row} (h:iF P T S ls vs rows):eB P T S pl St (aTw ls rows) (aKO vs):=by
 have tup:eB P T S pl St (.tup (aPl ls rows 0)) (.tuple vs.toArray):=by
  have:=eB.tup (P:=P) (T:=T) (S:=S) (pl:=pl) (St:=St) (sL:=aPl ls rows 0) (fun i=>vs.getD i undef) (fun i av hi=>by
   rw[aTL]at hi
   obtain ⟨l,hl,rfl⟩:=Option.map_eq_some_iff.1 hi
   have:=h.arg i l hl
   rw[Nat.zero_add,this.nrm];exact .d this)
  have e:((List.range (aPl ls rows 0).length).map fun i=>vs.getD i undef)=vs:=by
   rw[aNX,←h.aKN]
   apply List.ext_getElem?
   intro i
   by_cases hi:i<vs.length
   ·simp[hi]
   ·simp[hi]
  rw[e]at this;exact this
 have hl:=h.aKN
 match ls,vs,hl with
 |[l],[v],_=>
  have:=h.arg 0 l rfl
  simp only[List.getD_cons_zero]at this
  simp only[aTw,aKO,this.nrm]
  exact .d this
 |[],[],_=>exact tup
 |_::_::_,_::_::_,_=>exact tup
section
variable {o:Oper} {x y c:Operand} {ax ay ac:zC} {base:Nat}
variable (hs:kW P T S pl St w) (hF:wX P T S pl St F a.tmps)
include hs hF
theorem aRG {f:Nat} {ps rs:List L} {rows out:List Row} {vs:List Value} (hpc:aYE P T E.pc) (aLR:(T f).sig=some (ps,rs)) (hargs:iF P T S ps vs rows) (hout:E.pc f rows=some out)
 (hrun:(execOp a.eval o).run P w=(callFunc f vs.toArray).run P w):qE P o a w (aB P T S pl St w St (aTw rs out)):=by
 obtain ⟨h1,h2⟩:=hpc.2 f rows out ps rs hout aLR S w vs hs.aCk hs.zL hs.gsz hargs
 intro next Q hn
 unfold Oper.wp
 rw[hrun,h1]
 rw[Oper.upon_enter]
 refine h2.mono fun e w' he=> ?_
 obtain ⟨out',S',rfl,hg,hst,hr⟩:=he
 refine hn _ _ ⟨S',pl, ?_, ?_,aYF hr,fun _ _ h=>h.keep (.refl _ _) hg.mono,fun _ h=> .inl h⟩
 ·refine hs.frame hg.mono (fun j ob hj hh=>hg.block _ (hs.n9 hj hh) (fun h=>h)) hst (fun j ob hj hh off hoff=> ?_) (fun g hlt _=>hg.block g hlt (fun h=>h))
  rw[hg.new _ _ (hs.n9 hj hh) (fun h=>h)]
  exact hs.apart j ob hj hh off hoff
 ·exact ⟨hg.os,hg.tape,hg.output,hg.size,fun b hb _=>hg.block b hb (fun h=>h),hg.mono,fun b off hb _=>hg.new b off hb (fun h=>h)⟩
def aWf (P:Program) (T:Nat→gG) (f:Nat) (ps rs:List L):Bool:=match (T f).sig with |some (ps',rs')=>aJb ps ps'&&aJb rs rs' |none=>false
omit hs hF in
theorem aTM {f:Nat} {ps rs:List L} (h:aWf P T f ps rs=true):(T f).sig=some (ps,rs):=by
 unfold aWf at h
 split at h
 ·rename_i hq
  simp only[Bool.and_eq_true]at h
  rw[hq,aEN h.1,aEN h.2]
 ·simp at h
theorem a2G {f:Nat} {ps rs:List L} {xs:Array Operand} {ts:Array TypeId} {axs:List zC} {ob:Obj} {av:AV} {no:Option Obj} (hpc:aYE P T E.pc)
 (ho:o.op= .call {callee:= .value (.func f),args:=xs,argTypes:=ts}) (hx:nG P T xs.toList axs=true) (hc:aWf P T f ps rs=true)
 (h:bH E F St ob (.call f ps rs axs) base bB=some (av,no)):no=none∧qE P o a w (aB P T S pl St w St av):=by
 simp only[bH]at h
 obtain ⟨rows,h1,h2⟩:=aHR hs hF ps xs.toList axs hx h
 obtain ⟨out,h3,h4⟩:=Option.bind_eq_some_iff.1 h2
 simp only[bB,Option.some.injEq,Prod.mk.injEq]at h4
 obtain ⟨rfl,rfl⟩:=h4
 refine ⟨rfl,aRG hs hF hpc (aTM hc) h1 h3 ?_⟩
 have e:(List.map a.eval xs.toList).toArray=Array.map a.eval xs:=by apply Array.ext';simp
 rw[e]
 unfold execOp
 simp[ho,resolve,Deferred.ofValue,invoke,Act.eval]
def aVh (P:Program) (t:TypeId) (ps rs:List L):Bool:=
 match P.underlying t with
 |some (.func pt rt _)=>(match aCi P pt.toList,aCi P rt.toList with |some ps',some rs'=>aJb ps ps'&&aJb rs rs' |_,_=>false)
 |_=>false
theorem a0D {t:TypeId} {ps rs:List L} {xs:Array Operand} {ts:Array TypeId} {axs:List zC} {ob:Obj} {av:AV} {no:Option Obj} (hpc:aYE P T E.pc)
 (ho:o.op= .call {callee:= .value x,args:=xs,argTypes:=ts}) (hx:nA P T x ax=true) (hxs:nG P T xs.toList axs=true) (hc:aVh P t ps rs=true)
 (h:bH E F St ob (.callv t ps rs ax axs) base bB=some (av,no)):no=none∧qE P o a w (aB P T S pl St w St av):=by
 have hv:=nC hs hx hF
 simp only[bH]at h
 split at h
 ·rename_i t' r ex
  rw[ex]at hv
  obtain ⟨hb,hA⟩:=iA h
  obtain rfl:=Nat.eq_of_beq_eq_true hb
  obtain ⟨rows,h1,h2⟩:=aHR hs hF ps xs.toList axs hxs hA
  obtain ⟨out,h3,h4⟩:=Option.bind_eq_some_iff.1 h2
  simp only[bB,Option.some.injEq,Prod.mk.injEq]at h4
  obtain ⟨rfl,rfl⟩:=h4
  obtain ⟨cc,rfl,aD6⟩:=hv.aA3
  have hat:at_ [cc] 0=cc:=rfl
  rw[hat]at h3
  generalize hvv:a.eval x=v at aD6
  cases aD6 with
  |aLA=>simp[aKj]at h3
  | @fn _ f ks cs vs hok hlen a5p=>
    simp only[aKj]at h3
    obtain ⟨pt,rt,vr,ps',rs',hu,hp1,hp2,aLR⟩:=hok
    simp only[aVh,hu,hp1,hp2,Bool.and_eq_true]at hc
    obtain rfl:=aEN hc.1
    obtain rfl:=aEN hc.2
    have hcap:iF P T S (ks.map .one) ((List.range ks.length).map vs) (cs.map fun c=>[c]):=by
     refine ⟨by simp,by simp[hlen],fun i l hi=> ?_⟩
     rw[List.getElem?_map]at hi
     obtain ⟨k,hk,rfl⟩:=Option.map_eq_some_iff.1 hi
     have hi':=(List.getElem?_eq_some_iff.1 hk).1
     have:=a5p i k hk
     refine ⟨at_ cs i, ?_, ?_⟩
     ·simp[aA,List.getD_eq_getElem?_getD,Ev.at_,show i<cs.length by omega]
     ·simpa[List.getD_eq_getElem?_getD,hi']using this
    refine ⟨rfl,aRG hs hF hpc aLR (h1.append hcap) h3 ?_⟩
    unfold execOp
    simp[ho,resolve,Deferred.ofValue,invoke,hvv,List.map_toArray]
    congr 2
    apply Array.ext'
    simp
 ·simp at h
end
end Go.Ev
