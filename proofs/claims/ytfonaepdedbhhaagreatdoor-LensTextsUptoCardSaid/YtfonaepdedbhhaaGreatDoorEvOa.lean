/-
  Each operation of the abstract machine does what the model's operation does: arrays, the comparison of strings, == of structs.
-/
import Derived.Test.YtfonaepdedbhhaaGreatDoorEvK
import Derived.Lib.Bytealg
import Derived.Laws.Externs
import Derived.Laws.StructEq
set_option linter.all false
namespace Go.Ev
variable {E:Env} {P:Program} {T:Nat→gG} {S S':fB} {pl jE:Pl} {St eD:Ev.St} {F:Fr} {a:Act} {w w':World}
theorem aN3:∀(a b:List UInt8),oF a b=Lib.compareBytes a b
 |[],[]=>rfl
 |[],_::_=>rfl
 |_::_,[]=>rfl
 |a::x,b::y=>by simp only[oF,Lib.compareBytes,aN3 x y]
theorem aYU {f:Nat} {fn:Func} (hf:P.funcs[f]? =some fn) (hname:(fn.name== "runtime.NumGoroutine")=false) (hb:fn.body.isNone=true) (hn:Extern.findNext fn=none)
 (he:Extern.find fn=some Extern.BytealgCompare.compare):aRF P f:=fun a b w=>by
 rw[run_callFunc_extern hf hname hb hn he,Lib.run_compareString,aN3];rfl
theorem aTX:∀(l:List UInt8) (c:UInt8),aJa l c=Lib.indexByte l c
 |[],c=>rfl
 |b::l,c=>by simp only[aJa,Lib.indexByte,aTX l c]
theorem aYV {f:Nat} {fn:Func} (hf:P.funcs[f]? =some fn) (hname:(fn.name== "runtime.NumGoroutine")=false) (hb:fn.body.isNone=true) (hn:Extern.findNext fn=none)
 (he:Extern.find fn=some Extern.BytealgIndexByte.indexByte):aRE P f:=fun a c w=>by
 rw[run_callFunc_extern hf hname hb hn he,Lib.run_indexByteString,aTX];rfl
theorem aRO {ks:List K} {m n:Nat} (h:n<m):((List.replicate m ks).flatten.drop (n*ks.length)).take ks.length=ks:=by
 induction m generalizing n with
 |zero=>omega
 |succ m ih=>
  rw[List.replicate_succ,List.flatten_cons]
  cases n with
  |zero=>simp
  |succ n=>
   rw[Nat.succ_mul,Nat.add_comm,←List.drop_drop,List.drop_left]
   exact ih (by omega)
def aTV (P:Program) (t e:TypeId) (m:Nat) (l:L):Bool:=
 (match P.underlying t with |some (.array m' e')=>Nat.beq m' m&&Nat.beq e' e |_=>false)&&aDI P e l&&Nat.blt 0 l.n&&aDI P t (.agg (List.replicate m l.ks).flatten)
theorem aKT {t e m l} (h:aTV P t e m l=true):P.underlying t=some (.array m e)∧Lay P e l∧0<l.n∧Lay P t (.agg (List.replicate m l.ks).flatten):=by
 simp only[aTV,Bool.and_eq_true]at h
 obtain ⟨⟨⟨h1,h2⟩,h3⟩,h4⟩:=h
 split at h1
 ·rename_i m' e' he
  simp only[Bool.and_eq_true]at h1
  rw[he,Nat.eq_of_beq_eq_true h1.1,Nat.eq_of_beq_eq_true h1.2]
  exact ⟨rfl,bC h2,by simpa using h3,bC h4⟩
 ·simp at h1
section
variable {o:Oper} {x y c:Operand} {ax ay ac:zC} {base:Nat}
variable (hs:kW P T S pl St w) (hF:wX P T S pl St F a.tmps)
include hs hF
theorem a2Y {f:Nat} {ts:Array TypeId} {ob:Obj} {av:AV} {no:Option Obj} (hcmp:aRF P f) (ho:o.op= .call {callee:= .value (.func f),args:=#[x,y],argTypes:=ts}) (hx:nA P T x ax=true) (hy:nA P T y ay=true)
 (h:bH E F St ob (.aXa f ax ay) base bB=some (av,no)):no=none∧qE P o a w (aB P T S pl St w St av):=by
 simp only[bH]at h
 obtain ⟨r1,e1,hA⟩:=gU h
 obtain ⟨r2,e2,hB⟩:=gU hA
 have g1:=qA hs hx hF;rw[e1]at g1;obtain ⟨b1,h1,q1⟩:=g1.aDH
 have g2:=qA hs hy hF;rw[e2]at g2;obtain ⟨b2,h2,q2⟩:=g2.aDH
 simp only[bB,Option.some.injEq,Prod.mk.injEq]at hB
 obtain ⟨rfl,rfl⟩:=hB
 rw[←q1,←q2]
 refine ⟨rfl,mA (v:= .int .i64 (oF b1.data.toList b2.data.toList)) (w':=w) ?_ (.same hs (aIY _ _))⟩
 unfold execOp
 simp[ho,resolve,Deferred.ofValue,invoke,Act.eval]
 have:=hcmp b1 b2 w
 simp only[Act.eval]at h1 h2
 rw[←this]
 congr 2
 simp[←h1,←h2]
theorem a2X {f:Nat} {ts:Array TypeId} {ob:Obj} {av:AV} {no:Option Obj} (hix:aRE P f) (ho:o.op= .call {callee:= .value (.func f),args:=#[x,y],argTypes:=ts}) (hx:nA P T x ax=true) (hy:nA P T y ay=true)
 (h:bH E F St ob (.aW9 f ax ay) base bB=some (av,no)):no=none∧qE P o a w (aB P T S pl St w St av):=by
 simp only[bH]at h
 obtain ⟨r1,e1,hA⟩:=gU h
 obtain ⟨kd,r2,e2,hB⟩:=fF hA
 obtain ⟨hkd,hC⟩:=iA hB
 obtain rfl:kd= .u8:=aD3 (b:= .u8) hkd
 have g1:=qA hs hx hF;rw[e1]at g1;obtain ⟨b1,h1,q1⟩:=g1.aDH
 have g2:=qA hs hy hF;rw[e2]at g2;have h2:=g2.of_int
 simp only[bB,Option.some.injEq,Prod.mk.injEq]at hC
 obtain ⟨rfl,rfl⟩:=hC
 rw[←q1]
 refine ⟨rfl,mA (v:= .int .i64 (aJa b1.data.toList (at_ r2 0).vA.toNat.toUInt8)) (w':=w) ?_ (.same hs (aIY _ _))⟩
 unfold execOp
 simp[ho,resolve,Deferred.ofValue,invoke,Act.eval]
 have:=hix b1 (at_ r2 0).vA w
 simp only[Act.eval]at h1 h2
 rw[←this]
 congr 2
 simp[←h1,←h2]
theorem a2Z {m:Nat} {t e:TypeId} {l:L} {ob:Obj} {av:AV} {no:Option Obj} (ho:o.op= .index t x y) (hB:aTV P t e m l=true) (hx:nA P T x ax=true) (hy:nA P T y ay=true)
 (h:bH E F St ob (.aSq m l ax ay) base bB=some (av,no)):no=none∧qE P o a w (aB P T S pl St w St av):=by
 obtain ⟨hu,hL,hn,hLt⟩:=aKT hB
 have hv:=qA hs hx hF
 have hi:=qA hs hy hF
 simp only[bH]at h
 obtain ⟨kd,ri,ei,hA⟩:=fF h
 rw[ei]at hi
 have hi:=hi.of_int
 generalize (at_ ri 0).vA=n at*
 split at hA
 ·rename_i ks' r ex
  obtain ⟨hk,hC⟩:=iA hA
  have hk:=aDl hk
  subst hk
  obtain ⟨hlt,hD⟩:=bD hC
  simp only[bB,Option.some.injEq,Prod.mk.injEq]at hD
  obtain ⟨rfl,rfl⟩:=hD
  rw[ex]at hv
  obtain ⟨cs,hcs,hr⟩:=hv.aA3
  have hnm:n.toNat<m:=by omega
  obtain ⟨u,hu1,hu2⟩:=aYA (off:=n.toNat*l.n) hL hn hv.aA3 cs hcs (aRO hnm).symm w
  refine ⟨rfl,mA (v:=u) (w':=w) ?_ (.same hs (.d (by rw[hu2.nrm];exact hu2)))⟩
  simp only[execOp,ho]
  refine vY ?_
  rw[hi,hcs]
  simp[Instr.index,run_underlying hu,asIntOf,hlt,hL.size w,hu1]
 ·simp at hA
theorem a22 {m:Nat} {t e:TypeId} {l:L} {ob:Obj} {av:AV} {no:Option Obj} (ho:o.op= .indexAddr t x y) (hB:aTV P t e m l=true) (hx:nA P T x ax=true) (hy:nA P T y ay=true)
 (kB:∀id,mG (ax.ev F)=some id→St[id]? =some ob)
 (h:bH E F St ob (.qF m t e l ax ay) base bB=some (av,no)):no=none∧qE P o a w (aB P T S pl St w St av):=by
 obtain ⟨hu,hL,hn,hLt⟩:=aKT hB
 have hv:=nC hs hx hF
 have hi:=qA hs hy hF
 simp only[bH]at h
 obtain ⟨kd,ri,ei,hA⟩:=fF h
 rw[ei]at hi
 have hi:=hi.of_int
 generalize (at_ ri 0).vA=n at*
 have key:∀(b p:Nat),0≤n→n<(m:Int)→(Instr.indexAt t (.pointer (some ⟨b,p,none⟩)) (.int kd n)).run P w= .ok (.pointer (some ⟨b,p+n.toNat*l.n,none⟩)) w:=by
  intro b p h0 h1
  simp[Instr.indexAt,Instr.sureAddr,run_underlying hu,asIntOf,h0,h1,hL.size w,add_eq]
 split at hA
 ·rename_i t' r ex
  obtain ⟨hb,hC⟩:=iA hA
  obtain rfl:=Nat.eq_of_beq_eq_true hb
  obtain ⟨hlt,hD⟩:=bD hC
  simp only[bB,Option.some.injEq,Prod.mk.injEq]at hD
  obtain ⟨rfl,rfl⟩:=hD
  rw[ex]at hv
  obtain ⟨l0,ad,g,e1,h1,h2,h3,h4,h5⟩:=hv.aSy hlt.2.2
  obtain rfl:=h1.inj hLt
  have had:ad=⟨ad.block,ad.off,none⟩:=by cases ad;simp at h3;subst h3;rfl
  have hdp:=hlt.2.2
  have hnm:n.toNat<m:=by omega
  refine ⟨rfl,mA (w':=w) (uJ ho ?_) (.same hs (.d ⟨_,rfl,aTH (off:=n.toNat*l.n) hL (aRO hnm).symm h3 h4 h5⟩))⟩
  rw[e1,had,hi];exact key _ _ hlt.1 hlt.2.1
 ·rename_i id p ex
  have kB:=kB id (by rw[ex];rfl)
  rw[ex]at hv
  obtain ⟨hk2,hC⟩:=aHO hA
  obtain ⟨hlt,hD⟩:=bD hC
  simp only[bB,Option.some.injEq,Prod.mk.injEq]at hD
  obtain ⟨rfl,rfl⟩:=hD
  have e1:=hv.aPw kB hk2
  refine ⟨rfl,mA (w':=w) (uJ ho ?_) (.same hs (.aVc kB hk2))⟩
  rw[e1,hi];exact key _ _ hlt.1 hlt.2
 ·rename_i id v i p ex
  have kB:=kB id (by rw[ex];rfl)
  rw[ex]at hv
  obtain ⟨l0,c,rfl,hC⟩:=gF hA
  obtain ⟨hlt,hD⟩:=bD hC
  simp only[bB,Option.some.injEq,Prod.mk.injEq]at hD
  obtain ⟨rfl,rfl⟩:=hD
  have e1:=hv.aLH kB
  refine ⟨rfl,mA (w':=w) (uJ ho ?_) (.same hs (.aO4 kB))⟩
  rw[e1,hi,←Nat.add_assoc];exact key _ _ hlt.1 hlt.2
 ·simp at hA
omit hs hF in
theorem aYW (row:Row) (n i:Nat) (h:n+i<row.length):at_ (aA ((row.drop n).map fun c=>[c]) i) 0=at_ row (n+i):=by
 have h7:i<((row.drop n).map fun c=>[c]).length:=by simp;omega
 have e:aA ((row.drop n).map fun c=>[c]) i=[row[n+i]]:=by
  unfold aA
  rw[List.getD_eq_getElem?_getD,List.getElem?_eq_getElem h7]
  simp
 rw[e]
 unfold at_
 rw[List.getD_eq_getElem?_getD (l:=row),List.getElem?_eq_getElem h]
 rfl
omit hs hF in
theorem aN4 {α:Type} (k:α):∀m:Nat,(List.replicate m [k]).flatten=List.replicate m k
 |0=>rfl
 |m+1=>by rw[List.replicate_succ,List.flatten_cons,aN4 k m,List.replicate_succ];rfl
theorem a23 {m:Nat} {t e:TypeId} {l:L} {lo:Operand} {alo:zC} {ob:Obj} {av:AV} {no:Option Obj} (ho:o.op= .slice t x (some lo) none none) (hB:aTV P t e m l=true) (hl1:Nat.beq l.n 1=true)
 (hx:nA P T x ax=true) (hlo:nA P T lo alo=true)
 (h:bH E F St ob (.aSr m t e l ax alo) base bB=some (av,no)):no=none∧qE P o a w (aB P T S pl St w St av):=by
 obtain ⟨hu,hL,hn,hLt⟩:=aKT hB
 have hl1:=Nat.eq_of_beq_eq_true hl1
 have hv:=nC hs hx hF
 have hi:=qA hs hlo hF
 simp only[bH]at h
 obtain ⟨kd,ri,ei,hA⟩:=fF h
 rw[ei]at hi
 have hi:=hi.of_int
 generalize (at_ ri 0).vA=n at*
 split at hA
 ·rename_i t' r ex
  obtain ⟨hb,hC⟩:=iA hA
  obtain rfl:=Nat.eq_of_beq_eq_true hb
  obtain ⟨hlt,hD⟩:=bD hC
  simp only[bB,Option.some.injEq,Prod.mk.injEq]at hD
  obtain ⟨rfl,rfl⟩:=hD
  rw[ex]at hv
  obtain ⟨l0,ad,g,e1,h1,h2,h3,h4,h5⟩:=hv.aSy hlt.2.2
  obtain rfl:=h1.inj hLt
  obtain ⟨k,hk⟩:∃k,l.ks=[k]:=by
   have:l.ks.length=1:=hl1
   match hq:l.ks,this with
   |[k],_=>exact ⟨k,rfl⟩
  have aYX:(List.replicate m l.ks).flatten=List.replicate m k:=by rw[hk];exact aN4 k m
  have hlen:(at_ r 0).cA.length=m:=by
   rw[h2]
   show (List.replicate m l.ks).flatten.length=m
   rw[aYX,List.length_replicate]
  obtain ⟨bk,a5B,sp⟩:=ad
  simp only at h3
  subst h3
  have hnm:n.toNat≤m:=by omega
  have hrun:(execOp a.eval o).run P w= .ok (.value (.slice (some (if m=n.toNat then ⟨bk,a5B,none⟩else ⟨bk,a5B+n.toNat*l.n,none⟩)) (m - n.toNat) (m - n.toNat))) w:=by
   simp only[execOp,ho]
   refine vY ?_
   rw[e1]
   have hbd:(Instr.sliceBounds false m m (some (.int kd n)) none none).run P w= .ok (n.toNat,m,m) w:=by
    simp[Instr.sliceBounds,Instr.sliceBound,asIntOf,hlt.1,hlt.2.1,Sem.run_bind,Result.andThen]
   simp[Instr.sliceAt,Instr.sureAddr,run_underlying hu,hi,hbd,hL.size w,add_eq]
  refine ⟨rfl,mA hrun (.same hs (.d ⟨_,rfl, ?_⟩))⟩
  refine .sl (l:=l) (fun i _=>g (n.toNat+i)) hL (by simp[hlen]) (Nat.le_refl _) (fun q hq=> ?_) (fun _=> ?_) (fun i j hi' hj=> ?_) (fun i j k' hi' hk'=> ?_)
  ·obtain ⟨c,_,rfl⟩:=List.mem_map.1 hq
   rw[hl1];rfl
  ·split<;>rfl
  ·rw[if_neg (show ¬m=n.toNat by omega)]
   have:=h4 (n.toNat+i) (by show _<(List.replicate m l.ks).flatten.length;rw[aYX,List.length_replicate];omega)
   have hj0:j=0:=by omega
   subst hj0
   simp only[hl1,Nat.mul_one,Nat.add_zero]at this⊢
   rw[←this];congr 1;omega
  ·rw[hk]at hk'
   cases j with
   |succ j=>simp at hk'
   |zero=>
    simp only[List.getElem?_cons_zero,Option.some.injEq]at hk'
    subst hk'
    have hlt2:n.toNat+i<m:=by omega
    have:=h5 (n.toNat+i) k (by show (List.replicate m l.ks).flatten[n.toNat+i]? =_;rw[aYX,List.getElem?_replicate,if_pos hlt2])
    rw[aYW _ _ _ (by omega)];exact this
 ·simp at hA
end
def xI (P:Program):List Field→Nat→List K→Bool
 |[],_,[]=>true
 |f::fs,i,k::ks=>(f.name != "_")&&Nat.beq f.offset i&&aDI P f.type (.one k)&&(match k with | .int _=>true | .bool=>true | .str=>true |_=>false)&&xI P fs (i+1) ks
 |_,_,_=>false
def a2V (P:Program) (t:TypeId) (l:L):Bool:=
 (match P.underlying t,l with |some (.struct fs), .agg ks=>xI P fs.toList 0 ks |_,_=>false)&& !P.stoodInHeld t&& !P.eqGuardType P.depth t
theorem aAb {t:TypeId} {k:K} (h:Lay P t (.one k)):(∀i,k= .int i→P.underlying t=some (.int i))∧(k= .bool→P.underlying t=some .bool)∧(k= .str→P.underlying t=some .string):=by
 have h1:=h.1
 unfold aFx at h1
 cases hu:P.underlying t with
 |none=>rw[hu]at h1;simp[gV,hu]at h1
 |some d=>
  rw[hu]at h1
  cases d<;>simp[gV,hu]at h1<;>subst h1<;>simp_all
theorem aHS {d:Nat} {xs ys:Array Value} {rx ry:Row}:∀(fs:List Field) (i:Nat) (ks:List K),xI P fs i ks=true→
 (∀j k,ks[j]? =some k→Rep P T S k (xs.toList.getD (i+j) undef) (at_ rx (i+j))∧Rep P T S k (ys.toList.getD (i+j) undef) (at_ ry (i+j))∧i+j<xs.size∧i+j<ys.size)→
 (Op.eqFields (d+1) xs ys fs).run P w= .ok (ceq ks (rx.drop i) (ry.drop i)) w
 |[],i,[],_,_=>by simp[Op.eqFields,ceq]
 |[],_,_::_,h,_=>by simp[xI]at h
 |_::_,_,[],h,_=>by simp[xI]at h
 |f::fs,i,k::ks,h,hr=>by
  simp only[xI,Bool.and_eq_true]at h
  obtain ⟨⟨⟨⟨h1,h2⟩,h3⟩,h4⟩,h5⟩:=h
  have hname:f.name≠ "_" :=by simpa using h1
  have hoff:=Nat.eq_of_beq_eq_true h2
  have hL:=bC h3
  obtain ⟨hx,hy,hxl,hyl⟩:=hr 0 k rfl
  simp only[Nat.add_zero]at hx hy hxl hyl
  have ih:=aHS (d:=d) fs (i+1) ks h5 (fun j k hj=>by
   have:=hr (j+1) k (by simpa using hj)
   have e:i+(j+1)=i+1+j:=by omega
   rw[e]at this;exact this)
  have hpart:∀(cs:Array Value),i<cs.size→(Go.part f.type cs f.offset).run P w= .ok (cs.toList.getD i undef) w:=by
   intro cs hc
   unfold Go.part
   rw[Sem.run_bind,hL.agg w,hoff]
   simp[hc]
  have hdx:at_ (rx.drop i) 0=at_ rx i:=by simp[Ev.at_,List.getD_eq_getElem?_getD]
  have hdy:at_ (ry.drop i) 0=at_ ry i:=by simp[Ev.at_,List.getD_eq_getElem?_getD]
  obtain ⟨u1,u2,u3⟩:=aAb hL
  simp only[Op.eqFields,if_pos hname,Sem.run_bind,hpart xs hxl,hpart ys hyl,Result.andThen_ok]
  generalize xs.toList.getD i undef=vx at hx
  generalize ys.toList.getD i undef=vy at hy
  generalize hcx:at_ rx i=cx at hx hdx
  generalize hcy:at_ ry i=cy at hy hdy
  cases k with
  |int kd=>
   cases hx;cases hy
   rw[run_equalIn_int w d f.type kd kd _ _ (u1 _ rfl)]
   simp only[ceq,hdx,hdy,C.vA,Result.andThen_ok,List.drop_drop]
   rename_i n m
   by_cases e:n==m
   ·simp[e,ih]
   ·simp[e]
  |bool=>
   cases hx;cases hy
   rw[run_equalIn_bool w d f.type _ _ (u2 rfl)]
   simp only[ceq,hdx,hdy,C.lK,Result.andThen_ok,List.drop_drop]
   rename_i n m
   by_cases e:n==m
   ·simp[e,ih]
   ·simp[e]
  |str=>
   cases hx;cases hy
   rw[run_equalIn_string w d f.type _ _ (u3 rfl)]
   simp only[ceq,hdx,hdy,C.mD,Result.andThen_ok,List.drop_drop,ByteArray.toList_eq]
   rename_i n m
   by_cases e:n.data.toList==m.data.toList
   ·simp[e,ih]
   ·simp[e]
  |_=>simp at h4
theorem a5A {o:Oper} {x y:Operand} {ax ay:zC} {base:Nat} (hs:kW P T S pl St w) (hF:wX P T S pl St F a.tmps) {neg:Bool} {op:BinOp} {t u:TypeId} {l:L} {ob:Obj} {av:AV} {no:Option Obj} (ho:o.op= .binOp op t x y u) (hop:op=(if neg then .neq else .eql)) (hB:a2V P t l=true)
 (hx:nA P T x ax=true) (hy:nA P T y ay=true)
 (h:bH E F St ob (.aeq neg l ax ay) base bB=some (av,no)):no=none∧qE P o a w (aB P T S pl St w St av):=by
 simp only[a2V,Bool.and_eq_true,Bool.not_eq_true']at hB
 obtain ⟨⟨hf,hsi⟩,hg⟩:=hB
 split at hf
 ·rename_i fs ks hu
  simp only[bH]at h
  obtain ⟨l1,rx,e1,hA⟩:=mP h
  obtain ⟨l2,ry,e2,hC⟩:=mP hA
  obtain ⟨hb,hD⟩:=iA hC
  simp only[Bool.and_eq_true]at hb
  obtain rfl:=L.beq_eq hb.1
  obtain rfl:=L.beq_eq hb.2
  simp only[bB,Option.some.injEq,Prod.mk.injEq]at hD
  obtain ⟨rfl,rfl⟩:=hD
  have hvx:=qA hs hx hF;rw[e1]at hvx
  have hvy:=qA hs hy hF;rw[e2]at hvy
  obtain ⟨xs,hxs,hrx⟩:=hvx.aA3
  obtain ⟨ys,hys,hry⟩:=hvy.aA3
  have hfo:P.fieldsOf t=fs:=by simp[Program.fieldsOf,hu]
  have hut:P.underlying t=some (.struct (P.fieldsOf t)):=by rw[hfo];exact hu
  have hrun:(Op.equalIn 10000 t (.agg xs) (.agg ys)).run P w= .ok (ceq ks rx ry) w:=by
   rw[run_equalIn_struct w 9999 t xs ys hut hsi,hfo]
   have:=aHS (P:=P) (T:=T) (S:=S) (w:=w) (d:=9998) (xs:=xs) (ys:=ys) (rx:=rx) (ry:=ry) fs.toList 0 ks hf (fun j k hj=>by
    have hj':=(List.getElem?_eq_some_iff.1 hj).1
    have h1:=hrx.wU;have h2:=hry.wU
    rw[Nat.zero_add]
    exact ⟨hrx.cell j k hj,hry.cell j k hj,by simp at h1;omega,by simp at h2;omega⟩)
   simpa using this
  refine ⟨rfl,mA (v:= .bool (aSs neg (ceq ks rx ry))) (w':=w) ?_ (.same hs (aXd _))⟩
  unfold execOp
  simp only[ho,hxs,hys]
  refine vY ?_
  rw[Sem.run_bind,run_eqGuard_agg w op t x y xs ys hg]
  simp only[Result.andThen_ok]
  cases neg
  ·simp at hop;subst hop
   rw[run_eql_struct,hrun];rfl
  ·simp at hop;subst hop
   rw[run_neq_struct,hrun];rfl
 ·simp at hf
end Go.Ev
