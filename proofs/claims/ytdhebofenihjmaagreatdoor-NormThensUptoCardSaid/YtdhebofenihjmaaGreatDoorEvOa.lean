/-
  Each operation of the abstract machine does what the model's operation does: arrays, the comparison of strings, == of structs.
-/
import Derived.Test.YtdhebofenihjmaaGreatDoorEvK
import Derived.Lib.Bytealg
import Derived.Laws.Externs
import Derived.Laws.StructEq
set_option linter.all false
namespace Go.Ev
variable {E:Env} {P:Program} {T:Nat→yF} {S S':yA} {pl wD:Pl} {St dD:Ev.St} {F:Fr} {a:Act} {w w':World}
theorem aSR:∀(a b:List UInt8),nF a b=Lib.compareBytes a b
 |[],[]=>rfl
 |[],_::_=>rfl
 |_::_,[]=>rfl
 |a::x,b::y=>by simp only[nF,Lib.compareBytes,aSR x y]
theorem a6S {f:Nat} {fn:Func} (hf:P.funcs[f]? =some fn) (hname:(fn.name== "runtime.NumGoroutine")=false) (hb:fn.body.isNone=true) (hn:Extern.findNext fn=none)
 (he:Extern.find fn=some Extern.BytealgCompare.compare):aXp P f:=fun a b w=>by
 rw[run_callFunc_extern hf hname hb hn he,Lib.run_compareString,aSR];rfl
theorem a0t:∀(l:List UInt8) (c:UInt8),aM8 l c=Lib.indexByte l c
 |[],c=>rfl
 |b::l,c=>by simp only[aM8,Lib.indexByte,a0t l c]
theorem a6T {f:Nat} {fn:Func} (hf:P.funcs[f]? =some fn) (hname:(fn.name== "runtime.NumGoroutine")=false) (hb:fn.body.isNone=true) (hn:Extern.findNext fn=none)
 (he:Extern.find fn=some Extern.BytealgIndexByte.indexByte):aXo P f:=fun a c w=>by
 rw[run_callFunc_extern hf hname hb hn he,Lib.run_indexByteString,a0t];rfl
theorem aXy {ks:List K} {m n:Nat} (h:n<m):((List.replicate m ks).flatten.drop (n*ks.length)).take ks.length=ks:=by
 induction m generalizing n with
 |zero=>omega
 |succ m ih=>
  rw[List.replicate_succ,List.flatten_cons]
  cases n with
  |zero=>simp
  |succ n=>
   rw[Nat.succ_mul,Nat.add_comm,←List.drop_drop,List.drop_left]
   exact ih (by omega)
def a45 (P:Program) (t e:TypeId) (m:Nat) (l:L):Bool:=
 (match P.underlying t with |some (.array m' e')=>Nat.beq m' m&&Nat.beq e' e |_=>false)&&aF5 P e l&&Nat.blt 0 l.n&&aF5 P t (.agg (List.replicate m l.ks).flatten)
theorem aUR {t e m l} (h:a45 P t e m l=true):P.underlying t=some (.array m e)∧Lay P e l∧0<l.n∧Lay P t (.agg (List.replicate m l.ks).flatten):=by
 simp only[a45,Bool.and_eq_true]at h
 obtain ⟨⟨⟨h1,h2⟩,h3⟩,h4⟩:=h
 split at h1
 ·rename_i m' e' he
  simp only[Bool.and_eq_true]at h1
  rw[he,Nat.eq_of_beq_eq_true h1.1,Nat.eq_of_beq_eq_true h1.2]
  exact ⟨rfl,aC h2,by simpa using h3,aC h4⟩
 ·simp at h1
section
variable {o:Oper} {x y c:Operand} {ax ay ac:rD} {base:Nat}
variable (hs:mW P T S pl St w) (hF:wX P T S pl St F a.tmps)
include hs hF
theorem bDR {f:Nat} {ts:Array TypeId} {ob:Obj} {av:AV} {no:Option Obj} (hcmp:aXp P f) (ho:o.op= .call {callee:= .value (.func f),args:=#[x,y],argTypes:=ts}) (hx:oA P T x ax=true) (hy:oA P T y ay=true)
 (h:rG E F St ob (.a4P f ax ay) base cB=some (av,no)):no=none∧cE P o a w (bB P T S pl St w St av):=by
 simp only[rG]at h
 obtain ⟨r1,e1,hA⟩:=jT h
 obtain ⟨r2,e2,hB⟩:=jT hA
 have g1:=qA hs hx hF;rw[e1]at g1;obtain ⟨b1,h1,q1⟩:=g1.aFm
 have g2:=qA hs hy hF;rw[e2]at g2;obtain ⟨b2,h2,q2⟩:=g2.aFm
 simp only[cB,Option.some.injEq,Prod.mk.injEq]at hB
 obtain ⟨rfl,rfl⟩:=hB
 rw[←q1,←q2]
 refine ⟨rfl,mA (v:= .int .i64 (nF b1.data.toList b2.data.toList)) (w':=w) ?_ (.same hs (aNa _ _))⟩
 unfold execOp
 simp[ho,resolve,Deferred.ofValue,invoke,Act.eval]
 have:=hcmp b1 b2 w
 simp only[Act.eval]at h1 h2
 rw[←this]
 congr 2
 simp[←h1,←h2]
theorem bDQ {f:Nat} {ts:Array TypeId} {ob:Obj} {av:AV} {no:Option Obj} (hix:aXo P f) (ho:o.op= .call {callee:= .value (.func f),args:=#[x,y],argTypes:=ts}) (hx:oA P T x ax=true) (hy:oA P T y ay=true)
 (h:rG E F St ob (.a4O f ax ay) base cB=some (av,no)):no=none∧cE P o a w (bB P T S pl St w St av):=by
 simp only[rG]at h
 obtain ⟨r1,e1,hA⟩:=jT h
 obtain ⟨kd,r2,e2,hB⟩:=aG hA
 obtain ⟨hkd,hC⟩:=lA hB
 obtain rfl:kd= .u8:=aF4 (b:= .u8) hkd
 have g1:=qA hs hx hF;rw[e1]at g1;obtain ⟨b1,h1,q1⟩:=g1.aFm
 have g2:=qA hs hy hF;rw[e2]at g2;have h2:=g2.of_int
 simp only[cB,Option.some.injEq,Prod.mk.injEq]at hC
 obtain ⟨rfl,rfl⟩:=hC
 rw[←q1]
 refine ⟨rfl,mA (v:= .int .i64 (aM8 b1.data.toList (at_ r2 0).uA.toNat.toUInt8)) (w':=w) ?_ (.same hs (aNa _ _))⟩
 unfold execOp
 simp[ho,resolve,Deferred.ofValue,invoke,Act.eval]
 have:=hix b1 (at_ r2 0).uA w
 simp only[Act.eval]at h1 h2
 rw[←this]
 congr 2
 simp[←h1,←h2]
theorem bDS {m:Nat} {t e:TypeId} {l:L} {ob:Obj} {av:AV} {no:Option Obj} (ho:o.op= .index t x y) (hB:a45 P t e m l=true) (hx:oA P T x ax=true) (hy:oA P T y ay=true)
 (h:rG E F St ob (.a4N m l ax ay) base cB=some (av,no)):no=none∧cE P o a w (bB P T S pl St w St av):=by
 obtain ⟨hu,hL,hn,hLt⟩:=aUR hB
 have hv:=qA hs hx hF
 have hi:=qA hs hy hF
 simp only[rG]at h
 obtain ⟨kd,ri,ei,hA⟩:=aG h
 rw[ei]at hi
 have hi:=hi.of_int
 generalize (at_ ri 0).uA=n at*
 split at hA
 ·rename_i ks' r ex
  obtain ⟨hk,hC⟩:=lA hA
  have hk:=aEO hk
  subst hk
  obtain ⟨hlt,hD⟩:=jD hC
  simp only[cB,Option.some.injEq,Prod.mk.injEq]at hD
  obtain ⟨rfl,rfl⟩:=hD
  rw[ex]at hv
  obtain ⟨cs,hcs,hr⟩:=hv.aBR
  have hnm:n.toNat<m:=by omega
  obtain ⟨u,hu1,hu2⟩:=a6w (off:=n.toNat*l.n) hL hn hv.aBR cs hcs (aXy hnm).symm w
  refine ⟨rfl,mA (v:=u) (w':=w) ?_ (.same hs (.d (by rw[hu2.nrm];exact hu2)))⟩
  simp only[execOp,ho]
  refine qW ?_
  rw[hi,hcs]
  simp[Instr.index,run_underlying hu,asIntOf,hlt,hL.size w,hu1]
 ·simp at hA
theorem bDT {m:Nat} {t e:TypeId} {l:L} {ob:Obj} {av:AV} {no:Option Obj} (ho:o.op= .indexAddr t x y) (hB:a45 P t e m l=true) (hx:oA P T x ax=true) (hy:oA P T y ay=true)
 (oB:∀id,tJ (ax.ev F)=some id→St[id]? =some ob)
 (h:rG E F St ob (.a15 m t e l ax ay) base cB=some (av,no)):no=none∧cE P o a w (bB P T S pl St w St av):=by
 obtain ⟨hu,hL,hn,hLt⟩:=aUR hB
 have hv:=sC hs hx hF
 have hi:=qA hs hy hF
 simp only[rG]at h
 obtain ⟨kd,ri,ei,hA⟩:=aG h
 rw[ei]at hi
 have hi:=hi.of_int
 generalize (at_ ri 0).uA=n at*
 have key:∀(b p:Nat),0≤n→n<(m:Int)→(Instr.indexAt t (.pointer (some ⟨b,p,none⟩)) (.int kd n)).run P w= .ok (.pointer (some ⟨b,p+n.toNat*l.n,none⟩)) w:=by
  intro b p h0 h1
  simp[Instr.indexAt,Instr.sureAddr,run_underlying hu,asIntOf,h0,h1,hL.size w,add_eq]
 split at hA
 ·rename_i t' r ex
  obtain ⟨hb,hC⟩:=lA hA
  obtain rfl:=Nat.eq_of_beq_eq_true hb
  obtain ⟨hlt,hD⟩:=jD hC
  simp only[cB,Option.some.injEq,Prod.mk.injEq]at hD
  obtain ⟨rfl,rfl⟩:=hD
  rw[ex]at hv
  obtain ⟨l0,ad,g,e1,h1,h2,h3,h4,h5⟩:=hv.a2h hlt.2.2
  obtain rfl:=h1.inj hLt
  have had:ad=⟨ad.block,ad.off,none⟩:=by cases ad;simp at h3;subst h3;rfl
  have hdp:=hlt.2.2
  have hnm:n.toNat<m:=by omega
  refine ⟨rfl,mA (w':=w) (vJ ho ?_) (.same hs (.d ⟨_,rfl,a0e (off:=n.toNat*l.n) hL (aXy hnm).symm h3 h4 h5⟩))⟩
  rw[e1,had,hi];exact key _ _ hlt.1 hlt.2.1
 ·rename_i id p ex
  have oB:=oB id (by rw[ex];rfl)
  rw[ex]at hv
  obtain ⟨hk2,hC⟩:=aLb hA
  obtain ⟨hlt,hD⟩:=jD hC
  simp only[cB,Option.some.injEq,Prod.mk.injEq]at hD
  obtain ⟨rfl,rfl⟩:=hD
  have e1:=hv.aUI oB hk2
  refine ⟨rfl,mA (w':=w) (vJ ho ?_) (.same hs (.a2l oB hk2))⟩
  rw[e1,hi];exact key _ _ hlt.1 hlt.2
 ·rename_i id v i p ex
  have oB:=oB id (by rw[ex];rfl)
  rw[ex]at hv
  obtain ⟨l0,c,rfl,hC⟩:=eE hA
  obtain ⟨hlt,hD⟩:=jD hC
  simp only[cB,Option.some.injEq,Prod.mk.injEq]at hD
  obtain ⟨rfl,rfl⟩:=hD
  have e1:=hv.aP8 oB
  refine ⟨rfl,mA (w':=w) (vJ ho ?_) (.same hs (.aUa oB))⟩
  rw[e1,hi,←Nat.add_assoc];exact key _ _ hlt.1 hlt.2
 ·simp at hA
end
def rI (P:Program):List Field→Nat→List K→Bool
 |[],_,[]=>true
 |f::fs,i,k::ks=>(f.name != "_")&&Nat.beq f.offset i&&aF5 P f.type (.one k)&&(match k with | .int _=>true | .bool=>true | .str=>true |_=>false)&&rI P fs (i+1) ks
 |_,_,_=>false
def bDO (P:Program) (t:TypeId) (l:L):Bool:=
 (match P.underlying t,l with |some (.struct fs),.agg ks=>rI P fs.toList 0 ks |_,_=>false)&& !P.stoodInHeld t&& !P.eqGuardType P.depth t
theorem aA3 {t:TypeId} {k:K} (h:Lay P t (.one k)):(∀i,k= .int i→P.underlying t=some (.int i))∧(k= .bool→P.underlying t=some .bool)∧(k= .str→P.underlying t=some .string):=by
 have h1:=h.1
 unfold aIf at h1
 cases hu:P.underlying t with
 |none=>rw[hu]at h1;simp[wU,hu]at h1
 |some d=>
  rw[hu]at h1
  cases d<;>simp[wU,hu]at h1<;>subst h1<;>simp_all
theorem aLg {d:Nat} {xs ys:Array Value} {rx ry:Row}:∀(fs:List Field) (i:Nat) (ks:List K),rI P fs i ks=true→
 (∀j k,ks[j]? =some k→gO P T S k (xs.toList.getD (i+j) undef) (at_ rx (i+j))∧gO P T S k (ys.toList.getD (i+j) undef) (at_ ry (i+j))∧i+j<xs.size∧i+j<ys.size)→
 (Op.eqFields (d+1) xs ys fs).run P w= .ok (ceq ks (rx.drop i) (ry.drop i)) w
 |[],i,[],_,_=>by simp[Op.eqFields,ceq]
 |[],_,_::_,h,_=>by simp[rI]at h
 |_::_,_,[],h,_=>by simp[rI]at h
 |f::fs,i,k::ks,h,hr=>by
  simp only[rI,Bool.and_eq_true]at h
  obtain ⟨⟨⟨⟨h1,h2⟩,h3⟩,h4⟩,h5⟩:=h
  have hname:f.name≠ "_" :=by simpa using h1
  have hoff:=Nat.eq_of_beq_eq_true h2
  have hL:=aC h3
  obtain ⟨hx,hy,hxl,hyl⟩:=hr 0 k rfl
  simp only[Nat.add_zero]at hx hy hxl hyl
  have ih:=aLg (d:=d) fs (i+1) ks h5 (fun j k hj=>by
   have:=hr (j+1) k (by simpa using hj)
   have e:i+(j+1)=i+1+j:=by omega
   rw[e]at this;exact this)
  have hpart:∀(cs:Array Value),i<cs.size→(Go.part f.type cs f.offset).run P w= .ok (cs.toList.getD i undef) w:=by
   intro cs hc
   unfold Go.part
   rw[Sem.run_bind,hL.agg w,hoff]
   simp[hc]
  have hdx:at_ (rx.drop i) 0=at_ rx i:=by simp[Ev.at_,List.getD_eq_getElem?_getD]
  have hdy:at_ (ry.drop i) 0=at_ ry i:=by simp[Ev.at_,List.getD_eq_getElem?_getD]
  obtain ⟨u1,u2,u3⟩:=aA3 hL
  simp only[Op.eqFields,if_pos hname,Sem.run_bind,hpart xs hxl,hpart ys hyl,Result.andThen_ok]
  generalize xs.toList.getD i undef=vx at hx
  generalize ys.toList.getD i undef=vy at hy
  generalize hcx:at_ rx i=cx at hx hdx
  generalize hcy:at_ ry i=cy at hy hdy
  cases k with
  |int kd=>
   cases hx;cases hy
   rw[run_equalIn_int w d f.type kd kd _ _ (u1 _ rfl)]
   simp only[ceq,hdx,hdy,C.uA,Result.andThen_ok,List.drop_drop]
   rename_i n m
   by_cases e:n==m
   ·simp[e,ih]
   ·simp[e]
  |bool=>
   cases hx;cases hy
   rw[run_equalIn_bool w d f.type _ _ (u2 rfl)]
   simp only[ceq,hdx,hdy,C.rJ,Result.andThen_ok,List.drop_drop]
   rename_i n m
   by_cases e:n==m
   ·simp[e,ih]
   ·simp[e]
  |str=>
   cases hx;cases hy
   rw[run_equalIn_string w d f.type _ _ (u3 rfl)]
   simp only[ceq,hdx,hdy,C.qE,Result.andThen_ok,List.drop_drop,ByteArray.toList_eq]
   rename_i n m
   by_cases e:n.data.toList==m.data.toList
   ·simp[e,ih]
   ·simp[e]
  |_=>simp at h4
theorem bGm {o:Oper} {x y:Operand} {ax ay:rD} {base:Nat} (hs:mW P T S pl St w) (hF:wX P T S pl St F a.tmps) {neg:Bool} {op:BinOp} {t u:TypeId} {l:L} {ob:Obj} {av:AV} {no:Option Obj} (ho:o.op= .binOp op t x y u) (hop:op=(if neg then .neq else .eql)) (hB:bDO P t l=true)
 (hx:oA P T x ax=true) (hy:oA P T y ay=true)
 (h:rG E F St ob (.aeq neg l ax ay) base cB=some (av,no)):no=none∧cE P o a w (bB P T S pl St w St av):=by
 simp only[bDO,Bool.and_eq_true,Bool.not_eq_true']at hB
 obtain ⟨⟨hf,hsi⟩,hg⟩:=hB
 split at hf
 ·rename_i fs ks hu
  simp only[rG]at h
  obtain ⟨l1,rx,e1,hA⟩:=zM h
  obtain ⟨l2,ry,e2,hC⟩:=zM hA
  obtain ⟨hb,hD⟩:=lA hC
  simp only[Bool.and_eq_true]at hb
  obtain rfl:=L.beq_eq hb.1
  obtain rfl:=L.beq_eq hb.2
  simp only[cB,Option.some.injEq,Prod.mk.injEq]at hD
  obtain ⟨rfl,rfl⟩:=hD
  have hvx:=qA hs hx hF;rw[e1]at hvx
  have hvy:=qA hs hy hF;rw[e2]at hvy
  obtain ⟨xs,hxs,hrx⟩:=hvx.aBR
  obtain ⟨ys,hys,hry⟩:=hvy.aBR
  have hfo:P.fieldsOf t=fs:=by simp[Program.fieldsOf,hu]
  have hut:P.underlying t=some (.struct (P.fieldsOf t)):=by rw[hfo];exact hu
  have hrun:(Op.equalIn 10000 t (.agg xs) (.agg ys)).run P w= .ok (ceq ks rx ry) w:=by
   rw[run_equalIn_struct w 9999 t xs ys hut hsi,hfo]
   have:=aLg (P:=P) (T:=T) (S:=S) (w:=w) (d:=9998) (xs:=xs) (ys:=ys) (rx:=rx) (ry:=ry) fs.toList 0 ks hf (fun j k hj=>by
    have hj':=(List.getElem?_eq_some_iff.1 hj).1
    have h1:=hrx.mL;have h2:=hry.mL
    rw[Nat.zero_add]
    exact ⟨hrx.cell j k hj,hry.cell j k hj,by simp at h1;omega,by simp at h2;omega⟩)
   simpa using this
  refine ⟨rfl,mA (v:= .bool (aZT neg (ceq ks rx ry))) (w':=w) ?_ (.same hs (aWb _))⟩
  unfold execOp
  simp only[ho,hxs,hys]
  refine qW ?_
  rw[Sem.run_bind,run_eqGuard_agg w op t x y xs ys hg]
  simp only[Result.andThen_ok]
  cases neg
  ·simp at hop;subst hop
   rw[run_eql_struct,hrun];rfl
  ·simp at hop;subst hop
   rw[run_neq_struct,hrun];rfl
 ·simp at hf
end Go.Ev
