/-
  Each operation of the abstract machine does what the model's operation does: stores, addresses, parts.
-/
import Derived.Test.YtgiibefjiloafaaGreatDoorEvC
import Derived.Laws.MakeOwn
import Derived.Lib.ConvBytes
import Derived.Laws.BytesString
import Derived.WalkSpells
set_option linter.all false
set_option maxRecDepth 100000
namespace Go.Ev
variable {E:Env} {P:Program} {T:Nat→AFn} {S S':Stab} {pl pl':Pl} {St St':Ev.St} {F:Fr} {a:Act} {w w':World}
def noAgg (P:Program) (t:TypeId):Bool:=match P.underlying t with |some (.struct _)=>false |some (.array ..)=>false |none=>false |_=>true
theorem noAgg_sound {t:TypeId} (h:noAgg P t=true) (w:World):(isAgg t).run P w= .ok false w:=by
 unfold noAgg at h
 cases hu:P.underlying t with
 |none=>rw[hu]at h;simp at h
 |some d=>rw[hu]at h;cases d<;>simp_all[isAgg,run_underlying hu]
def sizeB (P:Program) (t:TypeId) (n:Nat):Bool:=match P.info? t with |some i=>Nat.beq i.size n |none=>false
theorem sizeB_sound {t:TypeId} {n:Nat} (h:sizeB P t n=true) (w:World):(sizeOf t).run P w= .ok n w:=by
 unfold sizeB at h
 cases hu:P.info? t with
 |none=>rw[hu]at h;simp at h
 |some i=>rw[hu]at h;have:=Nat.eq_of_beq_eq_true h;simp[sizeOf,typeInfo,hu,this]
theorem exec_store {o:Oper} {t:TypeId} {x y:Operand} {w w':World} (ho:o.op= .store t x y) (h:(Instr.storeAt t (a.eval x) (a.eval y)).run P w= .ok () w'):(execOp a.eval o).run P w= .ok .skip w':=by
 simp only[execOp,ho];exact run_u h
theorem run_store_heap {t:TypeId} {n:Nat} {w:World} {b off:Nat} {cur:Array Value} {e:TypeId} {v:Value} (hsz:(sizeOf t).run P w= .ok n w) (h:w.heap[b]? =some (.cells cur e (0,0)))
 (hv:v.cells.size=n) (h1:∀u∈v.cells.toList,u.oneCell'=true) (hfit:off+n≤cur.size):
 (Instr.storeAt t (.pointer (some ⟨b,off,none⟩)) v).run P w= .ok () (w.setRow b (cur.toList.take off++v.cells.toList++cur.toList.drop (off+n)).toArray):=by
 have hst:=run_storeCells_at P b off e v.cells.toList 0 cur w h (by simpa[hv]using hfit) h1
 simp only[Nat.add_zero]at hst
 have hl:v.cells.toList.length=n:=by simpa using hv
 rw[hl]at hst
 simp only[Instr.storeAt,Instr.sureAddr,Sem.run_bind,Sem.run_pure,Result.andThen_ok,storeVar,hsz,hv,ne_eq,not_true,if_false,Sem.run_ite]
 simpa using hst
theorem setRow_world (w:World) (b:Nat) (cs:Array Value):(w.setRow b cs).os=w.os∧(w.setRow b cs).tape=w.tape∧(w.setRow b cs).output=w.output∧(w.setRow b cs).heap.size=w.heap.size:=
 ⟨rfl,rfl,rfl,size_setRow w b cs⟩
theorem set_post {id:Nat} {ob o':Obj} {cur cs:Array Value} {e:TypeId} {av:AV} {v:Value} (hs:Sim P T S pl St w) (hob:St[id]? =some ob) (hf:ob≠ .fresh) (hhas:ob.has=true) (hz:ob.sn=0)
 (hh:w.heap[pl.blk id]? =some (.cells cur e (0,0))) (hk:Keeps pl St pl (St.set id o'))
 (hobj:∀w',w'.heap[pl.blk id]? =some (.cells cs e (0,0))→ObjIs P T S pl (St.set id o') w' id o')
 (hv:RelV P T S pl (St.set id o') av v) (hnc:ob.cst=false:=by rfl):OpPost P T S pl St w (St.set id o') av v (w.setRow (pl.blk id) cs):=by
 have hlt:id<St.length:=(List.getElem?_eq_some_iff.1 hob).1
 obtain ⟨s1,s2,s3,s4⟩:=setRow_world w (pl.blk id) cs
 have hnew:(w.setRow (pl.blk id) cs).heap[pl.blk id]? =some (.cells cs e (0,0)):=setRow_heap w (pl.blk id) cur cs e (0,0) hh
 refine ⟨S,pl, ?_,⟨s1,s2,s3,by omega,fun b hb hn=> ?_,S.le_refl,fun _ _ _ _=>rfl⟩,hv,fun _ _ h=>h.keep hk S.le_refl, ?_⟩
 ·refine hs.upd hlt hk S.le_refl (fun j _=>⟨rfl,rfl⟩) (fun j o hj h ho=> ?_) (fun b o v h=> ?_) (hobj _ hnew) (fun _ off _=>hs.apart id ob hob hhas off (by omega)) (fun j o _ h ho=>hs.apart j o h ho)
   (fun _ j o hj h ho hb=>hj (hs.inj j id o ob h hob ho hhas hb)) (fun g _ ha=>⟨setRow_other w _ _ _ (fun e=>ha id ob hob hhas e.symm),fun _=>ha id ob hob hhas⟩)
  ·exact setRow_other w _ _ _ (fun hb=>hj (hs.inj j id o ob h hob ho hhas hb))
  ·have hne:b≠pl.blk id:=fun hb=>by
    have:=hs.apart id ob hob hhas o (by omega)
    rw[←hb]at this;rw[this]at h;cases h
   rw[World.cell?_of_block (w:=w) (setRow_other w _ _ _ hne)]
   exact hs.stab _ _ _ h
 ·exact setRow_other w _ _ _ (fun hb=>hn ⟨id,ob,hob,hhas,hnc,hb.symm⟩)
 ·rintro b ⟨j,o,h,ho,hb⟩
  by_cases hj:j=id
  ·subst hj;exact .inl ⟨j,ob,hob,hhas,hnc,hb.2⟩
  ·rw[List.getElem?_set_ne (Ne.symm hj)]at h;exact .inl ⟨j,o,h,ho,hb⟩
theorem Keeps.set {id:Nat} {ob o':Obj} (hob:St[id]? =some ob)
 (h:ob≠ .fresh→o'≠ .fresh∧
 (∀l row,o'= .var l row→(∃l0 r0,ob= .var l0 r0))∧
 (∀c vs,o'= .cells c vs→(∃c0 v0,ob= .cells c0 v0))∧
 (∀v l c,o'= .arr v l c→∃v0 c0,ob= .arr v0 l c0∧v0≤v∧(v0=v→(c= .nils→c0= .nils)∧
   ∀rows,c= .sl rows→∃rows0,c0= .sl rows0∧rows0.length=rows.length))∧
 (∀v e l c,o'≠ .sarr v e l c)∧
 (∀kl vl es,o'= .map kl vl es→(∃kl0 vl0 es0,ob= .map kl0 vl0 es0)))
 (hh:∀l c i av,o'= .hol l c i av→∃c0 i0 av0,ob= .hol l c0 i0 av0∧(c= .nils→c0= .nils)∧∀rows,c= .sl rows→∃rows0,c0= .sl rows0∧rows0.length=rows.length:=by rintro _ _ _ _ ⟨⟩):Keeps pl St pl (St.set id o'):=by
 have hlt:id<St.length:=(List.getElem?_eq_some_iff.1 hob).1
 intro j o hj hf
 by_cases hji:j=id
 ·subst hji
  rw[hob]at hj;obtain rfl:=Option.some.inj hj
  obtain ⟨h0,h1,h2,h3,h5,h4⟩:=h hf
  exact ⟨o',List.getElem?_set_self hlt,h0,fun l r e=>⟨h1 l r e,rfl⟩,fun c vs e=>⟨h2 c vs e,rfl⟩,
   fun v l c e=>let ⟨v0,c0,a,b,g⟩:=h3 v l c e;⟨v0,c0,a,b,fun hv=>⟨rfl,rfl,(g hv).1,(g hv).2⟩⟩,fun v e l c q=>absurd q (h5 v e l c),fun a b c e=>⟨h4 a b c e,rfl⟩,fun l c i av e=>let ⟨c0,i0,av0,x,y,z⟩:=hh l c i av e;⟨c0,i0,av0,x,y,fun rows q=>let ⟨r0,z1,z2⟩:=z rows q;⟨r0,z1,z2,rfl,rfl⟩⟩⟩
 ·exact ⟨o,by rw[List.getElem?_set_ne (Ne.symm hji)];exact hj,hf,Keeps.same rfl rfl⟩
theorem RepR.oneCells {ks:List K} {cs:List Value} {row:Row} (h:RepR P T S ks cs row):∀u∈cs,u.oneCell'=true:=by
 intro u hu
 obtain ⟨j,hj,rfl⟩:=List.getElem_of_mem hu
 have hk:j<ks.length:=by rw[←h.clen];exact hj
 have:=h.cell j ks[j] (List.getElem?_eq_getElem hk)
 have e:cs.getD j undef=cs[j]:=by simp[List.getD_eq_getElem?_getD,hj]
 rw[e]at this
 exact this.not_agg.1
theorem RepR.put {l l':L} {cs news:List Value} {r row:Row} {off:Nat} (h:RepR P T S l'.ks cs r) (hr:RepR P T S l.ks news row) (hk:l.ks=(l'.ks.drop off).take l.n) (hn:0<l.n):
 RepR P T S l'.ks (cs.take off++news++cs.drop (off+l.n)) (Ev.put r off l.n row 0 l'.n):=by
 have hlen:off+l.n≤l'.n:=by
  have:=congrArg List.length hk;simp[L.n]at this⊢;simp only[L.n]at hn;omega
 have hc:=h.clen
 have hnl:=hr.clen
 have hc':cs.length=l'.n:=hc
 have hnl':news.length=l.n:=hnl
 refine ⟨by simp;rw[hc',hnl'];simp only[L.n]at hlen⊢;omega,by simp[length_put,L.n],fun j k hj=> ?_⟩
 have hjl:j<l'.n:=(List.getElem?_eq_some_iff.1 hj).1
 rw[at_put _ _ _ _ _ _ _ hjl]
 simp only[Nat.zero_add]
 by_cases hin:off≤j∧j<off+l.n
 ·rw[if_pos hin]
  have hk':l.ks[j - off]? =some k:=by
   rw[hk];simp[show j - off<l.n from by omega,show off+(j - off)=j from by omega];exact hj
  have:=hr.cell (j - off) k hk'
  have e:(cs.take off++news++cs.drop (off+l.n)).getD j undef=news.getD (j - off) undef:=by
   simp only[List.getD_eq_getElem?_getD]
   rw[List.append_assoc,List.getElem?_append_right (by simp;omega),List.getElem?_append_left (by simp;omega)]
   simp[show min off cs.length=off from by omega]
  rw[e];exact this
 ·rw[if_neg hin]
  have:=h.cell j k hj
  have e:(cs.take off++news++cs.drop (off+l.n)).getD j undef=cs.getD j undef:=by
   simp only[List.getD_eq_getElem?_getD]
   by_cases hlo:j<off
   ·rw[List.append_assoc,List.getElem?_append_left (by simp;omega)]
    simp[hlo]
   ·rw[List.getElem?_append_right (by simp;omega)]
    simp only[List.length_append,List.length_take,List.getElem?_drop]
    congr 2
    omega
  rw[e];exact this
theorem turn_some {A:Type} {l l':L} {off:Nat} {r row:Row} {k:Row→Option A} {x:A} (h:turn l l' off r row k=some x):
 ∃r',k r'=some x∧((off=0∧l=l'∧r'=row)∨(r'=Ev.put r off l.n row 0 l'.n∧l.ks=(l'.ks.drop off).take l.n)):=by
 unfold turn at h
 split at h
 ·rename_i hb
  simp only[Bool.and_eq_true]at hb
  exact ⟨row,h, .inl ⟨Nat.eq_of_beq_eq_true hb.1,L.beq_eq hb.2,rfl⟩⟩
 ·obtain ⟨hk,h⟩:=check_some h
  exact ⟨_,h, .inr ⟨rfl,ksBeq_eq hk⟩⟩
theorem RepR.turn {l l':L} {cs news:List Value} {r row r':Row} {off:Nat} (h:RepR P T S l'.ks cs r) (hr:RepR P T S l.ks news row) (hn:0<l.n)
 (ht:(off=0∧l=l'∧r'=row)∨(r'=Ev.put r off l.n row 0 l'.n∧l.ks=(l'.ks.drop off).take l.n)):
 RepR P T S l'.ks (cs.take off++news++cs.drop (off+l.n)) r'∧off+l.n≤l'.n:=by
 rcases ht with ⟨rfl,rfl,rfl⟩|⟨rfl,hk⟩
 ·have:cs.drop (0+l.n)=[]:=List.drop_eq_nil_of_le (by rw[h.clen];simp[L.n])
  rw[this];simp;exact hr
 ·refine ⟨h.put hr hk hn, ?_⟩
  have:=congrArg List.length hk;simp[L.n]at this⊢;simp only[L.n]at hn;omega
theorem splice_get {A:Type} (cur news:List A) (s n p:Nat) (hn:news.length=n) (hs:s+n≤cur.length):
 (cur.take s++news++cur.drop (s+n))[p]? =if p<s then cur[p]? else if p<s+n then news[p - s]? else cur[p]? :=by
 by_cases h1:p<s
 ·rw[if_pos h1,List.append_assoc,List.getElem?_append_left (by simp;omega)]
  simp[h1]
 ·rw[if_neg h1]
  by_cases h2:p<s+n
  ·rw[if_pos h2,List.append_assoc,List.getElem?_append_right (by simp;omega),List.getElem?_append_left (by simp;omega)]
   simp[show min s cur.length=s from by omega]
  ·rw[if_neg h2,List.getElem?_append_right (by simp;omega)]
   simp only[List.length_append,List.length_take,List.getElem?_drop]
   congr 1
   omega
theorem splice_same {A:Type} (cur news:List A) (k off n m:Nat) (hn:news.length=n) (h1:off+n≤m) (h2:k+m≤cur.length):
 ((cur.take (k+off)++news++cur.drop (k+off+n)).drop k).take m=((cur.drop k).take m).take off++news++((cur.drop k).take m).drop (off+n):=by
 apply List.ext_getElem?
 intro q
 have hl:((cur.drop k).take m).length=m:=by simp;omega
 rw[splice_get ((cur.drop k).take m) news off n q hn (by omega),List.getElem?_take]
 by_cases hq:q<m
 ·rw[if_pos hq,List.getElem?_drop,splice_get cur news (k+off) n (k+q) hn (by omega)]
  simp only[List.getElem?_take,List.getElem?_drop,hq,if_true]
  by_cases c1:q<off
  ·rw[if_pos c1,if_pos (by omega)]
  ·rw[if_neg c1,if_neg (by omega)]
   by_cases c2:q<off+n
   ·rw[if_pos c2,if_pos (by omega),show k+q - (k+off)=q - off from by omega]
   ·rw[if_neg c2,if_neg (by omega)]
 ·rw[if_neg hq,if_neg (by omega),if_neg (by omega),List.getElem?_take,if_neg hq]
theorem splice_other {A:Type} (cur news:List A) (s n a m:Nat) (hn:news.length=n) (hs:s+n≤cur.length) (h:a+m≤s∨s+n≤a):
 ((cur.take s++news++cur.drop (s+n)).drop a).take m=(cur.drop a).take m:=by
 apply List.ext_getElem?
 intro q
 simp only[List.getElem?_take]
 by_cases hq:q<m
 ·rw[if_pos hq,if_pos hq,List.getElem?_drop,List.getElem?_drop,splice_get cur news s n (a+q) hn hs]
  rcases h with h |h
  ·rw[if_pos (by omega)]
  ·rw[if_neg (by omega),if_neg (by omega)]
 ·rw[if_neg hq,if_neg hq]
section
variable {o:Oper} {x y c:Operand} {ax ay ac:Opd} {base:Nat}
variable (hs:Sim P T S pl St w) (hF:RelF P T S pl St F a.tmps)
include hs hF
theorem s_ldC {t:TypeId} {ob:Obj} {av:AV} {no:Option Obj} (ho:o.op= .load t x) (hl:noAgg P t=true) (hx:opdOk P T x ax=true)
 (hob:∀id,tgtV (ax.ev F)=some id→St[id]? =some ob)
 (h:opO E F St ob (.ldC ax) base ret2=some (av,no)):no=none∧Done P o a w (OpPost P T S pl St w St av):=by
 have hv:=opd_sound hs hx hF
 simp only[opO]at h
 split at h
 ·rename_i id off e
  have hob:=hob id (by rw[e];rfl)
  rw[e]at hv
  split at h
  ·rename_i c vs
   have e1:=hv.of_ptr_cells hob
   obtain ⟨cur,e2,hh,hsz,hr⟩:=hs.objs _ _ hob
   split at h
   ·rename_i u hu
    simp only[ret2,Option.some.injEq,Prod.mk.injEq]at h
    obtain ⟨rfl,rfl⟩:=h
    have hlt:off<cur.size:=by rw[hsz];exact (List.getElem?_eq_some_iff.1 hu).1
    refine ⟨rfl,done_run (v:=cur.toList.getD off undef) (w':=w) (exec_load ho ?_) (.same hs (by simpa using hr.1 off u hu))⟩
    rw[e1]
    simp only[Instr.loadAt,Instr.sureAddr,Sem.run_bind,Sem.run_pure,Result.andThen_ok,loadVar,noAgg_sound hl,Bool.false_eq_true,if_false,run_load,cell_heap hh hlt]
   ·simp at h
  ·simp at h
 ·simp at h
theorem s_st {l:L} {t:TypeId} {ob:Obj} {av:AV} {no:Option Obj} (ho:o.op= .store t x y) (hsz:sizeB P t l.n=true) (hn:Nat.blt 0 l.n=true) (hx:opdOk P T x ax=true) (hy:opdOk P T y ay=true)
 (hob:∀id,tgtV (ax.ev F)=some id→St[id]? =some ob)
 (h:opO E F St ob (.st l ax ay) base ret2=some (av,no)):∃id o',tgtV (ax.ev F)=some id∧no=some o'∧Done P o a w (OpPost P T S pl St w (St.set id o') av):=by
 have hp:0<l.n:=by simpa using hn
 have hv:=opd_sound hs hx hF
 have hu:=opd_soundD hs hy hF
 simp only[opO]at h
 split at h
 ·rename_i id off e
  have hob:=hob id (by rw[e];rfl)
  rw[e]at hv
  split at h
  ·rename_i l' r _
   obtain ⟨lv,row,ey,hA⟩:=asD_some h
   obtain ⟨hb,hB⟩:=check_some hA
   obtain rfl:=L.beq_eq hb
   obtain ⟨r',hr',ht⟩:=turn_some hB
   simp only[ret2,Option.some.injEq,Prod.mk.injEq]at hr'
   obtain ⟨rfl,rfl⟩:=hr'
   rw[ey]at hu
   have hnew:=hu.of_d.cells
   have e1:=hv.of_ptr hob
   obtain ⟨cur,e2,hh,hr⟩:=hs.objs _ _ hob
   obtain ⟨q1,q2⟩:=hr.turn hnew hp ht
   have hcz:cur.size=l'.n:=by have:=hr.clen;simpa[L.n]using this
   have hst:=run_store_heap (sizeB_sound hsz w) hh (v:=a.eval y) (off:=off) (by have:=hnew.clen;simpa[L.n]using this) hnew.oneCells (by omega)
   refine ⟨id,_,by rw[e];rfl,rfl,done_skip (exec_store ho (by rw[e1];exact hst)) ?_⟩
   refine set_post hs hob (by simp) rfl rfl hh (Keeps.set hob (fun _=>⟨by simp,fun _ _ _=>⟨_,_,rfl⟩,fun _ _ h=>by simp at h,fun _ _ _ h=>by simp at h,fun _ _ _ _ h=>by simp at h,fun _ _ _ h=>by simp at h⟩)) (fun w' hw'=>⟨_,_,hw',by simpa using q1⟩) .und
  ·simp at h
 ·rename_i id ver idx off e
  have hob:=hob id (by rw[e];rfl)
  rw[e]at hv
  obtain ⟨l',c,rfl,h1⟩:=asArr_some h
  obtain ⟨lv,row,ey,hA⟩:=asD_some h1
  obtain ⟨hb,hB⟩:=check_some hA
  obtain rfl:=L.beq_eq hb
  obtain ⟨hlt,hC⟩:=ite_some hB
  obtain ⟨r',hr',ht⟩:=turn_some hC
  simp only[ret2,Option.some.injEq,Prod.mk.injEq]at hr'
  obtain ⟨rfl,rfl⟩:=hr'
  rw[ey]at hu
  have hnew:=hu.of_d.cells
  have e1:=hv.of_aptr hob
  rcases hs.objs _ _ hob with rfl |⟨rows,cur,e2,i,rfl,hh,q1,q2,q3,q4,q5,q6,q7⟩
  ·simp[C.rows]at hlt
  ·simp only[C.rows]at hlt ht⊢
   have hrow:rows[idx]? =some (rowsAt rows idx):=by simp[rowsAt,List.getD_eq_getElem?_getD,hlt]
   obtain ⟨g1,g2⟩:=(q7 idx _ hrow).turn hnew hp ht
   have hle:(idx+1)*l'.n≤pl.cap id*l'.n:=Nat.mul_le_mul_right _ (by omega)
   have hexp:(idx+1)*l'.n=idx*l'.n+l'.n:=Nat.succ_mul _ _
   have hnz:(a.eval y).cells.size=l.n:=by have:=hnew.clen;simpa[L.n]using this
   have hnl:(a.eval y).cells.toList.length=l.n:=by simpa using hnz
   have hst:=run_store_heap (sizeB_sound hsz w) hh (v:=a.eval y) (off:=idx*l'.n+off) hnz hnew.oneCells (by omega)
   refine ⟨id,_,by rw[e];rfl,rfl,done_skip (exec_store ho (by rw[e1];exact hst)) ?_⟩
   refine set_post hs hob (by simp) rfl rfl hh (Keeps.set hob (fun _=>⟨by simp,fun _ _ h=>by simp at h,fun _ _ h=>by simp at h,fun v l c h=> ?_,fun _ _ _ _ h=>by simp at h,fun _ _ _ h=>by simp at h⟩)) (fun w' hw'=> ?_) .und
   ·simp only[Obj.arr.injEq]at h
    obtain ⟨rfl,rfl,rfl⟩:=h
    exact ⟨_,_,rfl,Nat.le_refl _,fun _=>⟨fun h=>by simp at h,fun rs h=>⟨rows,rfl,by simp at h;subst h;simp⟩⟩⟩
   ·refine .inr ⟨_,_,_,i,rfl,hw',q1,q2,q3,by simpa using q4,q5, ?_,fun j r hj=> ?_⟩
    ·simp[hnl];omega
    ·have hcl:cur.toList.length=pl.cap id*l'.n:=by simpa using q6
     by_cases hji:j=idx
     ·subst hji
      simp[hlt]at hj;subst hj
      rw[List.toList_toArray,splice_same cur.toList _ _ off l.n l'.n hnl g2 (by rw[hcl];omega)]
      exact g1
     ·rw[List.getElem?_set_ne (Ne.symm hji)]at hj
      rw[List.toList_toArray,splice_other cur.toList _ _ l.n _ _ hnl (by rw[hcl];omega)]
      ·exact q7 j r hj
      ·rcases Nat.lt_or_gt_of_ne hji with hlt2 |hgt
       ·left
        have:=Nat.mul_le_mul_right l'.n (show j+1≤idx from hlt2)
        have e:(j+1)*l'.n=j*l'.n+l'.n:=Nat.succ_mul _ _
        omega
       ·right
        have:=Nat.mul_le_mul_right l'.n (show idx+1≤j from hgt)
        omega
 ·simp at h
end
end Go.Ev
namespace Go.Ev
variable {E:Env} {P:Program} {T:Nat→AFn} {S S':Stab} {pl pl':Pl} {St St':Ev.St} {F:Fr} {a:Act} {w w':World}
def fieldB (P:Program) (t:TypeId) (f off n:Nat) (u:TypeId):Bool:=
 match P.underlying t with
 |some (.struct fs)=>(match fs[f]? with
  |some fd=>Nat.beq fd.offset off&&Nat.beq fd.type u&&(match P.info? u with |some i=>Nat.beq i.size n&&Nat.blt 0 n |none=>false)
  |none=>false)
 |_=>false
theorem fieldB_sound {t f off n u} (h:fieldB P t f off n u=true):∃fs fd i,P.underlying t=some (.struct fs)∧fs[f]? =some fd∧fd.offset=off∧fd.type=u∧P.info? u=some i∧i.size=n∧0<n:=by
 unfold fieldB at h
 split at h
 ·rename_i fs hu
  split at h
  ·rename_i fd hf
   simp only[Bool.and_eq_true]at h
   obtain ⟨⟨h1,h2⟩,h3⟩:=h
   split at h3
   ·rename_i i hi
    simp only[Bool.and_eq_true]at h3
    exact ⟨fs,fd,i,hu,hf,Nat.eq_of_beq_eq_true h1,Nat.eq_of_beq_eq_true h2,hi,Nat.eq_of_beq_eq_true h3.1,by simpa using h3.2⟩
   ·simp at h3
  ·simp at h
 ·simp at h
theorem run_fieldAt {t f off n u} (h:fieldB P t f off n u=true) (w:World) (b o:Nat):
 (Instr.fieldAt t (.pointer (some ⟨b,o,none⟩)) f).run P w= .ok (.pointer (some ⟨b,o+off,none⟩)) w:=by
 obtain ⟨fs,fd,i,h1,h2,rfl,rfl,h5,h6,h7⟩:=fieldB_sound h
 have hz:¬i.size=0:=by omega
 simp[Instr.fieldAt,run_underlying h1,h2,Instr.sureAddr,fieldPlace,sizeOf,typeInfo,h5,hz,add_eq ⟨b,o,none⟩ rfl]
theorem RelV.of_sl {e:TypeId} {row:Row} {v:Value} (h:RelV P T S pl St (.d (.one (.sl e)) row) v):
 (v= .slice none 0 0∧at_ row 0= .nils)∨∃(l:L) (rows:List Row) (a:Addr) (cap:Nat) (f:Nat→Nat→Value),v= .slice (some a) rows.length cap∧at_ row 0= .sl rows∧Lay P e l∧rows.length≤cap∧
   (∀r∈rows,r.length=l.n)∧(rows.length≠0→a.spot=none)∧(∀i j,i<rows.length→j<l.n→S a.block (a.off+i*l.n+j)=some (f i j))∧
   (∀i j k,i<rows.length→l.ks[j]? =some k→Rep P T S k (f i j) (at_ (rowsAt rows i) j)):=by
 obtain ⟨c,rfl,hr⟩:=h.of_d
 cases hr with
 |nils=>exact .inl ⟨rfl,rfl⟩
 |sl f h1 h2 h3 h4 h5 h6 h7=>subst h2;exact .inr ⟨_,_,_,_,f,rfl,rfl,h1,h3,h4,h5,h6,h7⟩
theorem RelV.of_whole {id ver:Nat} {l:L} {c:C} {v:Value} (h:RelV P T S pl St (.whole id ver) v) (ho:St[id]? =some (.arr ver l c)):
 (c= .nils→v= .slice none 0 0)∧(∀rows,c= .sl rows→v= .slice (some ⟨pl.blk id,0,none⟩) rows.length (pl.cap id)):=by
 cases h with
 |whole h0 h1 h2 hv h3 h4=>
  rw[ho]at h1;obtain rfl:=Option.some.inj h1
  exact ⟨fun e=>h3 l (by rw[e]),fun rows e=>h4 l rows (by rw[e])⟩
theorem RelV.of_ownX {id ver off len:Nat} {l:L} {rows:List Row} {v:Value} (h:RelV P T S pl St (.own id ver off len) v) (ho:St[id]? =some (.arr ver l (.sl rows))):
 ∃a,v= .slice (some a) len (pl.cap id - off)∧off+len≤rows.length∧rows.length≤pl.cap id∧(len≠0∨off=0→a=⟨pl.blk id,off*l.n,none⟩):=by
 cases h with
 |own h0 h1 h2 hv h3 h4=>rw[ho]at h1;obtain rfl:=Option.some.inj h1;exact h3 l rows rfl
theorem RelV.of_own {id ver off len:Nat} {l:L} {rows:List Row} {v:Value} (h:RelV P T S pl St (.own id ver off len) v) (ho:St[id]? =some (.arr ver l (.sl rows))):
 ∃a cap,v= .slice (some a) len cap∧len≤cap∧off+len≤rows.length∧(len≠0→a=⟨pl.blk id,off*l.n,none⟩):=by
 obtain ⟨a,q1,q2,q3,q4⟩:=h.of_ownX ho
 exact ⟨a,_,q1,by omega,q2,fun hn=>q4 (.inl hn)⟩
theorem RelV.own_not_nil {id ver off len:Nat} {l:L} {v:Value} (h:RelV P T S pl St (.own id ver off len) v) (ho:St[id]? =some (.arr ver l .nils)):False:=by
 cases h with
 |own h0 h1 h2 hv h3 h4=>rw[ho]at h1;obtain rfl:=Option.some.inj h1;exact h4 l rfl
theorem RelV.of_hol {id i:Nat} {l:L} {c:C} {av:AV} {v:Value} (h:RelV P T S pl St (.hol id) v) (ho:St[id]? =some (.hol l c i av)):
 (c= .nils→v= .slice none 0 0)∧∀rows,c= .sl rows→v= .slice (some ⟨pl.blk id,0,none⟩) rows.length (pl.cap id):=by
 cases h with
 |hol h0 h1 h2 h3 h4=>rw[ho]at h1;obtain rfl:=Option.some.inj h1;exact ⟨fun e=>h3 _ _ _ (by rw[e]),fun rows e=>h4 _ _ _ _ (by rw[e])⟩
theorem RelV.of_hptr {id i idx:Nat} {l:L} {rows:List Row} {av:AV} {v:Value} (h:RelV P T S pl St (.hptr id idx) v) (ho:St[id]? =some (.hol l (.sl rows) i av)):v= .pointer (some ⟨pl.blk id,idx*l.n,none⟩):=by
 cases h with
 |hptr h0 h1 h2 h3=>rw[ho]at h1;obtain rfl:=Option.some.inj h1;exact h3 _ _ _ _ rfl
theorem RelV.hptr_mk {id i idx:Nat} {l:L} {c:C} {av:AV} (h:St[id]? =some (.hol l c i av)):RelV P T S pl St (.hptr id idx) (.pointer (some ⟨pl.blk id,idx*l.n,none⟩)):=
 .hptr rfl h (by simp) (fun _ _ _ _ e=>by simp only[Obj.hol.injEq]at e;rw[e.1])
theorem asHol_some {A:Type} {o:Obj} {k:L→C→Nat→AV→Option A} {x:A} (h:asHol o k=some x):∃l c i av,o= .hol l c i av∧k l c i av=some x:=by
 cases o<;>simp[asHol]at h
 exact ⟨_,_,_,_,rfl,h⟩
def elemB (P:Program) (t e:TypeId) (l:L):Bool:=
 (match P.underlying t with |some (.slice e')=>Nat.beq e' e |_=>false)&&layB P e l
theorem elemB_sound {t e l} (h:elemB P t e l=true):P.underlying t=some (.slice e)∧Lay P e l:=by
 simp only[elemB,Bool.and_eq_true]at h
 obtain ⟨h1,h2⟩:=h
 split at h1
 ·rename_i e' he;rw[he,Nat.eq_of_beq_eq_true h1];exact ⟨rfl,layB_sound h2⟩
 ·simp at h1
theorem run_indexAt {t e:TypeId} {l:L} (h:elemB P t e l=true) (w:World) (a:Addr) (ha:a.spot=none) (len cap:Nat) (k:IntKind) (n:Int) (h0:0≤n) (h1:n<len):
 (Instr.indexAt t (.slice (some a) len cap) (.int k n)).run P w= .ok (.pointer (some ⟨a.block,a.off+n.toNat*l.n,none⟩)) w:=by
 obtain ⟨hu,hl⟩:=elemB_sound h
 obtain ⟨i,hi,hz⟩:=hl.2
 simp[Instr.indexAt,asIntOf,run_underlying hu,h0,h1,sizeOf,typeInfo,hi,hz,add_eq a ha]
theorem exec_indexAddr {o:Oper} {t:TypeId} {x y:Operand} {v:Value} {w w':World} (ho:o.op= .indexAddr t x y) (h:(Instr.indexAt t (a.eval x) (a.eval y)).run P w= .ok v w'):(execOp a.eval o).run P w= .ok (.value v) w':=by
 simp only[execOp,ho];exact run_v h
theorem exec_fieldAddr {o:Oper} {t:TypeId} {x:Operand} {f:Nat} {v:Value} {w w':World} (ho:o.op= .fieldAddr t x f) (h:(Instr.fieldAt t (a.eval x) f).run P w= .ok v w'):(execOp a.eval o).run P w= .ok (.value v) w':=by
 simp only[execOp,ho];exact run_v h
theorem RelV.aptr_mk {id ver idx off:Nat} {l:L} {c:C} (h:St[id]? =some (.arr ver l c)):RelV P T S pl St (.aptr id ver idx off) (.pointer (some ⟨pl.blk id,idx*l.n+off,none⟩)):=
 .aptr rfl h (by simp) (fun v l' c' e=>by simp at e;omega) (fun l' c' e=>by simp at e;rw[e.1])
section
variable {o:Oper} {x y c:Operand} {ax ay ac:Opd} {base:Nat}
variable (hs:Sim P T S pl St w) (hF:RelF P T S pl St F a.tmps)
include hs hF
theorem s_stC {t:TypeId} {ob:Obj} {av:AV} {no:Option Obj} (ho:o.op= .store t x y) (hsz:sizeB P t 1=true) (hx:opdOk P T x ax=true) (hy:opdOk P T y ay=true)
 (hob:∀id,tgtV (ax.ev F)=some id→St[id]? =some ob)
 (h:opO E F St ob (.stC ax ay) base ret2=some (av,no)):∃id o',tgtV (ax.ev F)=some id∧no=some o'∧Done P o a w (OpPost P T S pl St w (St.set id o') av):=by
 have hv:=opd_sound hs hx hF
 have hu:=opd_sound hs hy hF
 simp only[opO]at h
 split at h
 ·rename_i id off e
  have hob:=hob id (by rw[e];rfl)
  rw[e]at hv
  split at h
  ·rename_i vs _
   obtain ⟨hb,hA⟩:=check_some h
   simp only[Bool.and_eq_true]at hb
   have hlt:off<vs.length:=by simpa using hb.1
   obtain ⟨u1,u2⟩:=hu.single hb.2
   simp only[ret2,Option.some.injEq,Prod.mk.injEq]at hA
   obtain ⟨rfl,rfl⟩:=hA
   have e1:=hv.of_ptr_cells hob
   obtain ⟨cur,e2,hh,hcz,hr⟩:=hs.objs _ _ hob
   have hst:=run_store_heap (sizeB_sound hsz w) hh (v:=a.eval y) (off:=off) (by rw[u2];rfl) (by rw[u2];simpa using u1) (by omega)
   have hk:Keeps pl St pl (St.set id (.cells false (vs.set off (ay.ev F)))):=Keeps.set hob (fun _=>⟨by simp,fun _ _ h=>by simp at h,fun _ _ _=>⟨_,_,rfl⟩,fun _ _ _ h=>by simp at h,fun _ _ _ _ h=>by simp at h,fun _ _ _ h=>by simp at h⟩)
   refine ⟨id,_,by rw[e];rfl,rfl,done_skip (exec_store ho (by rw[e1];exact hst)) ?_⟩
   refine set_post hs hob (by simp) rfl rfl hh hk (fun w' hw'=>⟨_,_,hw', ?_,fun i av hi=> ?_,fun i hi=> ?_⟩) .und
   ·rw[u2];simp;omega
   ·have hg:=splice_get cur.toList [a.eval y] off 1 i rfl (by simp;omega)
    rw[u2]
    have hgd:((List.take off cur.toList++#[a.eval y].toList++List.drop (off+1) cur.toList).toArray.getD i undef)=(List.take off cur.toList++[a.eval y]++List.drop (off+1) cur.toList)[i]?.getD undef:=by simp
    rw[hgd,hg]
    by_cases hio:i=off
    ·subst hio
     simp[hlt]at hi;subst hi
     simpa using hu.keep hk S.le_refl
    ·rw[List.getElem?_set_ne (Ne.symm hio)]at hi
     have:=(hr.1 i av hi).keep hk S.le_refl
     rcases Nat.lt_or_gt_of_ne hio with h1 |h1
     ·rw[if_pos h1];simpa using this
     ·rw[if_neg (by omega),if_neg (by omega)];simpa using this
   ·rw[u2]at hi⊢
    have hgd:((List.take off cur.toList++#[a.eval y].toList++List.drop (off+1) cur.toList).toArray.getD i undef)=(List.take off cur.toList++[a.eval y]++List.drop (off+1) cur.toList)[i]?.getD undef:=by simp
    rw[hgd,splice_get cur.toList [a.eval y] off 1 i rfl (by simp;omega)]
    simp at hi
    by_cases hio:i=off
    ·subst hio;simpa using u1
    ·have:=hr.2 i (by omega)
     rcases Nat.lt_or_gt_of_ne hio with h1 |h1
     ·rw[if_pos h1];simpa using this
     ·rw[if_neg (by omega),if_neg (by omega)];simpa using this
  ·simp at h
 ·simp at h
omit hs hF in
theorem asHas_some {A:Type} {o:Obj} {k:Option A} {r:A} (h:asHas o k=some r):((∃l row,o= .var l row)∨∃c vs,o= .cells c vs)∧k=some r:=by
 unfold asHas at h
 split at h
 ·exact ⟨.inl ⟨_,_,rfl⟩,h⟩
 ·exact ⟨.inr ⟨_,_,rfl⟩,h⟩
 ·simp at h
omit hs hF in
theorem _root_.Go.Ev.RelV.of_has {id off:Nat} {o:Obj} {v:Value} (h:RelV P T S pl St (.ptr id off) v) (ho:St[id]? =some o) (hk:(∃l row,o= .var l row)∨∃c vs,o= .cells c vs):v= .pointer (some ⟨pl.blk id,off,none⟩):=by
 rcases hk with ⟨l,row,rfl⟩|⟨c,vs,rfl⟩
 ·exact h.of_ptr ho
 ·exact h.of_ptr_cells ho
omit hs hF in
theorem _root_.Go.Ev.RelV.has_mk {id off:Nat} {o:Obj} (ho:St[id]? =some o) (hk:(∃l row,o= .var l row)∨∃c vs,o= .cells c vs):RelV P T S pl St (.ptr id off) (.pointer (some ⟨pl.blk id,off,none⟩)):=by
 rcases hk with ⟨l,row,rfl⟩|⟨c,vs,rfl⟩
 ·exact .ptr_var ho rfl
 ·exact .ptr_cells ho rfl
omit hs hF in
theorem ref_part {l l':L} {u:TypeId} {ad:Addr} {f:Nat→Value} {row:Row} {off:Nat} (hu:Lay P u l) (hk:l.ks=(l'.ks.drop off).take l.n) (ha:ad.spot=none)
 (h4:∀j,j<l'.n→S ad.block (ad.off+j)=some (f j)) (h5:∀j k,l'.ks[j]? =some k→Rep P T S k (f j) (at_ row j)):
 Rep P T S (.ref u) (.pointer (some ⟨ad.block,ad.off+off,none⟩)) (.dp (sub row off l.n)):=by
 have hlen:l.n≤l'.n - off:=by
  have:=congrArg List.length hk;simp[L.n]at this⊢;omega
 refine .ref (fun j=>f (off+j)) hu (length_sub _ _ _) rfl (fun j hj=> ?_) (fun j k hj=> ?_)
 ·have:=h4 (off+j) (by omega)
  simpa[Nat.add_assoc]using this
 ·have hjl:j<l.n:=(List.getElem?_eq_some_iff.1 hj).1
  rw[at_sub _ _ _ _ hjl]
  refine h5 (off+j) k ?_
  rw[hk]at hj
  simpa[List.getElem?_take,hjl]using hj
theorem s_fad {off n:Nat} {t u:TypeId} {f:Nat} {l l':L} {ob:Obj} {av:AV} {no:Option Obj} (ho:o.op= .fieldAddr t x f) (hf:fieldB P t f off n u=true) (hl:layB P t l'=true) (hl2:layB P u l=true)
 (hn:Nat.beq l.n n=true) (hk:ksBeq l.ks ((l'.ks.drop off).take l.n)=true) (hx:opdOk P T x ax=true) (hob:∀id,tgtV (ax.ev F)=some id→St[id]? =some ob)
 (h:opO E F St ob (.fad off n t u ax) base ret2=some (av,no)):no=none∧Done P o a w (OpPost P T S pl St w St av):=by
 have hv:=opd_sound hs hx hF
 obtain rfl:=Nat.eq_of_beq_eq_true hn
 simp only[opO]at h
 split at h
 ·rename_i t' r e
  obtain ⟨hb,hB⟩:=check_some h
  obtain rfl:=Nat.eq_of_beq_eq_true hb
  obtain ⟨hdp,hB⟩:=ite_some hB
  simp only[ret2,Option.some.injEq,Prod.mk.injEq]at hB
  obtain ⟨rfl,rfl⟩:=hB
  rw[e]at hv
  obtain ⟨l0,ad,g,e1,h1,h2,h3,h4,h5⟩:=hv.of_ref hdp
  obtain rfl:=h1.inj (layB_sound hl)
  have had:ad=⟨ad.block,ad.off,none⟩:=by cases ad;simp at h3;subst h3;rfl
  refine ⟨rfl,done_run (w':=w) (exec_fieldAddr ho ?_) (.same hs (.d ⟨_,rfl,ref_part (layB_sound hl2) (ksBeq_eq hk) h3 h4 h5⟩))⟩
  rw[e1,had];exact run_fieldAt hf w _ _
 ·rename_i id p e
  have hob:=hob id (by rw[e];rfl)
  rw[e]at hv
  obtain ⟨hk2,hA⟩:=asHas_some h
  simp only[ret2,Option.some.injEq,Prod.mk.injEq]at hA
  obtain ⟨rfl,rfl⟩:=hA
  have e1:=hv.of_has hob hk2
  refine ⟨rfl,done_run (w':=w) (exec_fieldAddr ho ?_) (.same hs (.has_mk hob hk2))⟩
  rw[e1];exact run_fieldAt hf w _ _
 ·rename_i id v i p e
  have hob:=hob id (by rw[e];rfl)
  rw[e]at hv
  obtain ⟨l0,c,rfl,hA⟩:=asArr_some h
  simp only[ret2,Option.some.injEq,Prod.mk.injEq]at hA
  obtain ⟨rfl,rfl⟩:=hA
  have e1:=hv.of_aptr hob
  refine ⟨rfl,done_run (w':=w) (exec_fieldAddr ho ?_) (.same hs (.aptr_mk hob))⟩
  rw[e1,←Nat.add_assoc];exact run_fieldAt hf w _ _
 ·simp at h
omit hs hF in
theorem run_part {t:TypeId} {l l':L} {v:Value} {row:Row} {off:Nat} (hl:Lay P t l) (hn:0<l.n) (hv:RepL P T S l' v row) (cs:Array Value) (hcs:v= .agg cs) (hk:l.ks=(l'.ks.drop off).take l.n) (w:World):
 ∃u,(Go.part t cs off).run P w= .ok u w∧RepL P T S l u (sub row off l.n):=by
 have hr:=hv.cells
 rw[hcs]at hr
 have hs:=hr.sub l.ks off hk
 have hlen:off+l.n≤cs.size:=by
  have h1:=hr.clen;simp[Value.cells]at h1
  have:=congrArg List.length hk;simp[L.n]at this⊢;simp only[L.n]at hn;omega
 have hag:=hl.agg w
 cases l with
 |one k=>
  have hlt:off<cs.size:=by have:(L.one k).n=1:=rfl;omega
  refine ⟨cs[off], ?_, ?_⟩
  ·unfold Go.part
   rw[Sem.run_bind,hag]
   simp[hlt]
  ·have:=hs.cell 0 k rfl
   refine ⟨at_ (sub row off 1) 0,by simp[sub,L.n,L.ks,at_], ?_⟩
   simpa[List.getD_eq_getElem?_getD,hlt,L.ks,Value.cells]using this
 |agg ks=>
  refine ⟨.agg (cs.extract off (off+ks.length)), ?_,⟨_,rfl, ?_⟩⟩
  ·unfold Go.part
   rw[Sem.run_bind,hag]
   simp[hl.size w,L.n,L.ks]
  ·have e:(cs.extract off (off+ks.length)).toList=((Value.agg cs).cells.toList.drop off).take ks.length:=by
    simp[Value.cells]
   rw[e];exact hs
def fldB (P:Program) (t:TypeId) (f off:Nat) (l:L):Bool:=
 match P.underlying t with
 |some (.struct fs)=>(match fs[f]? with
  |some fd=>Nat.beq fd.offset off&&layB P fd.type l&&Nat.blt 0 l.n
  |none=>false)
 |_=>false
theorem s_fld {off:Nat} {t:TypeId} {f:Nat} {l:L} {ob:Obj} {av:AV} {no:Option Obj} (ho:o.op= .field t x f) (hf:fldB P t f off l=true) (hx:opdOk P T x ax=true)
 (h:opO E F St ob (.fld off l ax) base ret2=some (av,no)):no=none∧Done P o a w (OpPost P T S pl St w St av):=by
 have hv:=opd_soundD hs hx hF
 simp only[opO]at h
 split at h
 ·rename_i ks r e
  obtain ⟨hk,hB⟩:=check_some h
  simp only[ret2,Option.some.injEq,Prod.mk.injEq]at hB
  obtain ⟨rfl,rfl⟩:=hB
  rw[e]at hv
  unfold fldB at hf
  split at hf
  ·rename_i fs hu
   split at hf
   ·rename_i fd hfd
    simp only[Bool.and_eq_true]at hf
    obtain ⟨⟨h1,h2⟩,h3⟩:=hf
    obtain rfl:=Nat.eq_of_beq_eq_true h1
    have hp:0<l.n:=by simpa using h3
    obtain ⟨cs,hcs,hr⟩:=hv.of_d
    obtain ⟨u,hu1,hu2⟩:=run_part (layB_sound h2) hp hv.of_d cs hcs (ksBeq_eq hk) w
    refine ⟨rfl,done_run (v:=u) (w':=w) ?_ (.same hs (.d (by rw[hu2.nrm];exact hu2)))⟩
    simp only[execOp,ho]
    refine run_v ?_
    simp[Instr.field,run_underlying hu,hcs,asAgg,hfd,hu1]
   ·simp at hf
  ·simp at hf
 ·simp at h
theorem s_iad {t e:TypeId} {l:L} {ob:Obj} {av:AV} {no:Option Obj} (ho:o.op= .indexAddr t x y) (hel:elemB P t e l=true) (hn:Nat.blt 0 l.n=true) (hx:opdOk P T x ax=true) (hy:opdOk P T y ay=true)
 (hob:∀id,tgtV (ax.ev F)=some id→St[id]? =some ob)
 (h:opO E F St ob (.iad e l ax ay) base ret2=some (av,no)):no=none∧Done P o a w (OpPost P T S pl St w St av):=by
 have hv:=opd_soundD hs hx hF
 have hi:=opd_soundD hs hy hF
 obtain ⟨hu,hL⟩:=elemB_sound hel
 simp only[opO]at h
 obtain ⟨kd,ri,ei,hA⟩:=asI_some h
 rw[ei]at hi
 have hi:=hi.of_int
 generalize (at_ ri 0).toI=n at*
 clear h ei
 split at hA
 ·rename_i e' r ex
  obtain ⟨hb,hB⟩:=check_some hA
  obtain rfl:=Nat.eq_of_beq_eq_true hb
  obtain ⟨hlt,hC⟩:=ite_some hB
  simp only[ret2,Option.some.injEq,Prod.mk.injEq]at hC
  obtain ⟨rfl,rfl⟩:=hC
  rw[ex]at hv
  rcases hv.of_sl with ⟨e1,e2⟩|⟨l',rows,ad,cap,f,e1,e2,h1,h2,h3,h4,h5,h6⟩
  ·rw[e2]at hlt;simp[C.rows]at hlt;omega
  ·obtain rfl:=h1.inj hL
   rw[e2]at hlt⊢
   simp only[C.rows]at hlt⊢
   have hnl:n.toNat<rows.length:=by omega
   have had:=h4 (by omega)
   refine ⟨trivial,done_run (v:= .pointer (some ⟨ad.block,ad.off+n.toNat*l'.n,none⟩)) (w':=w) (exec_indexAddr ho ?_) (.same hs (.d ⟨_,rfl, ?_⟩))⟩
   ·rw[e1,hi];exact run_indexAt hel w ad had _ _ _ _ hlt.1 hlt.2
   ·refine .ref (fun j=>f n.toNat j) h1 (h3 _ ?_) rfl (fun j hj=>h5 _ _ hnl hj) (fun j k hj=>h6 _ _ _ hnl hj)
    simp[rowsAt,List.getD_eq_getElem?_getD,hnl]
 ·rename_i id v ex
  have hob:=hob id (tgt_dat (by rw[ex];rfl))
  rw[ex]at hv
  obtain ⟨l',c,rfl,hB⟩:=asArr_some hA
  obtain ⟨hb,hC⟩:=check_some hB
  obtain rfl:=L.beq_eq hb
  obtain ⟨hlt,hD⟩:=ite_some hC
  simp only[ret2,Option.some.injEq,Prod.mk.injEq]at hD
  obtain ⟨rfl,rfl⟩:=hD
  rcases hs.objs _ _ hob with rfl |⟨rows,cur,e2,i,rfl,hh,q1,q2,q3,q4,q5,q6,q7⟩
  ·simp[C.rows]at hlt;omega
  ·have e1:=(hv.of_whole hob).2 rows rfl
   simp only[C.rows]at hlt
   refine ⟨rfl,done_run (w':=w) (exec_indexAddr ho ?_) (.same hs (.aptr_mk hob))⟩
   rw[e1,hi]
   have:=run_indexAt hel w ⟨pl.blk id,0,none⟩ rfl rows.length (pl.cap id) kd n hlt.1 hlt.2
   simpa using this
 ·rename_i id v off len ex
  have hob:=hob id (tgt_dat (by rw[ex];rfl))
  rw[ex]at hv
  obtain ⟨l',c,rfl,hB⟩:=asArr_some hA
  obtain ⟨hb,hC⟩:=check_some hB
  obtain rfl:=L.beq_eq hb
  obtain ⟨hlt,hD⟩:=ite_some hC
  simp only[ret2,Option.some.injEq,Prod.mk.injEq]at hD
  obtain ⟨rfl,rfl⟩:=hD
  rcases hs.objs _ _ hob with rfl |⟨rows,cur,e2,i,rfl,hh,q1,q2,q3,q4,q5,q6,q7⟩
  ·exact (hv.own_not_nil hob).elim
  ·obtain ⟨ad,cap,e1,h1,h2,h3⟩:=hv.of_own hob
   obtain rfl:=h3 (by omega)
   refine ⟨rfl,done_run (w':=w) (exec_indexAddr ho ?_) (.same hs (.aptr_mk hob))⟩
   rw[e1,hi]
   have:=run_indexAt hel w ⟨pl.blk id,off*l.n,none⟩ rfl len cap kd n hlt.1 hlt.2
   rw[this,Nat.add_mul,Nat.add_zero]
 ·rename_i id ex
  have hob:=hob id (tgt_dat (by rw[ex];rfl))
  rw[ex]at hv
  obtain ⟨l',c,i,av',rfl,hB⟩:=asHol_some hA
  obtain ⟨hb,hC⟩:=check_some hB
  obtain rfl:=L.beq_eq hb
  obtain ⟨hlt,hD⟩:=ite_some hC
  simp only[ret2,Option.some.injEq,Prod.mk.injEq]at hD
  obtain ⟨rfl,rfl⟩:=hD
  rcases hs.objs _ _ hob with rfl |⟨rows,cur,e2,inf,rfl,hh,q1,q2,q3,q4,q5,q6,q7,q8⟩
  ·simp[C.rows]at hlt;omega
  ·have e1:=(hv.of_hol hob).2 rows rfl
   simp only[C.rows]at hlt
   refine ⟨rfl,done_run (w':=w) (exec_indexAddr ho ?_) (.same hs (.hptr_mk hob))⟩
   rw[e1,hi]
   have:=run_indexAt hel w ⟨pl.blk id,0,none⟩ rfl rows.length (pl.cap id) kd n hlt.1 hlt.2
   simpa using this
 ·simp at hA
theorem s_ldH {hh:Bool} {l:L} {t:TypeId} {ob:Obj} {av:AV} {no:Option Obj} (ho:o.op= .load t x) (hl:layB P t l=true) (hp:Nat.blt 0 l.n=true) (hn:hh=true→noAgg P t=true) (hx:opdOk P T x ax=true)
 (hob:∀id,tgtV (ax.ev F)=some id→St[id]? =some ob)
 (h:opO E F St ob (.ldH hh l ax) base ret2=some (av,no)):no=none∧Done P o a w (OpPost P T S pl St w St av):=by
 obtain ⟨hL,hp⟩:=Lay.pos hl hp
 have hv:=opd_sound hs hx hF
 simp only[opO]at h
 split at h
 ·rename_i id idx e
  have hob:=hob id (by rw[e];rfl)
  rw[e]at hv
  obtain ⟨l',c,i,av',rfl,hB⟩:=asHol_some h
  obtain ⟨hb,hC⟩:=check_some hB
  obtain rfl:=L.beq_eq hb
  rcases hs.objs _ _ hob with rfl |⟨rows,cur,e2,inf,rfl,hh1,q1,q2,q3,q4,q5,q6,q7,q8⟩
  ·exfalso
   split at hC
   ·have:=(ite_some hC).1.1;simp[C.rows]at this
   ·have:=(ite_some hC).1.1;simp[C.rows]at this
  have e1:=hv.of_hptr hob
  simp only[C.rows]at hC
  have hfit:idx<rows.length→idx*l.n+l.n≤cur.size:=fun hlt=>by
   have hle:(idx+1)*l.n≤pl.cap id*l.n:=Nat.mul_le_mul_right _ (by omega)
   have hexp:(idx+1)*l.n=idx*l.n+l.n:=Nat.succ_mul _ _
   omega
  split at hC
  ·obtain ⟨⟨hlt,rfl⟩,hD⟩:=ite_some hC
   simp only[ret2,Option.some.injEq,Prod.mk.injEq]at hD
   obtain ⟨rfl,rfl⟩:=hD
   obtain ⟨h1,r1,r2⟩:=q8 hlt
   have hf:=hfit hlt
   rw[h1,Nat.mul_one]at hf e1
   refine ⟨rfl,done_run (v:=cur.getD idx undef) (w':=w) (exec_load ho ?_) (.same hs r1)⟩
   rw[e1]
   simp only[Instr.loadAt,Instr.sureAddr,Sem.run_bind,Sem.run_pure,Result.andThen_ok,loadVar,noAgg_sound (hn rfl),Bool.false_eq_true,if_false,run_load,cell_heap hh1 (show idx<cur.size by omega)]
   simp
  ·obtain ⟨⟨hlt,hne⟩,hD⟩:=ite_some hC
   simp only[ret2,Option.some.injEq,Prod.mk.injEq]at hD
   obtain ⟨rfl,rfl⟩:=hD
   have hrow:rows[idx]? =some (rowsAt rows idx):=by simp[rowsAt,List.getD_eq_getElem?_getD,hlt]
   have hr:=q7 idx _ hne hrow
   have hf:=hfit hlt
   obtain ⟨g1,_⟩:=RepR.part (l:=l) (l':=l) (off:=0) hp hr (fun hc=>absurd ⟨rfl,rfl⟩ hc)
   rw[if_pos ⟨rfl,rfl⟩]at g1
   have:=run_load_heap hL hp hh1 (off:=idx*l.n) hf
   have ev:(Ev.mkV l fun j=>cur.toList.getD (idx*l.n+j) undef)=Ev.mkV l fun j=>((cur.toList.drop (idx*l.n)).take l.n).getD (0+j) undef:=by
    cases l with
    |one k=>simp[Ev.mkV,List.getD_eq_getElem?_getD,L.n,L.ks]
    |agg ks=>
     simp only[Ev.mkV]
     congr 2
     apply List.map_congr_left
     intro j hj
     have hj:j<ks.length:=by simpa using hj
     simp[List.getD_eq_getElem?_getD,L.n,L.ks,hj]
   rw[ev]at this
   exact ⟨rfl,done_run (w':=w) (exec_load ho (by rw[e1];exact this)) (.same hs (.d (by rw[g1.nrm];exact g1)))⟩
 ·simp at h
omit hs hF in
theorem hol_set {l:L} {cur:Array Value} {news:List Value} {idx cap n:Nat} (hn:news.length=l.n) (hlt:idx<n) (hcap:n≤cap) (hcs:cur.size=cap*l.n):
 ((List.take (idx*l.n) cur.toList++news++List.drop (idx*l.n+l.n) cur.toList).toArray.size=cap*l.n)∧
 ((List.take (idx*l.n) cur.toList++news++List.drop (idx*l.n+l.n) cur.toList).drop (idx*l.n)).take l.n=news∧
 ∀j,j≠idx→j<n→((List.take (idx*l.n) cur.toList++news++List.drop (idx*l.n+l.n) cur.toList).drop (j*l.n)).take l.n=(cur.toList.drop (j*l.n)).take l.n:=by
 have hle:(idx+1)*l.n≤cap*l.n:=Nat.mul_le_mul_right _ (by omega)
 have hexp:(idx+1)*l.n=idx*l.n+l.n:=Nat.succ_mul _ _
 have hcl:cur.toList.length=cap*l.n:=by simpa using hcs
 refine ⟨by simp[hn];omega, ?_,fun j hji hj=> ?_⟩
 ·have:=splice_same cur.toList news (idx*l.n) 0 l.n l.n hn (by omega) (by omega)
  simpa[←hn]using this
 ·have:=splice_other cur.toList news (idx*l.n) l.n (j*l.n) l.n hn (by omega) (by
   rcases Nat.lt_or_gt_of_ne hji with hlt2 |hgt
   ·left
    have:=Nat.mul_le_mul_right l.n (show j+1≤idx from hlt2)
    have e:(j+1)*l.n=j*l.n+l.n:=Nat.succ_mul _ _
    omega
   ·right
    have:=Nat.mul_le_mul_right l.n (show idx+1≤j from hgt)
    omega)
  exact this
theorem s_stH {t:TypeId} {ob:Obj} {av:AV} {no:Option Obj} (ho:o.op= .store t x y) (hsz:sizeB P t 1=true) (hx:opdOk P T x ax=true) (hy:opdOk P T y ay=true)
 (hob:∀id,tgtV (ax.ev F)=some id→St[id]? =some ob)
 (h:opO E F St ob (.stH ax ay) base ret2=some (av,no)):∃id o',tgtV (ax.ev F)=some id∧no=some o'∧Done P o a w (OpPost P T S pl St w (St.set id o') av):=by
 have hv:=opd_sound hs hx hF
 have hu:=opd_sound hs hy hF
 simp only[opO]at h
 split at h
 ·rename_i id idx e
  have hob:=hob id (by rw[e];rfl)
  rw[e]at hv
  obtain ⟨l',c,i,av',rfl,hB⟩:=asHol_some h
  obtain ⟨hb,hC⟩:=check_some hB
  simp only[Bool.and_eq_true]at hb
  have hn1:l'.n=1:=Nat.eq_of_beq_eq_true hb.2
  obtain ⟨⟨hi0,hlt⟩,hD⟩:=ite_some hC
  simp only[ret2,Option.some.injEq,Prod.mk.injEq]at hD
  obtain ⟨rfl,rfl⟩:=hD
  rcases hs.objs _ _ hob with rfl |⟨rows,cur,e2,inf,rfl,hh1,q1,q2,q3,q4,q5,q6,q7,q8⟩
  ·simp[C.rows]at hlt
  have e1:=hv.of_hptr hob
  simp only[C.rows]at hi0 hlt
  obtain ⟨u1,u2⟩:=hu.single hb.1
  obtain ⟨z1,z2,z3⟩:=hol_set (l:=l') (news:=(a.eval y).cells.toList) (by rw[u2,hn1];rfl) hlt q4 q6
  have hf:idx*l'.n+1≤cur.size:=by rw[hn1,Nat.mul_one];rw[hn1,Nat.mul_one]at q6;omega
  have hst:=run_store_heap (sizeB_sound hsz w) hh1 (v:=a.eval y) (off:=idx*l'.n) (by rw[u2];rfl) (by rw[u2];simpa using u1) hf
  have hk:Keeps pl St pl (St.set id (.hol l' (.sl rows) idx (ay.ev F))):=Keeps.set hob (fun _=>⟨by simp,fun _ _ h=>by simp at h,fun _ _ h=>by simp at h,fun _ _ _ h=>by simp at h,fun _ _ _ _ h=>by simp at h,fun _ _ _ h=>by simp at h⟩)
   (fun l c i' av2 h=>by simp only[Obj.hol.injEq]at h;obtain ⟨rfl,rfl,rfl,rfl⟩:=h;exact ⟨_,_,_,rfl,fun h=>h,fun rs h=>⟨rs,h,rfl⟩⟩)
  refine ⟨id,_,by rw[e];rfl,rfl,done_skip (exec_store ho (by rw[e1];exact hst)) ?_⟩
  rw[←hn1]
  refine set_post hs hob (by simp) rfl rfl hh1 hk (fun w' hw'=> .inr ⟨rows,_,_,inf,rfl,hw',q1,q2,q3,q4,q5,z1,fun j r hj hr=> ?_,fun _=>⟨hn1, ?_⟩⟩) .und
  ·have hjl:j<rows.length:=(List.getElem?_eq_some_iff.1 hr).1
   rw[List.toList_toArray,z3 j hj hjl]
   exact (q7 j r (by omega) hr)
  ·have ee:(List.take (idx*l'.n) cur.toList++(a.eval y).cells.toList++List.drop (idx*l'.n+l'.n) cur.toList).toArray.getD idx undef=a.eval y:=by
    have:=congrArg (fun l:List Value=>l[0]?) z2
    simp only[List.getElem?_take,List.getElem?_drop,hn1,Nat.mul_one,Nat.add_zero,Nat.zero_lt_one,if_true]at this
    rw[u2]at this⊢
    simp only[Array.getD_eq_getD_getElem?,List.getElem?_toArray,hn1,Nat.mul_one,this]
    rfl
   rw[ee]
   exact ⟨hu.keep hk S.le_refl,u1⟩
 ·simp at h
theorem s_stF {l:L} {t:TypeId} {ob:Obj} {av:AV} {no:Option Obj} (ho:o.op= .store t x y) (hsz:sizeB P t l.n=true) (hn:Nat.blt 0 l.n=true) (hx:opdOk P T x ax=true) (hy:opdOk P T y ay=true)
 (hob:∀id,tgtV (ax.ev F)=some id→St[id]? =some ob)
 (h:opO E F St ob (.stF l ax ay) base ret2=some (av,no)):∃id o',tgtV (ax.ev F)=some id∧no=some o'∧Done P o a w (OpPost P T S pl St w (St.set id o') av):=by
 have hp:0<l.n:=by simpa using hn
 have hv:=opd_sound hs hx hF
 have hu:=opd_soundD hs hy hF
 simp only[opO]at h
 split at h
 ·rename_i id idx e
  have hob:=hob id (by rw[e];rfl)
  rw[e]at hv
  obtain ⟨l',c,i,av',rfl,hB⟩:=asHol_some h
  obtain ⟨lv,row,ey,hA⟩:=asD_some hB
  obtain ⟨hb,hC⟩:=check_some hA
  simp only[Bool.and_eq_true]at hb
  obtain rfl:=L.beq_eq hb.1
  obtain rfl:=L.beq_eq hb.2
  obtain ⟨⟨hi0,hlt⟩,hD⟩:=ite_some hC
  simp only[ret2,Option.some.injEq,Prod.mk.injEq]at hD
  obtain ⟨rfl,rfl⟩:=hD
  rw[ey]at hu
  have hnew:=hu.of_d.cells
  rcases hs.objs _ _ hob with rfl |⟨rows,cur,e2,inf,rfl,hh1,q1,q2,q3,q4,q5,q6,q7,q8⟩
  ·simp[C.rows]at hlt
  have e1:=hv.of_hptr hob
  simp only[C.rows]at hi0 hlt⊢
  have hnz:(a.eval y).cells.size=l.n:=by have:=hnew.clen;simpa[L.n]using this
  obtain ⟨z1,z2,z3⟩:=hol_set (l:=l) (news:=(a.eval y).cells.toList) (by simpa using hnz) hlt q4 q6
  have hle:(idx+1)*l.n≤pl.cap id*l.n:=Nat.mul_le_mul_right _ (by omega)
  have hexp:(idx+1)*l.n=idx*l.n+l.n:=Nat.succ_mul _ _
  have hst:=run_store_heap (sizeB_sound hsz w) hh1 (v:=a.eval y) (off:=idx*l.n) hnz hnew.oneCells (by omega)
  refine ⟨id,_,by rw[e];rfl,rfl,done_skip (exec_store ho (by rw[e1];exact hst)) ?_⟩
  refine set_post hs hob (by simp) rfl rfl hh1 (Keeps.set hob (fun _=>⟨by simp,fun _ _ h=>by simp at h,fun _ _ h=>by simp at h,fun _ _ _ h=>by simp at h,fun _ _ _ _ h=>by simp at h,fun _ _ _ h=>by simp at h⟩)
   (fun l1 c1 i1 av1 h=>by simp only[Obj.hol.injEq]at h;obtain ⟨rfl,rfl,rfl,rfl⟩:=h;exact ⟨_,_,_,rfl,fun h=>(by cases h),fun rs h=>⟨rows,rfl,by simp only[C.sl.injEq]at h;subst h;simp⟩⟩))
   (fun w' hw'=> .inr ⟨_,_,_,inf,rfl,hw',q1,q2,q3,by simpa using q4,q5,z1,fun j r hj hr=> ?_,fun hi=> ?_⟩) .und
  ·have hjl:j<rows.length:=by have:=(List.getElem?_eq_some_iff.1 hr).1;simpa using this
   by_cases hji:j=idx
   ·subst hji
    rw[List.getElem?_set_self hjl]at hr
    obtain rfl:=Option.some.inj hr
    rw[List.toList_toArray,z2];exact hnew
   ·rw[List.getElem?_set_ne (Ne.symm hji)]at hr
    rw[List.toList_toArray,z3 j hji hjl]
    exact q7 j r hj hr
  ·simp at hi;omega
 ·simp at h
theorem s_lenL {t e:TypeId} {ob:Obj} {av:AV} {no:Option Obj} (ho:o.op= .call {callee:= .builtin .len,args:=#[x],argTypes:=#[t]}) (ht:P.underlying t=some (.slice e)) (hx:opdOk P T x ax=true)
 (hob:∀id,tgtV (ax.ev F)=some id→St[id]? =some ob)
 (h:opO E F St ob (.lenL ax) base ret2=some (av,no)):no=none∧Done P o a w (OpPost P T S pl St w St av):=by
 have hv:=opd_soundD hs hx hF
 have key:∀(ad:Option Addr) (n c:Nat),a.eval x= .slice ad n c→(execOp a.eval o).run P w= .ok (.value (.int .i64 n)) w:=fun ad n c e=>by
  simp[execOp,ho,e,resolve,invoke,builtin,Builtin.len_,run_underlying ht,goInt]
 simp only[opO]at h
 split at h
 ·rename_i e' r ex
  simp only[ret2,Option.some.injEq,Prod.mk.injEq]at h
  obtain ⟨rfl,rfl⟩:=h
  rw[ex]at hv
  rcases hv.of_sl with ⟨e1,e2⟩|⟨l',rows,ad,cap,f,e1,e2,h1,h2,h3,h4,h5,h6⟩
  ·rw[e2];exact ⟨rfl,done_run (key _ _ _ e1) (.same hs (relI _ _))⟩
  ·rw[e2];exact ⟨rfl,done_run (key _ _ _ e1) (.same hs (relI _ _))⟩
 ·rename_i id v ex
  have hob:=hob id (tgt_dat (by rw[ex];rfl))
  rw[ex]at hv
  obtain ⟨l',c,rfl,hB⟩:=asArr_some h
  simp only[ret2,Option.some.injEq,Prod.mk.injEq]at hB
  obtain ⟨rfl,rfl⟩:=hB
  rcases hs.objs _ _ hob with rfl |⟨rows,cur,e2,i,rfl,hh,q1,q2,q3,q4,q5,q6,q7⟩
  ·exact ⟨rfl,done_run (key _ _ _ ((hv.of_whole hob).1 rfl)) (.same hs (relI _ _))⟩
  ·exact ⟨rfl,done_run (key _ _ _ ((hv.of_whole hob).2 rows rfl)) (.same hs (relI _ _))⟩
 ·rename_i id v off len ex
  have hob:=hob id (tgt_dat (by rw[ex];rfl))
  rw[ex]at hv
  obtain ⟨l',c,rfl,hB⟩:=asArr_some h
  simp only[ret2,Option.some.injEq,Prod.mk.injEq]at hB
  obtain ⟨rfl,rfl⟩:=hB
  rcases hs.objs _ _ hob with rfl |⟨rows,cur,e2,i,rfl,hh,q1,q2,q3,q4,q5,q6,q7⟩
  ·exact (hv.own_not_nil hob).elim
  ·obtain ⟨ad,cap,e1,h1,h2,h3⟩:=hv.of_own hob
   exact ⟨rfl,done_run (key _ _ _ e1) (.same hs (relI _ _))⟩
 ·rename_i id ex
  have hob:=hob id (tgt_dat (by rw[ex];rfl))
  rw[ex]at hv
  obtain ⟨l',c,i,av',rfl,hB⟩:=asHol_some h
  simp only[ret2,Option.some.injEq,Prod.mk.injEq]at hB
  obtain ⟨rfl,rfl⟩:=hB
  rcases hs.objs _ _ hob with rfl |⟨rows,cur,e2,inf,rfl,_⟩
  ·exact ⟨rfl,done_run (key _ _ _ ((hv.of_hol hob).1 rfl)) (.same hs (relI _ _))⟩
  ·exact ⟨rfl,done_run (key _ _ _ ((hv.of_hol hob).2 rows rfl)) (.same hs (relI _ _))⟩
 ·simp at h
theorem s_idxS {t:TypeId} {ob:Obj} {av:AV} {no:Option Obj} (ho:o.op= .index t x y) (ht:P.underlying t=some .string) (hx:opdOk P T x ax=true) (hy:opdOk P T y ay=true)
 (h:opO E F St ob (.idxS ax ay) base ret2=some (av,no)):no=none∧Done P o a w (OpPost P T S pl St w St av):=by
 simp only[opO]at h
 obtain ⟨kd,ri,ei,hA⟩:=asI_some h
 obtain ⟨rs,es,hB⟩:=asS_some hA
 obtain ⟨hlt,hC⟩:=ite_some hB
 have hi:=opd_soundD hs hy hF;rw[ei]at hi;have hi:=hi.of_int
 have hv:=opd_soundD hs hx hF;rw[es]at hv;obtain ⟨b,e1,q1⟩:=hv.of_str
 rw[←q1]at hlt hC
 generalize (at_ ri 0).toI=n at*
 simp only[ret2,Option.some.injEq,Prod.mk.injEq]at hC
 obtain ⟨rfl,rfl⟩:=hC
 rw[bsize]at hlt
 have hnl:n.toNat<b.size:=by omega
 refine ⟨rfl,done_run (w':=w) ?_ (.same hs (relI _ _))⟩
 have hg:b[n.toNat]? =some b[n.toNat]:=by simp[hnl]
 have hd:b.data.toList.getD n.toNat 0=b[n.toNat]:=by
  have h1:n.toNat<b.data.toList.length:=by rw[bsize];exact hnl
  rw[List.getD_eq_getElem?_getD,List.getElem?_eq_getElem h1];rfl
 simp only[execOp,ho,e1,hi]
 refine run_v ?_
 rw[hd]
 simp[Instr.index,asIntOf,run_underlying ht,hlt.1,hg]
end
end Go.Ev
namespace Go.Ev
variable {E:Env} {P:Program} {T:Nat→AFn} {S S':Stab} {pl pl':Pl} {St St':Ev.St} {F:Fr} {a:Act} {w w':World}
theorem zipIdx_foldl_set (vs:List Value):∀(off k:Nat) (cells:Array Value),off+k+vs.length≤cells.size→
 ((vs.zipIdx k).foldl (fun cs (x:Value×Nat)=>cs.setIfInBounds (off+x.2) x.1) cells).toList=cells.toList.take (off+k)++vs++cells.toList.drop (off+k+vs.length):=by
 induction vs with
 |nil=>intro off k cells h;simp
 |cons v vs ih=>
  intro off k cells h
  simp only[List.zipIdx_cons,List.foldl_cons,List.length_cons]at h⊢
  rw[ih off (k+1) _ (by simp;omega)]
  have:=list_seg_step cells.toList (off+k) v vs (by simp;omega)
  simp only[Array.toList_setIfInBounds]
  have e:off+(k+1)=off+k+1:=by omega
  rw[e]
  have e2:off+k+1+vs.length=off+k+(vs.length+1):=by omega
  simpa[e2,Nat.add_assoc]using this
theorem fill_step {place:Nat→Option (Nat×Nat)} {cells:Array Value} {i off n:Nat} {v:Value} {rest:List (Nat×Value)} (hp:place i=some (off,n)) (hv:v.cells.size=n) (hfit:off+n≤cells.size):
 Instr.fill place cells ((i,v)::rest)=Instr.fill place (cells.toList.take off++v.cells.toList++cells.toList.drop (off+n)).toArray rest:=by
 have hl:v.cells.toList.length=n:=by simpa using hv
 have h:=zipIdx_foldl_set v.cells.toList off 0 cells (by rw[hl];omega)
 have hn:¬(v.cells.size≠n∨off+v.cells.size>cells.size):=by omega
 simp only[Instr.fill,hp]
 rw[if_neg (by simpa using hn)]
 congr 1
 apply Array.ext'
 rw[hl]at h
 simp only[Nat.add_zero]at h
 rw[←h,←Array.foldl_toList,Array.toList_zipIdx]
def partsOk (P:Program) (T:Nat→AFn) (place:Nat→Option (Nat×Nat)):List (Nat×Operand)→List (Nat×Nat×Opd)→Bool
 |[],[]=>true
 |(i,x)::r,(off,m,ax)::r'=>(match place i with |some (off',m')=>Nat.beq off off'&&Nat.beq m m' |none=>false)&&opdOk P T x ax&&partsOk P T place r r'
 |_,_=>false
theorem fillParts_sound {A:Type} {place:Nat→Option (Nat×Nat)} {l:L} {k:Row→Option A} {res:A} (hs:Sim P T S pl St w) (hF:RelF P T S pl St F a.tmps):
 ∀(parts:List (Nat×Operand)) (aparts:List (Nat×Nat×Opd)) (cells:Array Value) (z:Row),partsOk P T place parts aparts=true→RepR P T S l.ks cells.toList z→
  fillParts F St l.ks aparts z k=some res→∃cells' row,Instr.fill place cells (parts.map fun p=>(p.1,a.eval p.2))=some cells'∧RepR P T S l.ks cells'.toList row∧k row=some res
 |[],[],cells,z,_,hr,h=>⟨cells,z,rfl,hr,h⟩
 |[],_::_,_,_,h,_,_=>by simp[partsOk]at h
 |_::_,[],_,_,h,_,_=>by simp[partsOk]at h
 |(i,x)::r,(off,m,ax)::r',cells,z,hp,hr,h=>by
  simp only[partsOk,Bool.and_eq_true]at hp
  obtain ⟨⟨hp1,hp2⟩,hp3⟩:=hp
  split at hp1
  ·rename_i off' m' hpl
   simp only[Bool.and_eq_true]at hp1
   obtain rfl:=Nat.eq_of_beq_eq_true hp1.1
   obtain rfl:=Nat.eq_of_beq_eq_true hp1.2
   simp only[fillParts]at h
   obtain ⟨lv,row,ex,hA⟩:=asD_some h
   obtain ⟨hb,hB⟩:=check_some hA
   simp only[Bool.and_eq_true]at hb
   have hm:=Nat.eq_of_beq_eq_true hb.1.1
   have hpos:0<m:=by simpa using hb.1.2
   have hk:=ksBeq_eq hb.2
   subst hm
   have hv:=opd_soundD hs hp2 hF;rw[ex]at hv
   have hrow:=hv.of_d.cells
   have hsz:(a.eval x).cells.size=lv.n:=by have:=hrow.clen;simpa[L.n]using this
   have hlen:off+lv.n≤l.n:=by
    have:=congrArg List.length hk;simp[L.n]at this⊢;simp only[L.n]at hpos;omega
   have hcl:cells.size=l.n:=by have:=hr.clen;simpa[L.n]using this
   have hput:=hr.put hrow hk hpos
   have hst:=fill_step (cells:=cells) (rest:=r.map fun p=>(p.1,a.eval p.2)) hpl hsz (by omega)
   obtain ⟨cells',row',g1,g2,g3⟩:=fillParts_sound hs hF r r' (cells.toList.take off++(a.eval x).cells.toList++cells.toList.drop (off+lv.n)).toArray _ hp3 hput hB
   exact ⟨cells',row',by rw[List.map_cons,hst];exact g1,g2,g3⟩
  ·simp at hp1
def bldB (P:Program) (T:Nat→AFn) (t:TypeId) (l:L) (z:Row) (parts:List (Nat×Operand)) (aparts:List (Nat×Nat×Opd)):Bool:=
 match P.info? t,P.underlying t with
 |some it,some (.array _ e)=>(match it.zero,P.info? e with
  |some zv,some ie=>constOk l zv z&&partsOk P T (fun i=>some (i*ie.size,ie.size)) parts aparts
  |_,_=>false)
 |some it,some (.struct fields)=>(match it.zero,fields.toList.mapM (fun f=>(P.info? f.type).map fun i=>(f.offset,i.size))with
  |some zv,some places=>constOk l zv z&&partsOk P T (places.toArray[·]?) parts aparts
  |_,_=>false)
 |_,_=>false
section
variable {o:Oper} {x y c:Operand} {ax ay ac:Opd} {base:Nat}
variable (hs:Sim P T S pl St w) (hF:RelF P T S pl St F a.tmps)
include hs hF
theorem s_bld {t:TypeId} {l:L} {z:Row} {parts:Array (Nat×Operand)} {aparts:List (Nat×Nat×Opd)} {ob:Obj} {av:AV} {no:Option Obj} (ho:o.op= .build t parts) (hl:(match l with | .agg _=>true | .one _=>false)=true)
 (hb:bldB P T t l z parts.toList aparts=true)
 (h:opO E F St ob (.bld l z aparts) base ret2=some (av,no)):no=none∧Done P o a w (OpPost P T S pl St w St av):=by
 simp only[opO]at h
 have fin:∀(place:Nat→Option (Nat×Nat)) (zv:Value),constOk l zv z=true→partsOk P T place parts.toList aparts=true→
  ∃cells row,Instr.fill place zv.cells (parts.toList.map fun p=>(p.1,a.eval p.2))=some cells∧RepL P T S l (.agg cells) row∧ret2 (.d l row) none=some (av,no):=by
  intro place zv hc hp
  obtain ⟨cells,row,g1,g2,g3⟩:=fillParts_sound hs hF _ _ zv.cells z hp (constOk_sound hc).cells h
  cases l with
  |one k=>simp at hl
  |agg ks=>exact ⟨cells,row,g1,⟨cells,rfl,g2⟩,g3⟩
 have done:∀(cells:Array Value) (row:Row),P.built t (parts.toList.map fun p=>(p.1,a.eval p.2))=some cells→RepL P T S l (.agg cells) row→ret2 (.d l row) none=some (av,no)→
  no=none∧Done P o a w (OpPost P T S pl St w St av):=by
  intro cells row hbu hr he
  simp only[ret2,Option.some.injEq,Prod.mk.injEq]at he
  obtain ⟨rfl,rfl⟩:=he
  refine ⟨rfl,done_run (v:= .agg cells) (w':=w) ?_ (.same hs (.d hr))⟩
  simp only[execOp,ho]
  refine run_v (run_build w t _ cells ?_)
  simpa using hbu
 unfold bldB at hb
 split at hb
 ·rename_i it e hi hu
  split at hb
  ·rename_i zv ie hz hie
   simp only[Bool.and_eq_true]at hb
   obtain ⟨cells,row,g1,g2,g3⟩:=fin _ _ hb.1 hb.2
   exact done cells row (by simp[Program.built,hi,hu,hz,hie];simpa using g1) g2 g3
  ·simp at hb
 ·rename_i it fields hi hu
  split at hb
  ·rename_i zv places hz hpl
   simp only[Bool.and_eq_true]at hb
   obtain ⟨cells,row,g1,g2,g3⟩:=fin _ _ hb.1 hb.2
   exact done cells row (by simp only[Program.built,hi,hu,hz,hpl];simpa using g1) g2 g3
  ·simp at hb
 ·simp at hb
end
end Go.Ev
namespace Go.Ev
variable {E:Env} {P:Program} {T:Nat→AFn} {S S':Stab} {pl pl':Pl} {St St':Ev.St} {F:Fr} {a:Act} {w w':World}
structure RepRows (P:Program) (T:Nat→AFn) (S:Stab) (l:L) (cells:List Value) (rows:List Row):Prop where
 len:rows.length*l.n≤cells.length
 row:∀i r,rows[i]? =some r→RepR P T S l.ks ((cells.drop (i*l.n)).take l.n) r
theorem RepRows.set {l:L} {cells news:List Value} {rows:List Row} {i:Nat} {row:Row} (h:RepRows P T S l cells rows) (hi:i<rows.length) (hr:RepR P T S l.ks news row):
 RepRows P T S l (cells.take (i*l.n)++news++cells.drop (i*l.n+l.n)) (rows.set i row):=by
 have hn:news.length=l.n:=hr.clen
 have hle:=Nat.mul_le_mul_right l.n (show i+1≤rows.length from hi)
 have hexp:(i+1)*l.n=i*l.n+l.n:=Nat.succ_mul _ _
 have hlen:=h.len
 refine ⟨by simp[hn];omega,fun j r hj=> ?_⟩
 by_cases hji:j=i
 ·subst hji
  simp[hi]at hj;subst hj
  have:=splice_same cells news (j*l.n) 0 l.n l.n hn (by omega) (by omega)
  simp only[Nat.add_zero,List.take_zero,List.nil_append,Nat.zero_add]at this
  rw[this,List.drop_eq_nil_of_le (by simp;omega),List.append_nil]
  exact hr
 ·rw[List.getElem?_set_ne (Ne.symm hji)]at hj
  rw[splice_other cells news (i*l.n) l.n (j*l.n) l.n hn (by omega)]
  ·exact h.row j r hj
  ·rcases Nat.lt_or_gt_of_ne hji with h1 |h1
   ·left
    have:=Nat.mul_le_mul_right l.n (show j+1≤i from h1)
    have e:(j+1)*l.n=j*l.n+l.n:=Nat.succ_mul _ _
    omega
   ·right
    have:=Nat.mul_le_mul_right l.n (show i+1≤j from h1)
    omega
theorem RepRows.mono (hS:S.le S') {l:L} {cells:List Value} {rows:List Row} (h:RepRows P T S l cells rows):RepRows P T S' l cells rows:=⟨h.len,fun i r hi=>(h.row i r hi).mono hS⟩
theorem RepRows.rep {l:L} {cells:List Value} {rows:List Row} {e:TypeId} {b o cap:Nat} (h:RepRows P T S l cells rows) (hl:Lay P e l) (hcap:rows.length≤cap)
 (hS:∀p,p<rows.length*l.n→S b (o+p)=some (cells.getD p undef)):Rep P T S (.sl e) (.slice (some ⟨b,o,none⟩) rows.length cap) (.sl rows):=by
 refine .sl (fun i j=>cells.getD (i*l.n+j) undef) hl rfl hcap (fun r hr=> ?_) (fun _=>rfl) (fun i j hi hj=> ?_) (fun i j k hi hk=> ?_)
 ·obtain ⟨i,hi,rfl⟩:=List.getElem_of_mem hr
  exact (h.row i _ (List.getElem?_eq_getElem hi)).rlen
 ·have hle:=Nat.mul_le_mul_right l.n (show i+1≤rows.length from hi)
  have hexp:(i+1)*l.n=i*l.n+l.n:=Nat.succ_mul _ _
  have:=hS (i*l.n+j) (by omega)
  simpa[Nat.add_assoc]using this
 ·have hrow:rows[i]? =some (rowsAt rows i):=by simp[rowsAt,List.getD_eq_getElem?_getD,hi]
  have:=(h.row i _ hrow).cell j k hk
  have hj:j<l.n:=(List.getElem?_eq_some_iff.1 hk).1
  have e:((cells.drop (i*l.n)).take l.n).getD j undef=cells.getD (i*l.n+j) undef:=by
   simp[List.getD_eq_getElem?_getD,hj]
  rw[e]at this;exact this
def rowPartsOk (P:Program) (T:Nat→AFn) (n:Nat):List (Nat×Operand)→List (Nat×Opd)→Bool
 |[],[]=>true
 |(i,x)::r,(i',ax)::r'=>Nat.beq i i'&&Nat.blt i n&&opdOk P T x ax&&rowPartsOk P T n r r'
 |_,_=>false
theorem fillRows_sound {A:Type} {l:L} {k:List Row→Option A} {res:A} (hs:Sim P T S pl St w) (hF:RelF P T S pl St F a.tmps):
 ∀(parts:List (Nat×Operand)) (aparts:List (Nat×Opd)) (cells:Array Value) (rows:List Row),rowPartsOk P T rows.length parts aparts=true→RepRows P T S l cells.toList rows→
  fillRows F St l aparts rows k=some res→∃cells' rows',Instr.fill (fun i=>some (i*l.n,l.n)) cells (parts.map fun p=>(p.1,a.eval p.2))=some cells'∧RepRows P T S l cells'.toList rows'∧rows'.length=rows.length∧cells'.size=cells.size∧k rows'=some res
 |[],[],cells,z,_,hr,h=>⟨cells,z,rfl,hr,rfl,rfl,h⟩
 |[],_::_,_,_,h,_,_=>by simp[rowPartsOk]at h
 |_::_,[],_,_,h,_,_=>by simp[rowPartsOk]at h
 |(i,x)::r,(i',ax)::r',cells,rows,hp,hr,h=>by
  simp only[rowPartsOk,Bool.and_eq_true]at hp
  obtain ⟨⟨⟨hp0,hp1⟩,hp2⟩,hp3⟩:=hp
  obtain rfl:=Nat.eq_of_beq_eq_true hp0
  have hi:i<rows.length:=by simpa using hp1
  simp only[fillRows]at h
  obtain ⟨lv,row,ex,hA⟩:=asD_some h
  obtain ⟨hb,hB⟩:=check_some hA
  obtain rfl:=L.beq_eq hb
  have hv:=opd_soundD hs hp2 hF;rw[ex]at hv
  have hrow:=hv.of_d.cells
  have hsz:(a.eval x).cells.size=l.n:=by have:=hrow.clen;simpa[L.n]using this
  have hle:=Nat.mul_le_mul_right l.n (show i+1≤rows.length from hi)
  have hexp:(i+1)*l.n=i*l.n+l.n:=Nat.succ_mul _ _
  have hlen:=hr.len
  have hcs:cells.toList.length=cells.size:=Array.length_toList
  have hst:=fill_step (cells:=cells) (place:=fun i=>some (i*l.n,l.n)) (rest:=r.map fun p=>(p.1,a.eval p.2)) (i:=i) rfl hsz (by omega)
  obtain ⟨cells',rows',g1,g2,g3,g4,g5⟩:=fillRows_sound hs hF r r' (cells.toList.take (i*l.n)++(a.eval x).cells.toList++cells.toList.drop (i*l.n+l.n)).toArray (rows.set i row) (by simpa using hp3) (hr.set hi hrow) hB
  refine ⟨cells',rows',by rw[List.map_cons,hst];exact g1,g2,by simpa using g3, ?_,g5⟩
  rw[g4];simp[hsz];omega
theorem repRows_replicate {l:L} {zv:Array Value} {z:Row} (hz:RepR P T S l.ks zv.toList z) (hn:0<l.n) (m:Nat):
 RepRows P T S l ((Array.range (m*l.n)).map fun i=>zv[i % zv.size]!).toList (List.replicate m z):=by
 have hzs:zv.size=l.n:=by have:=hz.clen;simpa[L.n]using this
 refine ⟨by simp,fun i r hi=> ?_⟩
 have him:i<m:=by have:=(List.getElem?_eq_some_iff.1 hi).1;simpa using this
 have hr:r=z:=by have:=(List.getElem?_eq_some_iff.1 hi).2;simpa using this.symm
 subst hr
 have e:((((Array.range (m*l.n)).map fun i=>zv[i % zv.size]!).toList.drop (i*l.n)).take l.n)=zv.toList:=by
  apply List.ext_getElem?
  intro j
  have hle:=Nat.mul_le_mul_right l.n (show i+1≤m from him)
  have hexp:(i+1)*l.n=i*l.n+l.n:=Nat.succ_mul _ _
  by_cases hj:j<l.n
  ·have h1:i*l.n+j<m*l.n:=by omega
   have h2:(i*l.n+j)% zv.size=j:=by rw[hzs,Nat.mul_comm,Nat.mul_add_mod];exact Nat.mod_eq_of_lt hj
   have h3:j<zv.size:=by omega
   simp only[Array.toList_map,Array.toList_range,List.getElem?_take,hj,if_true,List.getElem?_drop,List.getElem?_map,List.getElem?_range h1,Option.map_some]
   rw[h2]
   simp[h3]
  ·simp[List.getElem?_take,hj,hzs]
 rw[e];exact hz
def bslB (P:Program) (T:Nat→AFn) (t e:TypeId) (l:L) (n:Nat) (z:Row) (parts:List (Nat×Operand)) (aparts:List (Nat×Opd)):Bool:=
 elemB P t e l&&Nat.blt 0 l.n&&Nat.ble (n*l.n) 16777216&&rowPartsOk P T n parts aparts&&
 (match P.info? e with |some i=>(match i.zero with |some zv=>constOk l zv z |none=>false)|none=>false)
section
variable {o:Oper} {x y c:Operand} {ax ay ac:Opd} {base:Nat}
variable (hs:Sim P T S pl St w) (hF:RelF P T S pl St F a.tmps)
include hs hF
theorem s_bsl {t e:TypeId} {l:L} {n:Nat} {z:Row} {parts:Array (Nat×Operand)} {aparts:List (Nat×Opd)} {ob:Obj} {av:AV} {no:Option Obj} (ho:o.op= .buildSlice t n parts)
 (hb:bslB P T t e l n z parts.toList aparts=true)
 (h:opO E F St ob (.bsl e l n z aparts) base ret2=some (av,no)):no=none∧Done P o a w (OpPost P T S pl St w St av):=by
 simp only[bslB,Bool.and_eq_true]at hb
 obtain ⟨⟨⟨⟨h1,h2⟩,h3⟩,h4⟩,h5⟩:=hb
 obtain ⟨hu,hL⟩:=elemB_sound h1
 have hp:0<l.n:=by simpa using h2
 have h3:n*l.n≤16777216:=by simpa using h3
 split at h5
 ·rename_i i hi
  split at h5
  ·rename_i zv hz
   obtain ⟨i',hi',hsz⟩:=hL.2
   rw[hi]at hi';obtain rfl:=Option.some.inj hi'
   simp only[opO]at h
   have hzr:=(constOk_sound (P:=P) (T:=T) (S:=S) h5).cells
   obtain ⟨cells,rows,g1,g2,g3,g4,g5⟩:=fillRows_sound hs hF parts.toList aparts _ _ (by simpa using h4) (repRows_replicate hzr hp n) h
   simp only[ret2,Option.some.injEq,Prod.mk.injEq]at g5
   obtain ⟨rfl,rfl⟩:=g5
   have g3:rows.length=n:=by simpa using g3
   have g4:cells.size=n*l.n:=by simpa using g4
   refine ⟨rfl,done_run (v:= .slice (some ⟨w.heap.size,0,none⟩) n n) (w':=w.alloc (.cells cells e)) ?_ ?_⟩
   ·simp only[execOp,ho]
    refine run_v ?_
    have hbig:¬(n*l.n>16777216):=by omega
    by_cases hnz:n*l.n=0
    ·have hn0:n=0:=by
      rcases Nat.mul_eq_zero.1 hnz with h |h
      ·exact h
      ·omega
     subst hn0
     have hpn:parts.toList=[]:=by
      cases hpl:parts.toList with
      |nil=>rfl
      |cons q qs=>
       rw[hpl]at h4
       cases aparts with
       |nil=>simp[rowPartsOk]at h4
       |cons q' qs'=>simp[rowPartsOk]at h4
     have hpa:parts=#[]:=by cases parts;simp at hpn;subst hpn;rfl
     subst hpa
     have:cells=#[]:=by apply Array.eq_empty_of_size_eq_zero;simpa using g4
     subst this
     simp[Instr.buildSlice,run_underlying hu,sizeOf,typeInfo,hi,hsz,Instr.fill,newRow,Array.range_zero']
    ·have g1':Instr.fill (fun i=>some (i*l.n,l.n)) ((Array.range (n*l.n)).map fun i=>zv.cells[i % zv.cells.size]!) (parts.toList.map fun p=>(p.1,a.eval p.2))=some cells:=g1
     simp only[Instr.buildSlice,Sem.run_bind,run_underlying hu,sizeOf,typeInfo,run_program,hi,hsz,Result.andThen_ok,Sem.run_pure,zeroValue,hz]
     rw[if_neg (by simpa using hbig)]
     simp only[Sem.run_pure,Result.andThen_ok,hnz,if_false,Sem.run_bind,typeInfo,run_program,hi,hz]
     have e1:(parts.map fun (x:Nat×Operand)=>(x.1,a.eval x.2)).toList=parts.toList.map fun p=>(p.1,a.eval p.2):=by simp
     rw[e1,g1']
     simp[newRow]
   ·refine persist_post hs ⟨rfl,rfl,rfl⟩ (fun k hk=>Go.RowKit.Below.heap_alloc w _ k hk) (by simp) (heap_alloc_new w _) (n*l.n) ?_
    have hle:S.le (S.more w.heap.size (cells.toList.take (n*l.n))):=Stab.le_more fun q=>by
     cases hS:S w.heap.size q with
     |none=>rfl
     |some v=>exact absurd (hs.stab_lt hS) (by omega)
    have hrep:=(g2.mono hle).rep (b:=w.heap.size) (o:=0) (cap:=n) hL (by omega) (fun p hp=> ?_)
    ·rw[g3]at hrep;exact .d ⟨_,rfl,hrep⟩
    ·rw[g3]at hp
     simp only[Stab.more,if_true,Nat.zero_add]
     rw[List.getElem?_take,if_pos hp]
     have:p<cells.toList.length:=by simpa[g4]using hp
     simp[List.getD_eq_getElem?_getD,List.getElem?_eq_getElem this]
  ·simp at h5
 ·simp at h5
end
end Go.Ev
