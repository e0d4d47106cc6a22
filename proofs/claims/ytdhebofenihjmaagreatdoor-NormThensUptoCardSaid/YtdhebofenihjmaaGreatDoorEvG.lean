/-
  Each operation of the abstract machine does what the model's operation does: stores, addresses, parts.
-/
import Derived.Test.YtdhebofenihjmaaGreatDoorEvC
import Derived.Laws.MakeOwn
import Derived.Lib.ConvBytes
import Derived.Laws.BytesString
import Derived.WalkSpells
set_option linter.all false
set_option maxRecDepth 100000
namespace Go.Ev
variable {E:Env} {P:Program} {T:Nat→yF} {S S':yA} {pl wD:Pl} {St dD:Ev.St} {F:Fr} {a:Act} {w w':World}
def a0b (P:Program) (t:TypeId):Bool:=match P.underlying t with |some (.struct _)=>false |some (.array ..)=>false |none=>false |_=>true
theorem aSH {t:TypeId} (h:a0b P t=true) (w:World):(isAgg t).run P w= .ok false w:=by
 unfold a0b at h
 cases hu:P.underlying t with
 |none=>rw[hu]at h;simp at h
 |some d=>rw[hu]at h;cases d<;>simp_all[isAgg,run_underlying hu]
def aOL (P:Program) (t:TypeId) (n:Nat):Bool:=match P.info? t with |some i=>Nat.beq i.size n |none=>false
theorem aBp {t:TypeId} {n:Nat} (h:aOL P t n=true) (w:World):(sizeOf t).run P w= .ok n w:=by
 unfold aOL at h
 cases hu:P.info? t with
 |none=>rw[hu]at h;simp at h
 |some i=>rw[hu]at h;have:=Nat.eq_of_beq_eq_true h;simp[sizeOf,typeInfo,hu,this]
theorem aK9 {o:Oper} {t:TypeId} {x y:Operand} {w w':World} (ho:o.op= .store t x y) (h:(Instr.storeAt t (a.eval x) (a.eval y)).run P w= .ok () w'):(execOp a.eval o).run P w= .ok .skip w':=by
 simp only[execOp,ho];exact bAN h
theorem aB6 {t:TypeId} {n:Nat} {w:World} {b off:Nat} {cur:Array Value} {e:TypeId} {v:Value} (hsz:(sizeOf t).run P w= .ok n w) (h:w.heap[b]? =some (.cells cur e (0,0)))
 (hv:v.cells.size=n) (h1:∀u∈v.cells.toList,u.oneCell'=true) (hfit:off+n≤cur.size):
 (Instr.storeAt t (.pointer (some ⟨b,off,none⟩)) v).run P w= .ok () (w.setRow b (cur.toList.take off++v.cells.toList++cur.toList.drop (off+n)).toArray):=by
 have hst:=run_storeCells_at P b off e v.cells.toList 0 cur w h (by simpa[hv]using hfit) h1
 simp only[Nat.add_zero]at hst
 have hl:v.cells.toList.length=n:=by simpa using hv
 rw[hl]at hst
 simp only[Instr.storeAt,Instr.sureAddr,Sem.run_bind,Sem.run_pure,Result.andThen_ok,storeVar,hsz,hv,ne_eq,not_true,if_false,Sem.run_ite]
 simpa using hst
theorem aYG (w:World) (b:Nat) (cs:Array Value):(w.setRow b cs).os=w.os∧(w.setRow b cs).tape=w.tape∧(w.setRow b cs).output=w.output∧(w.setRow b cs).heap.size=w.heap.size:=
 ⟨rfl,rfl,rfl,size_setRow w b cs⟩
theorem aQe {id:Nat} {ob o':Obj} {cur cs:Array Value} {e:TypeId} {av:AV} {v:Value} (hs:mW P T S pl St w) (oB:St[id]? =some ob) (hf:ob≠ .fresh) (a0c:ob.has=true) (hz:ob.sn=0)
 (hh:w.heap[pl.blk id]? =some (.cells cur e (0,0))) (hk:kD pl St pl (St.set id o'))
 (aOu:∀w',w'.heap[pl.blk id]? =some (.cells cs e (0,0))→n9 P T S pl (St.set id o') w' id o')
 (hv:iB P T S pl (St.set id o') av v) (hnc:ob.cst=false:=by rfl):bB P T S pl St w (St.set id o') av v (w.setRow (pl.blk id) cs):=by
 have hlt:id<St.length:=(List.getElem?_eq_some_iff.1 oB).1
 obtain ⟨s1,s2,s3,s4⟩:=aYG w (pl.blk id) cs
 have hnew:(w.setRow (pl.blk id) cs).heap[pl.blk id]? =some (.cells cs e (0,0)):=setRow_heap w (pl.blk id) cur cs e (0,0) hh
 refine ⟨S,pl, ?_,⟨s1,s2,s3,by omega,fun b hb hn=> ?_,S.le_refl,fun _ _ _ _=>rfl⟩,hv,fun _ _ h=>h.keep hk S.le_refl, ?_⟩
 ·refine hs.upd hlt hk S.le_refl (fun j _=>⟨rfl,rfl⟩) (fun j o hj h ho=> ?_) (fun b o v h=> ?_) (aOu _ hnew) (fun _ off _=>hs.apart id ob oB a0c off (by omega)) (fun j o _ h ho=>hs.apart j o h ho)
   (fun _ j o hj h ho hb=>hj (hs.inj j id o ob h oB ho a0c hb)) (fun g _ ha=>⟨setRow_other w _ _ _ (fun e=>ha id ob oB a0c e.symm),fun _=>ha id ob oB a0c⟩)
  ·exact setRow_other w _ _ _ (fun hb=>hj (hs.inj j id o ob h oB ho a0c hb))
  ·have hne:b≠pl.blk id:=fun hb=>by
    have:=hs.apart id ob oB a0c o (by omega)
    rw[←hb]at this;rw[this]at h;cases h
   rw[World.cell?_of_block (w:=w) (setRow_other w _ _ _ hne)]
   exact hs.yM _ _ _ h
 ·exact setRow_other w _ _ _ (fun hb=>hn ⟨id,ob,oB,a0c,hnc,hb.symm⟩)
 ·rintro b ⟨j,o,h,ho,hb⟩
  by_cases hj:j=id
  ·subst hj;exact .inl ⟨j,ob,oB,a0c,hnc,hb.2⟩
  ·rw[List.getElem?_set_ne (Ne.symm hj)]at h;exact .inl ⟨j,o,h,ho,hb⟩
theorem kD.set {id:Nat} {ob o':Obj} (oB:St[id]? =some ob)
 (h:ob≠ .fresh→o'≠ .fresh∧
 (∀l row,o'= .var l row→(∃l0 r0,ob= .var l0 r0))∧
 (∀c vs,o'= .cells c vs→(∃c0 v0,ob= .cells c0 v0))∧
 (∀v l c,o'= .arr v l c→∃v0 c0,ob= .arr v0 l c0∧v0≤v∧(v0=v→(c= .bA→c0= .bA)∧
   ∀rows,c= .sl rows→∃cH,c0= .sl cH∧cH.length=rows.length))∧
 (∀v e l c,o'≠ .zA v e l c)∧
 (∀kl vl es,o'= .map kl vl es→(∃kl0 vl0 es0,ob= .map kl0 vl0 es0)))
 (hh:∀l c i av,o'= .vE l c i av→∃c0 i0 av0,ob= .vE l c0 i0 av0∧(c= .bA→c0= .bA)∧∀rows,c= .sl rows→∃cH,c0= .sl cH∧cH.length=rows.length:=by rintro _ _ _ _ ⟨⟩):kD pl St pl (St.set id o'):=by
 have hlt:id<St.length:=(List.getElem?_eq_some_iff.1 oB).1
 intro j o hj hf
 by_cases hji:j=id
 ·subst hji
  rw[oB]at hj;obtain rfl:=Option.some.inj hj
  obtain ⟨h0,h1,h2,h3,h5,h4⟩:=h hf
  exact ⟨o',List.getElem?_set_self hlt,h0,fun l r e=>⟨h1 l r e,rfl⟩,fun c vs e=>⟨h2 c vs e,rfl⟩,
   fun v l c e=>let ⟨v0,c0,a,b,g⟩:=h3 v l c e;⟨v0,c0,a,b,fun hv=>⟨rfl,rfl,(g hv).1,(g hv).2⟩⟩,fun v e l c q=>absurd q (h5 v e l c),fun a b c e=>⟨h4 a b c e,rfl⟩,fun l c i av e=>let ⟨c0,i0,av0,x,y,z⟩:=hh l c i av e;⟨c0,i0,av0,x,y,fun rows q=>let ⟨r0,z1,z2⟩:=z rows q;⟨r0,z1,z2,rfl,rfl⟩⟩⟩
 ·exact ⟨o,by rw[List.getElem?_set_ne (Ne.symm hji)];exact hj,hf,kD.same rfl rfl⟩
theorem yC.a0d {ks:List K} {cs:List Value} {row:Row} (h:yC P T S ks cs row):∀u∈cs,u.oneCell'=true:=by
 intro u hu
 obtain ⟨j,hj,rfl⟩:=List.getElem_of_mem hu
 have hk:j<ks.length:=by rw[←h.mL];exact hj
 have:=h.cell j ks[j] (List.getElem?_eq_getElem hk)
 have e:cs.getD j undef=cs[j]:=by simp[List.getD_eq_getElem?_getD,hj]
 rw[e]at this
 exact this.wB.1
theorem yC.put {l l':L} {cs news:List Value} {r row:Row} {off:Nat} (h:yC P T S l'.ks cs r) (hr:yC P T S l.ks news row) (hk:l.ks=(l'.ks.drop off).take l.n) (hn:0<l.n):
 yC P T S l'.ks (cs.take off++news++cs.drop (off+l.n)) (Ev.put r off l.n row 0 l'.n):=by
 have hlen:off+l.n≤l'.n:=by
  have:=congrArg List.length hk;simp[L.n]at this⊢;simp only[L.n]at hn;omega
 have hc:=h.mL
 have hnl:=hr.mL
 have hc':cs.length=l'.n:=hc
 have bIO:news.length=l.n:=hnl
 refine ⟨by simp;rw[hc',bIO];simp only[L.n]at hlen⊢;omega,by simp[a2f,L.n],fun j k hj=> ?_⟩
 have hjl:j<l'.n:=(List.getElem?_eq_some_iff.1 hj).1
 rw[bC8 _ _ _ _ _ _ _ hjl]
 simp only[Nat.zero_add]
 by_cases hin:off≤j∧j<off+l.n
 ·rw[if_pos hin]
  have hk':l.ks[j - off]? =some k:=by
   rw[hk];simp[show j - off<l.n from by omega,show off+(j - off)=j from by omega];exact hj
  have:=hr.cell (j - off) k hk'
  have e:(cs.take off++news++cs.drop (off+l.n)).getD j undef=news.getD (j - off) undef:=by
   simp only[List.getD_eq_getElem?_getD]
   rw[List.append_assoc,List.getElem?_append_right (by simp;omega),List.getElem?_append_left (by simp;omega)]
   simp[show min off cs.length=off from by omega]
  rw[e];exact this
 ·rw[if_neg hin]
  have:=h.cell j k hj
  have e:(cs.take off++news++cs.drop (off+l.n)).getD j undef=cs.getD j undef:=by
   simp only[List.getD_eq_getElem?_getD]
   by_cases hlo:j<off
   ·rw[List.append_assoc,List.getElem?_append_left (by simp;omega)]
    simp[hlo]
   ·rw[List.getElem?_append_right (by simp;omega)]
    simp only[List.length_append,List.length_take,List.getElem?_drop]
    congr 2
    omega
  rw[e];exact this
theorem aXn {A:Type} {l l':L} {off:Nat} {r row:Row} {k:Row→Option A} {x:A} (h:aFk l l' off r row k=some x):
 ∃r',k r'=some x∧((off=0∧l=l'∧r'=row)∨(r'=Ev.put r off l.n row 0 l'.n∧l.ks=(l'.ks.drop off).take l.n)):=by
 unfold aFk at h
 split at h
 ·rename_i hb
  simp only[Bool.and_eq_true]at hb
  exact ⟨row,h,.inl ⟨Nat.eq_of_beq_eq_true hb.1,L.beq_eq hb.2,rfl⟩⟩
 ·obtain ⟨hk,h⟩:=lA h
  exact ⟨_,h,.inr ⟨rfl,aEO hk⟩⟩
theorem yC.aFk {l l':L} {cs news:List Value} {r row r':Row} {off:Nat} (h:yC P T S l'.ks cs r) (hr:yC P T S l.ks news row) (hn:0<l.n)
 (ht:(off=0∧l=l'∧r'=row)∨(r'=Ev.put r off l.n row 0 l'.n∧l.ks=(l'.ks.drop off).take l.n)):
 yC P T S l'.ks (cs.take off++news++cs.drop (off+l.n)) r'∧off+l.n≤l'.n:=by
 rcases ht with ⟨rfl,rfl,rfl⟩|⟨rfl,hk⟩
 ·have:cs.drop (0+l.n)=[]:=List.drop_eq_nil_of_le (by rw[h.mL];simp[L.n])
  rw[this];simp;exact hr
 ·refine ⟨h.put hr hk hn, ?_⟩
  have:=congrArg List.length hk;simp[L.n]at this⊢;simp only[L.n]at hn;omega
theorem rW {A:Type} (cur news:List A) (s n p:Nat) (hn:news.length=n) (hs:s+n≤cur.length):
 (cur.take s++news++cur.drop (s+n))[p]? =if p<s then cur[p]? else if p<s+n then news[p - s]? else cur[p]? :=by
 by_cases h1:p<s
 ·rw[if_pos h1,List.append_assoc,List.getElem?_append_left (by simp;omega)]
  simp[h1]
 ·rw[if_neg h1]
  by_cases h2:p<s+n
  ·rw[if_pos h2,List.append_assoc,List.getElem?_append_right (by simp;omega),List.getElem?_append_left (by simp;omega)]
   simp[show min s cur.length=s from by omega]
  ·rw[if_neg h2,List.getElem?_append_right (by simp;omega)]
   simp only[List.length_append,List.length_take,List.getElem?_drop]
   congr 1
   omega
theorem aSJ {A:Type} (cur news:List A) (k off n m:Nat) (hn:news.length=n) (h1:off+n≤m) (h2:k+m≤cur.length):
 ((cur.take (k+off)++news++cur.drop (k+off+n)).drop k).take m=((cur.drop k).take m).take off++news++((cur.drop k).take m).drop (off+n):=by
 apply List.ext_getElem?
 intro q
 have hl:((cur.drop k).take m).length=m:=by simp;omega
 rw[rW ((cur.drop k).take m) news off n q hn (by omega),List.getElem?_take]
 by_cases hq:q<m
 ·rw[if_pos hq,List.getElem?_drop,rW cur news (k+off) n (k+q) hn (by omega)]
  simp only[List.getElem?_take,List.getElem?_drop,hq,if_true]
  by_cases c1:q<off
  ·rw[if_pos c1,if_pos (by omega)]
  ·rw[if_neg c1,if_neg (by omega)]
   by_cases c2:q<off+n
   ·rw[if_pos c2,if_pos (by omega),show k+q - (k+off)=q - off from by omega]
   ·rw[if_neg c2,if_neg (by omega)]
 ·rw[if_neg hq,if_neg (by omega),if_neg (by omega),List.getElem?_take,if_neg hq]
theorem aQf {A:Type} (cur news:List A) (s n a m:Nat) (hn:news.length=n) (hs:s+n≤cur.length) (h:a+m≤s∨s+n≤a):
 ((cur.take s++news++cur.drop (s+n)).drop a).take m=(cur.drop a).take m:=by
 apply List.ext_getElem?
 intro q
 simp only[List.getElem?_take]
 by_cases hq:q<m
 ·rw[if_pos hq,if_pos hq,List.getElem?_drop,List.getElem?_drop,rW cur news s n (a+q) hn hs]
  rcases h with h |h
  ·rw[if_pos (by omega)]
  ·rw[if_neg (by omega),if_neg (by omega)]
 ·rw[if_neg hq,if_neg hq]
section
variable {o:Oper} {x y c:Operand} {ax ay ac:rD} {base:Nat}
variable (hs:mW P T S pl St w) (hF:wX P T S pl St F a.tmps)
include hs hF
theorem bFQ {t:TypeId} {ob:Obj} {av:AV} {no:Option Obj} (ho:o.op= .load t x) (hl:a0b P t=true) (hx:oA P T x ax=true)
 (oB:∀id,tJ (ax.ev F)=some id→St[id]? =some ob)
 (h:rG E F St ob (.ldC ax) base cB=some (av,no)):no=none∧cE P o a w (bB P T S pl St w St av):=by
 have hv:=sC hs hx hF
 simp only[rG]at h
 split at h
 ·rename_i id off e
  have oB:=oB id (by rw[e];rfl)
  rw[e]at hv
  split at h
  ·rename_i c vs
   have e1:=hv.sO oB
   obtain ⟨cur,e2,hh,hsz,hr⟩:=hs.objs _ _ oB
   split at h
   ·rename_i u hu
    simp only[cB,Option.some.injEq,Prod.mk.injEq]at h
    obtain ⟨rfl,rfl⟩:=h
    have hlt:off<cur.size:=by rw[hsz];exact (List.getElem?_eq_some_iff.1 hu).1
    refine ⟨rfl,mA (v:=cur.toList.getD off undef) (w':=w) (aJ3 ho ?_) (.same hs (by simpa using hr.1 off u hu))⟩
    rw[e1]
    simp only[Instr.loadAt,Instr.sureAddr,Sem.run_bind,Sem.run_pure,Result.andThen_ok,loadVar,aSH hl,Bool.false_eq_true,if_false,run_load,aRx hh hlt]
   ·simp at h
  ·simp at h
 ·simp at h
theorem bIP {l:L} {t:TypeId} {ob:Obj} {av:AV} {no:Option Obj} (ho:o.op= .store t x y) (hsz:aOL P t l.n=true) (hn:Nat.blt 0 l.n=true) (hx:oA P T x ax=true) (hy:oA P T y ay=true)
 (oB:∀id,tJ (ax.ev F)=some id→St[id]? =some ob)
 (h:rG E F St ob (.st l ax ay) base cB=some (av,no)):∃id o',tJ (ax.ev F)=some id∧no=some o'∧cE P o a w (bB P T S pl St w (St.set id o') av):=by
 have hp:0<l.n:=by simpa using hn
 have hv:=sC hs hx hF
 have hu:=qA hs hy hF
 simp only[rG]at h
 split at h
 ·rename_i id off e
  have oB:=oB id (by rw[e];rfl)
  rw[e]at hv
  split at h
  ·rename_i l' r _
   obtain ⟨lv,row,ey,hA⟩:=zM h
   obtain ⟨hb,hB⟩:=lA hA
   obtain rfl:=L.beq_eq hb
   obtain ⟨r',hr',ht⟩:=aXn hB
   simp only[cB,Option.some.injEq,Prod.mk.injEq]at hr'
   obtain ⟨rfl,rfl⟩:=hr'
   rw[ey]at hu
   have hnew:=hu.aBR.cells
   have e1:=hv.aUC oB
   obtain ⟨cur,e2,hh,hr⟩:=hs.objs _ _ oB
   obtain ⟨q1,q2⟩:=hr.aFk hnew hp ht
   have hcz:cur.size=l'.n:=by have:=hr.mL;simpa[L.n]using this
   have hst:=aB6 (aBp hsz w) hh (v:=a.eval y) (off:=off) (by have:=hnew.mL;simpa[L.n]using this) hnew.a0d (by omega)
   refine ⟨id,_,by rw[e];rfl,rfl,aG3 (aK9 ho (by rw[e1];exact hst)) ?_⟩
   refine aQe hs oB (by simp) rfl rfl hh (kD.set oB (fun _=>⟨by simp,fun _ _ _=>⟨_,_,rfl⟩,fun _ _ h=>by simp at h,fun _ _ _ h=>by simp at h,fun _ _ _ _ h=>by simp at h,fun _ _ _ h=>by simp at h⟩)) (fun w' hw'=>⟨_,_,hw',by simpa using q1⟩) .und
  ·simp at h
 ·rename_i id bO idx off e
  have oB:=oB id (by rw[e];rfl)
  rw[e]at hv
  obtain ⟨l',c,rfl,h1⟩:=eE h
  obtain ⟨lv,row,ey,hA⟩:=zM h1
  obtain ⟨hb,hB⟩:=lA hA
  obtain rfl:=L.beq_eq hb
  obtain ⟨hlt,hC⟩:=jD hB
  obtain ⟨r',hr',ht⟩:=aXn hC
  simp only[cB,Option.some.injEq,Prod.mk.injEq]at hr'
  obtain ⟨rfl,rfl⟩:=hr'
  rw[ey]at hu
  have hnew:=hu.aBR.cells
  have e1:=hv.aP8 oB
  rcases hs.objs _ _ oB with rfl |⟨rows,cur,e2,i,rfl,hh,q1,q2,q3,q4,q5,q6,q7⟩
  ·simp[C.rows]at hlt
  ·simp only[C.rows]at hlt ht⊢
   have hrow:rows[idx]? =some (aA rows idx):=by simp[aA,List.getD_eq_getElem?_getD,hlt]
   obtain ⟨g1,g2⟩:=(q7 idx _ hrow).aFk hnew hp ht
   have hle:(idx+1)*l'.n≤pl.cap id*l'.n:=Nat.mul_le_mul_right _ (by omega)
   have aWa:(idx+1)*l'.n=idx*l'.n+l'.n:=Nat.succ_mul _ _
   have hnz:(a.eval y).cells.size=l.n:=by have:=hnew.mL;simpa[L.n]using this
   have hnl:(a.eval y).cells.toList.length=l.n:=by simpa using hnz
   have hst:=aB6 (aBp hsz w) hh (v:=a.eval y) (off:=idx*l'.n+off) hnz hnew.a0d (by omega)
   refine ⟨id,_,by rw[e];rfl,rfl,aG3 (aK9 ho (by rw[e1];exact hst)) ?_⟩
   refine aQe hs oB (by simp) rfl rfl hh (kD.set oB (fun _=>⟨by simp,fun _ _ h=>by simp at h,fun _ _ h=>by simp at h,fun v l c h=> ?_,fun _ _ _ _ h=>by simp at h,fun _ _ _ h=>by simp at h⟩)) (fun w' hw'=> ?_) .und
   ·simp only[Obj.arr.injEq]at h
    obtain ⟨rfl,rfl,rfl⟩:=h
    exact ⟨_,_,rfl,Nat.le_refl _,fun _=>⟨fun h=>by simp at h,fun rs h=>⟨rows,rfl,by simp at h;subst h;simp⟩⟩⟩
   ·refine .inr ⟨_,_,_,i,rfl,hw',q1,q2,q3,by simpa using q4,q5, ?_,fun j r hj=> ?_⟩
    ·simp[hnl];omega
    ·have hcl:cur.toList.length=pl.cap id*l'.n:=by simpa using q6
     by_cases hji:j=idx
     ·subst hji
      simp[hlt]at hj;subst hj
      rw[List.toList_toArray,aSJ cur.toList _ _ off l.n l'.n hnl g2 (by rw[hcl];omega)]
      exact g1
     ·rw[List.getElem?_set_ne (Ne.symm hji)]at hj
      rw[List.toList_toArray,aQf cur.toList _ _ l.n _ _ hnl (by rw[hcl];omega)]
      ·exact q7 j r hj
      ·rcases Nat.lt_or_gt_of_ne hji with bDn |hgt
       ·left
        have:=Nat.mul_le_mul_right l'.n (show j+1≤idx from bDn)
        have e:(j+1)*l'.n=j*l'.n+l'.n:=Nat.succ_mul _ _
        omega
       ·right
        have:=Nat.mul_le_mul_right l'.n (show idx+1≤j from hgt)
        omega
 ·simp at h
end
end Go.Ev
namespace Go.Ev
variable {E:Env} {P:Program} {T:Nat→yF} {S S':yA} {pl wD:Pl} {St dD:Ev.St} {F:Fr} {a:Act} {w w':World}
def aUH (P:Program) (t:TypeId) (f off n:Nat) (u:TypeId):Bool:=
 match P.underlying t with
 |some (.struct fs)=>(match fs[f]? with
  |some fd=>Nat.beq fd.offset off&&Nat.beq fd.type u&&(match P.info? u with |some i=>Nat.beq i.size n&&Nat.blt 0 n |none=>false)
  |none=>false)
 |_=>false
theorem aYH {t f off n u} (h:aUH P t f off n u=true):∃fs fd i,P.underlying t=some (.struct fs)∧fs[f]? =some fd∧fd.offset=off∧fd.type=u∧P.info? u=some i∧i.size=n∧0<n:=by
 unfold aUH at h
 split at h
 ·rename_i fs hu
  split at h
  ·rename_i fd hf
   simp only[Bool.and_eq_true]at h
   obtain ⟨⟨h1,h2⟩,h3⟩:=h
   split at h3
   ·rename_i i hi
    simp only[Bool.and_eq_true]at h3
    exact ⟨fs,fd,i,hu,hf,Nat.eq_of_beq_eq_true h1,Nat.eq_of_beq_eq_true h2,hi,Nat.eq_of_beq_eq_true h3.1,by simpa using h3.2⟩
   ·simp at h3
  ·simp at h
 ·simp at h
theorem aNk {t f off n u} (h:aUH P t f off n u=true) (w:World) (b o:Nat):
 (Instr.fieldAt t (.pointer (some ⟨b,o,none⟩)) f).run P w= .ok (.pointer (some ⟨b,o+off,none⟩)) w:=by
 obtain ⟨fs,fd,i,h1,h2,rfl,rfl,h5,h6,h7⟩:=aYH h
 have hz:¬i.size=0:=by omega
 simp[Instr.fieldAt,run_underlying h1,h2,Instr.sureAddr,fieldPlace,sizeOf,typeInfo,h5,hz,add_eq ⟨b,o,none⟩ rfl]
theorem iB.aOM {e:TypeId} {row:Row} {v:Value} (h:iB P T S pl St (.d (.one (.sl e)) row) v):
 (v= .slice none 0 0∧at_ row 0= .bA)∨∃(l:L) (rows:List Row) (a:Addr) (cap:Nat) (f:Nat→Nat→Value),v= .slice (some a) rows.length cap∧at_ row 0= .sl rows∧Lay P e l∧rows.length≤cap∧
   (∀r∈rows,r.length=l.n)∧(rows.length≠0→a.spot=none)∧(∀i j,i<rows.length→j<l.n→S a.block (a.off+i*l.n+j)=some (f i j))∧
   (∀i j k,i<rows.length→l.ks[j]? =some k→gO P T S k (f i j) (at_ (aA rows i) j)):=by
 obtain ⟨c,rfl,hr⟩:=h.aBR
 cases hr with
 |bA=>exact .inl ⟨rfl,rfl⟩
 |sl f h1 h2 h3 h4 h5 h6 h7=>subst h2;exact .inr ⟨_,_,_,_,f,rfl,rfl,h1,h3,h4,h5,h6,h7⟩
theorem iB.bQ {id bO:Nat} {l:L} {c:C} {v:Value} (h:iB P T S pl St (.whole id bO) v) (ho:St[id]? =some (.arr bO l c)):
 (c= .bA→v= .slice none 0 0)∧(∀rows,c= .sl rows→v= .slice (some ⟨pl.blk id,0,none⟩) rows.length (pl.cap id)):=by
 cases h with
 |whole h0 h1 h2 hv h3 h4=>
  rw[ho]at h1;obtain rfl:=Option.some.inj h1
  exact ⟨fun e=>h3 l (by rw[e]),fun rows e=>h4 l rows (by rw[e])⟩
theorem iB.a3v {id bO off len:Nat} {l:L} {rows:List Row} {v:Value} (h:iB P T S pl St (.own id bO off len) v) (ho:St[id]? =some (.arr bO l (.sl rows))):
 ∃a,v= .slice (some a) len (pl.cap id - off)∧off+len≤rows.length∧rows.length≤pl.cap id∧(len≠0∨off=0→a=⟨pl.blk id,off*l.n,none⟩):=by
 cases h with
 |own h0 h1 h2 hv h3 h4=>rw[ho]at h1;obtain rfl:=Option.some.inj h1;exact h3 l rows rfl
theorem iB.a2k {id bO off len:Nat} {l:L} {rows:List Row} {v:Value} (h:iB P T S pl St (.own id bO off len) v) (ho:St[id]? =some (.arr bO l (.sl rows))):
 ∃a cap,v= .slice (some a) len cap∧len≤cap∧off+len≤rows.length∧(len≠0→a=⟨pl.blk id,off*l.n,none⟩):=by
 obtain ⟨a,q1,q2,q3,q4⟩:=h.a3v ho
 exact ⟨a,_,q1,by omega,q2,fun hn=>q4 (.inl hn)⟩
theorem iB.aNl {id bO off len:Nat} {l:L} {v:Value} (h:iB P T S pl St (.own id bO off len) v) (ho:St[id]? =some (.arr bO l .bA)):False:=by
 cases h with
 |own h0 h1 h2 hv h3 h4=>rw[ho]at h1;obtain rfl:=Option.some.inj h1;exact h4 l rfl
theorem iB.aNm {id i:Nat} {l:L} {c:C} {av:AV} {v:Value} (h:iB P T S pl St (.vE id) v) (ho:St[id]? =some (.vE l c i av)):
 (c= .bA→v= .slice none 0 0)∧∀rows,c= .sl rows→v= .slice (some ⟨pl.blk id,0,none⟩) rows.length (pl.cap id):=by
 cases h with
 |vE h0 h1 h2 h3 h4=>rw[ho]at h1;obtain rfl:=Option.some.inj h1;exact ⟨fun e=>h3 _ _ _ (by rw[e]),fun rows e=>h4 _ _ _ _ (by rw[e])⟩
theorem iB.a9E {id i idx:Nat} {l:L} {c:C} {av:AV} (h:St[id]? =some (.vE l c i av)):iB P T S pl St (.aKU id idx) (.pointer (some ⟨pl.blk id,idx*l.n,none⟩)):=
 .aKU rfl h (by simp) (fun _ _ _ _ e=>by simp only[Obj.vE.injEq]at e;rw[e.1])
theorem aLa {A:Type} {o:Obj} {k:L→C→Nat→AV→Option A} {x:A} (h:aP4 o k=some x):∃l c i av,o= .vE l c i av∧k l c i av=some x:=by
 cases o<;>simp[aP4]at h
 exact ⟨_,_,_,_,rfl,h⟩
def aJ7 (P:Program) (t e:TypeId) (l:L):Bool:=
 (match P.underlying t with |some (.slice e')=>Nat.beq e' e |_=>false)&&aF5 P e l
theorem tO {t e l} (h:aJ7 P t e l=true):P.underlying t=some (.slice e)∧Lay P e l:=by
 simp only[aJ7,Bool.and_eq_true]at h
 obtain ⟨h1,h2⟩:=h
 split at h1
 ·rename_i e' he;rw[he,Nat.eq_of_beq_eq_true h1];exact ⟨rfl,aC h2⟩
 ·simp at h1
theorem aIj {t e:TypeId} {l:L} (h:aJ7 P t e l=true) (w:World) (a:Addr) (ha:a.spot=none) (len cap:Nat) (k:IntKind) (n:Int) (h0:0≤n) (h1:n<len):
 (Instr.indexAt t (.slice (some a) len cap) (.int k n)).run P w= .ok (.pointer (some ⟨a.block,a.off+n.toNat*l.n,none⟩)) w:=by
 obtain ⟨hu,hl⟩:=tO h
 obtain ⟨i,hi,hz⟩:=hl.2
 simp[Instr.indexAt,asIntOf,run_underlying hu,h0,h1,sizeOf,typeInfo,hi,hz,add_eq a ha]
theorem vJ {o:Oper} {t:TypeId} {x y:Operand} {v:Value} {w w':World} (ho:o.op= .indexAddr t x y) (h:(Instr.indexAt t (a.eval x) (a.eval y)).run P w= .ok v w'):(execOp a.eval o).run P w= .ok (.value v) w':=by
 simp only[execOp,ho];exact qW h
theorem aHf {o:Oper} {t:TypeId} {x:Operand} {f:Nat} {v:Value} {w w':World} (ho:o.op= .fieldAddr t x f) (h:(Instr.fieldAt t (a.eval x) f).run P w= .ok v w'):(execOp a.eval o).run P w= .ok (.value v) w':=by
 simp only[execOp,ho];exact qW h
theorem iB.aUa {id bO idx off:Nat} {l:L} {c:C} (h:St[id]? =some (.arr bO l c)):iB P T S pl St (.zL id bO idx off) (.pointer (some ⟨pl.blk id,idx*l.n+off,none⟩)):=
 .zL rfl h (by simp) (fun v l' c' e=>by simp at e;omega) (fun l' c' e=>by simp at e;rw[e.1])
section
variable {o:Oper} {x y c:Operand} {ax ay ac:rD} {base:Nat}
variable (hs:mW P T S pl St w) (hF:wX P T S pl St F a.tmps)
include hs hF
theorem bFR {t:TypeId} {ob:Obj} {av:AV} {no:Option Obj} (ho:o.op= .store t x y) (hsz:aOL P t 1=true) (hx:oA P T x ax=true) (hy:oA P T y ay=true)
 (oB:∀id,tJ (ax.ev F)=some id→St[id]? =some ob)
 (h:rG E F St ob (.stC ax ay) base cB=some (av,no)):∃id o',tJ (ax.ev F)=some id∧no=some o'∧cE P o a w (bB P T S pl St w (St.set id o') av):=by
 have hv:=sC hs hx hF
 have hu:=sC hs hy hF
 simp only[rG]at h
 split at h
 ·rename_i id off e
  have oB:=oB id (by rw[e];rfl)
  rw[e]at hv
  split at h
  ·rename_i vs _
   obtain ⟨hb,hA⟩:=lA h
   simp only[Bool.and_eq_true]at hb
   have hlt:off<vs.length:=by simpa using hb.1
   obtain ⟨u1,u2⟩:=hu.single hb.2
   simp only[cB,Option.some.injEq,Prod.mk.injEq]at hA
   obtain ⟨rfl,rfl⟩:=hA
   have e1:=hv.sO oB
   obtain ⟨cur,e2,hh,hcz,hr⟩:=hs.objs _ _ oB
   have hst:=aB6 (aBp hsz w) hh (v:=a.eval y) (off:=off) (by rw[u2];rfl) (by rw[u2];simpa using u1) (by omega)
   have hk:kD pl St pl (St.set id (.cells false (vs.set off (ay.ev F)))):=kD.set oB (fun _=>⟨by simp,fun _ _ h=>by simp at h,fun _ _ _=>⟨_,_,rfl⟩,fun _ _ _ h=>by simp at h,fun _ _ _ _ h=>by simp at h,fun _ _ _ h=>by simp at h⟩)
   refine ⟨id,_,by rw[e];rfl,rfl,aG3 (aK9 ho (by rw[e1];exact hst)) ?_⟩
   refine aQe hs oB (by simp) rfl rfl hh hk (fun w' hw'=>⟨_,_,hw', ?_,fun i av hi=> ?_,fun i hi=> ?_⟩) .und
   ·rw[u2];simp;omega
   ·have hg:=rW cur.toList [a.eval y] off 1 i rfl (by simp;omega)
    rw[u2]
    have hgd:((List.take off cur.toList++#[a.eval y].toList++List.drop (off+1) cur.toList).toArray.getD i undef)=(List.take off cur.toList++[a.eval y]++List.drop (off+1) cur.toList)[i]?.getD undef:=by simp
    rw[hgd,hg]
    by_cases hio:i=off
    ·subst hio
     simp[hlt]at hi;subst hi
     simpa using hu.keep hk S.le_refl
    ·rw[List.getElem?_set_ne (Ne.symm hio)]at hi
     have:=(hr.1 i av hi).keep hk S.le_refl
     rcases Nat.lt_or_gt_of_ne hio with h1 |h1
     ·rw[if_pos h1];simpa using this
     ·rw[if_neg (by omega),if_neg (by omega)];simpa using this
   ·rw[u2]at hi⊢
    have hgd:((List.take off cur.toList++#[a.eval y].toList++List.drop (off+1) cur.toList).toArray.getD i undef)=(List.take off cur.toList++[a.eval y]++List.drop (off+1) cur.toList)[i]?.getD undef:=by simp
    rw[hgd,rW cur.toList [a.eval y] off 1 i rfl (by simp;omega)]
    simp at hi
    by_cases hio:i=off
    ·subst hio;simpa using u1
    ·have:=hr.2 i (by omega)
     rcases Nat.lt_or_gt_of_ne hio with h1 |h1
     ·rw[if_pos h1];simpa using this
     ·rw[if_neg (by omega),if_neg (by omega)];simpa using this
  ·simp at h
 ·simp at h
omit hs hF in
theorem aLb {A:Type} {o:Obj} {k:Option A} {r:A} (h:aP3 o k=some r):((∃l row,o= .var l row)∨∃c vs,o= .cells c vs)∧k=some r:=by
 unfold aP3 at h
 split at h
 ·exact ⟨.inl ⟨_,_,rfl⟩,h⟩
 ·exact ⟨.inr ⟨_,_,rfl⟩,h⟩
 ·simp at h
omit hs hF in
theorem _root_.Go.Ev.iB.aUI {id off:Nat} {o:Obj} {v:Value} (h:iB P T S pl St (.ptr id off) v) (ho:St[id]? =some o) (hk:(∃l row,o= .var l row)∨∃c vs,o= .cells c vs):v= .pointer (some ⟨pl.blk id,off,none⟩):=by
 rcases hk with ⟨l,row,rfl⟩|⟨c,vs,rfl⟩
 ·exact h.aUC ho
 ·exact h.sO ho
omit hs hF in
theorem _root_.Go.Ev.iB.a2l {id off:Nat} {o:Obj} (ho:St[id]? =some o) (hk:(∃l row,o= .var l row)∨∃c vs,o= .cells c vs):iB P T S pl St (.ptr id off) (.pointer (some ⟨pl.blk id,off,none⟩)):=by
 rcases hk with ⟨l,row,rfl⟩|⟨c,vs,rfl⟩
 ·exact .aT8 ho rfl
 ·exact .aOb ho rfl
omit hs hF in
theorem a0e {l l':L} {u:TypeId} {ad:Addr} {f:Nat→Value} {row:Row} {off:Nat} (hu:Lay P u l) (hk:l.ks=(l'.ks.drop off).take l.n) (ha:ad.spot=none)
 (h4:∀j,j<l'.n→S ad.block (ad.off+j)=some (f j)) (h5:∀j k,l'.ks[j]? =some k→gO P T S k (f j) (at_ row j)):
 gO P T S (.ref u) (.pointer (some ⟨ad.block,ad.off+off,none⟩)) (.dp (sub row off l.n)):=by
 have hlen:l.n≤l'.n - off:=by
  have:=congrArg List.length hk;simp[L.n]at this⊢;omega
 refine .ref (fun j=>f (off+j)) hu (aUz _ _ _) rfl (fun j hj=> ?_) (fun j k hj=> ?_)
 ·have:=h4 (off+j) (by omega)
  simpa[Nat.add_assoc]using this
 ·have hjl:j<l.n:=(List.getElem?_eq_some_iff.1 hj).1
  rw[a6n _ _ _ _ hjl]
  refine h5 (off+j) k ?_
  rw[hk]at hj
  simpa[List.getElem?_take,hjl]using hj
theorem bFS {off n:Nat} {t u:TypeId} {f:Nat} {l l':L} {ob:Obj} {av:AV} {no:Option Obj} (ho:o.op= .fieldAddr t x f) (hf:aUH P t f off n u=true) (hl:aF5 P t l'=true) (hl2:aF5 P u l=true)
 (hn:Nat.beq l.n n=true) (hk:aEN l.ks ((l'.ks.drop off).take l.n)=true) (hx:oA P T x ax=true) (oB:∀id,tJ (ax.ev F)=some id→St[id]? =some ob)
 (h:rG E F St ob (.fad off n t u ax) base cB=some (av,no)):no=none∧cE P o a w (bB P T S pl St w St av):=by
 have hv:=sC hs hx hF
 obtain rfl:=Nat.eq_of_beq_eq_true hn
 simp only[rG]at h
 split at h
 ·rename_i t' r e
  obtain ⟨hb,hB⟩:=lA h
  obtain rfl:=Nat.eq_of_beq_eq_true hb
  obtain ⟨hdp,hB⟩:=jD hB
  simp only[cB,Option.some.injEq,Prod.mk.injEq]at hB
  obtain ⟨rfl,rfl⟩:=hB
  rw[e]at hv
  obtain ⟨l0,ad,g,e1,h1,h2,h3,h4,h5⟩:=hv.a2h hdp
  obtain rfl:=h1.inj (aC hl)
  have had:ad=⟨ad.block,ad.off,none⟩:=by cases ad;simp at h3;subst h3;rfl
  refine ⟨rfl,mA (w':=w) (aHf ho ?_) (.same hs (.d ⟨_,rfl,a0e (aC hl2) (aEO hk) h3 h4 h5⟩))⟩
  rw[e1,had];exact aNk hf w _ _
 ·rename_i id p e
  have oB:=oB id (by rw[e];rfl)
  rw[e]at hv
  obtain ⟨hk2,hA⟩:=aLb h
  simp only[cB,Option.some.injEq,Prod.mk.injEq]at hA
  obtain ⟨rfl,rfl⟩:=hA
  have e1:=hv.aUI oB hk2
  refine ⟨rfl,mA (w':=w) (aHf ho ?_) (.same hs (.a2l oB hk2))⟩
  rw[e1];exact aNk hf w _ _
 ·rename_i id v i p e
  have oB:=oB id (by rw[e];rfl)
  rw[e]at hv
  obtain ⟨l0,c,rfl,hA⟩:=eE h
  simp only[cB,Option.some.injEq,Prod.mk.injEq]at hA
  obtain ⟨rfl,rfl⟩:=hA
  have e1:=hv.aP8 oB
  refine ⟨rfl,mA (w':=w) (aHf ho ?_) (.same hs (.aUa oB))⟩
  rw[e1,←Nat.add_assoc];exact aNk hf w _ _
 ·simp at h
omit hs hF in
theorem a6w {t:TypeId} {l l':L} {v:Value} {row:Row} {off:Nat} (hl:Lay P t l) (hn:0<l.n) (hv:cF P T S l' v row) (cs:Array Value) (hcs:v= .agg cs) (hk:l.ks=(l'.ks.drop off).take l.n) (w:World):
 ∃u,(Go.part t cs off).run P w= .ok u w∧cF P T S l u (sub row off l.n):=by
 have hr:=hv.cells
 rw[hcs]at hr
 have hs:=hr.sub l.ks off hk
 have hlen:off+l.n≤cs.size:=by
  have h1:=hr.mL;simp[Value.cells]at h1
  have:=congrArg List.length hk;simp[L.n]at this⊢;simp only[L.n]at hn;omega
 have hag:=hl.agg w
 cases l with
 |one k=>
  have hlt:off<cs.size:=by have:(L.one k).n=1:=rfl;omega
  refine ⟨cs[off], ?_, ?_⟩
  ·unfold Go.part
   rw[Sem.run_bind,hag]
   simp[hlt]
  ·have:=hs.cell 0 k rfl
   refine ⟨at_ (sub row off 1) 0,by simp[sub,L.n,L.ks,at_], ?_⟩
   simpa[List.getD_eq_getElem?_getD,hlt,L.ks,Value.cells]using this
 |agg ks=>
  refine ⟨.agg (cs.extract off (off+ks.length)), ?_,⟨_,rfl, ?_⟩⟩
  ·unfold Go.part
   rw[Sem.run_bind,hag]
   simp[hl.size w,L.n,L.ks]
  ·have e:(cs.extract off (off+ks.length)).toList=((Value.agg cs).cells.toList.drop off).take ks.length:=by
    simp[Value.cells]
   rw[e];exact hs
theorem bFT {t e:TypeId} {l:L} {ob:Obj} {av:AV} {no:Option Obj} (ho:o.op= .indexAddr t x y) (hel:aJ7 P t e l=true) (hn:Nat.blt 0 l.n=true) (hx:oA P T x ax=true) (hy:oA P T y ay=true)
 (oB:∀id,tJ (ax.ev F)=some id→St[id]? =some ob)
 (h:rG E F St ob (.iad e l ax ay) base cB=some (av,no)):no=none∧cE P o a w (bB P T S pl St w St av):=by
 have hv:=qA hs hx hF
 have hi:=qA hs hy hF
 obtain ⟨hu,hL⟩:=tO hel
 simp only[rG]at h
 obtain ⟨kd,ri,ei,hA⟩:=aG h
 rw[ei]at hi
 have hi:=hi.of_int
 generalize (at_ ri 0).uA=n at*
 clear h ei
 split at hA
 ·rename_i e' r ex
  obtain ⟨hb,hB⟩:=lA hA
  obtain rfl:=Nat.eq_of_beq_eq_true hb
  obtain ⟨hlt,hC⟩:=jD hB
  simp only[cB,Option.some.injEq,Prod.mk.injEq]at hC
  obtain ⟨rfl,rfl⟩:=hC
  rw[ex]at hv
  rcases hv.aOM with ⟨e1,e2⟩|⟨l',rows,ad,cap,f,e1,e2,h1,h2,h3,h4,h5,h6⟩
  ·rw[e2]at hlt;simp[C.rows]at hlt;omega
  ·obtain rfl:=h1.inj hL
   rw[e2]at hlt⊢
   simp only[C.rows]at hlt⊢
   have hnl:n.toNat<rows.length:=by omega
   have had:=h4 (by omega)
   refine ⟨trivial,mA (v:= .pointer (some ⟨ad.block,ad.off+n.toNat*l'.n,none⟩)) (w':=w) (vJ ho ?_) (.same hs (.d ⟨_,rfl, ?_⟩))⟩
   ·rw[e1,hi];exact aIj hel w ad had _ _ _ _ hlt.1 hlt.2
   ·refine .ref (fun j=>f n.toNat j) h1 (h3 _ ?_) rfl (fun j hj=>h5 _ _ hnl hj) (fun j k hj=>h6 _ _ _ hnl hj)
    simp[aA,List.getD_eq_getElem?_getD,hnl]
 ·rename_i id v ex
  have oB:=oB id (aD3 (by rw[ex];rfl))
  rw[ex]at hv
  obtain ⟨l',c,rfl,hB⟩:=eE hA
  obtain ⟨hb,hC⟩:=lA hB
  obtain rfl:=L.beq_eq hb
  obtain ⟨hlt,hD⟩:=jD hC
  simp only[cB,Option.some.injEq,Prod.mk.injEq]at hD
  obtain ⟨rfl,rfl⟩:=hD
  rcases hs.objs _ _ oB with rfl |⟨rows,cur,e2,i,rfl,hh,q1,q2,q3,q4,q5,q6,q7⟩
  ·simp[C.rows]at hlt;omega
  ·have e1:=(hv.bQ oB).2 rows rfl
   simp only[C.rows]at hlt
   refine ⟨rfl,mA (w':=w) (vJ ho ?_) (.same hs (.aUa oB))⟩
   rw[e1,hi]
   have:=aIj hel w ⟨pl.blk id,0,none⟩ rfl rows.length (pl.cap id) kd n hlt.1 hlt.2
   simpa using this
 ·rename_i id v off len ex
  have oB:=oB id (aD3 (by rw[ex];rfl))
  rw[ex]at hv
  obtain ⟨l',c,rfl,hB⟩:=eE hA
  obtain ⟨hb,hC⟩:=lA hB
  obtain rfl:=L.beq_eq hb
  obtain ⟨hlt,hD⟩:=jD hC
  simp only[cB,Option.some.injEq,Prod.mk.injEq]at hD
  obtain ⟨rfl,rfl⟩:=hD
  rcases hs.objs _ _ oB with rfl |⟨rows,cur,e2,i,rfl,hh,q1,q2,q3,q4,q5,q6,q7⟩
  ·exact (hv.aNl oB).elim
  ·obtain ⟨ad,cap,e1,h1,h2,h3⟩:=hv.a2k oB
   obtain rfl:=h3 (by omega)
   refine ⟨rfl,mA (w':=w) (vJ ho ?_) (.same hs (.aUa oB))⟩
   rw[e1,hi]
   have:=aIj hel w ⟨pl.blk id,off*l.n,none⟩ rfl len cap kd n hlt.1 hlt.2
   rw[this,Nat.add_mul,Nat.add_zero]
 ·rename_i id ex
  have oB:=oB id (aD3 (by rw[ex];rfl))
  rw[ex]at hv
  obtain ⟨l',c,i,av',rfl,hB⟩:=aLa hA
  obtain ⟨hb,hC⟩:=lA hB
  obtain rfl:=L.beq_eq hb
  obtain ⟨hlt,hD⟩:=jD hC
  simp only[cB,Option.some.injEq,Prod.mk.injEq]at hD
  obtain ⟨rfl,rfl⟩:=hD
  rcases hs.objs _ _ oB with rfl |⟨rows,cur,e2,inf,rfl,hh,q1,q2,q3,q4,q5,q6,q7,q8⟩
  ·simp[C.rows]at hlt;omega
  ·have e1:=(hv.aNm oB).2 rows rfl
   simp only[C.rows]at hlt
   refine ⟨rfl,mA (w':=w) (vJ ho ?_) (.same hs (.a9E oB))⟩
   rw[e1,hi]
   have:=aIj hel w ⟨pl.blk id,0,none⟩ rfl rows.length (pl.cap id) kd n hlt.1 hlt.2
   simpa using this
 ·simp at hA
theorem bDt {t e:TypeId} {ob:Obj} {av:AV} {no:Option Obj} (ho:o.op= .call {callee:= .builtin .len,args:=#[x],argTypes:=#[t]}) (ht:P.underlying t=some (.slice e)) (hx:oA P T x ax=true)
 (oB:∀id,tJ (ax.ev F)=some id→St[id]? =some ob)
 (h:rG E F St ob (.a17 ax) base cB=some (av,no)):no=none∧cE P o a w (bB P T S pl St w St av):=by
 have hv:=qA hs hx hF
 have key:∀(ad:Option Addr) (n c:Nat),a.eval x= .slice ad n c→(execOp a.eval o).run P w= .ok (.value (.int .i64 n)) w:=fun ad n c e=>by
  simp[execOp,ho,e,resolve,invoke,builtin,Builtin.len_,run_underlying ht,goInt]
 simp only[rG]at h
 split at h
 ·rename_i e' r ex
  simp only[cB,Option.some.injEq,Prod.mk.injEq]at h
  obtain ⟨rfl,rfl⟩:=h
  rw[ex]at hv
  rcases hv.aOM with ⟨e1,e2⟩|⟨l',rows,ad,cap,f,e1,e2,h1,h2,h3,h4,h5,h6⟩
  ·rw[e2];exact ⟨rfl,mA (key _ _ _ e1) (.same hs (aNa _ _))⟩
  ·rw[e2];exact ⟨rfl,mA (key _ _ _ e1) (.same hs (aNa _ _))⟩
 ·rename_i id v ex
  have oB:=oB id (aD3 (by rw[ex];rfl))
  rw[ex]at hv
  obtain ⟨l',c,rfl,hB⟩:=eE h
  simp only[cB,Option.some.injEq,Prod.mk.injEq]at hB
  obtain ⟨rfl,rfl⟩:=hB
  rcases hs.objs _ _ oB with rfl |⟨rows,cur,e2,i,rfl,hh,q1,q2,q3,q4,q5,q6,q7⟩
  ·exact ⟨rfl,mA (key _ _ _ ((hv.bQ oB).1 rfl)) (.same hs (aNa _ _))⟩
  ·exact ⟨rfl,mA (key _ _ _ ((hv.bQ oB).2 rows rfl)) (.same hs (aNa _ _))⟩
 ·rename_i id v off len ex
  have oB:=oB id (aD3 (by rw[ex];rfl))
  rw[ex]at hv
  obtain ⟨l',c,rfl,hB⟩:=eE h
  simp only[cB,Option.some.injEq,Prod.mk.injEq]at hB
  obtain ⟨rfl,rfl⟩:=hB
  rcases hs.objs _ _ oB with rfl |⟨rows,cur,e2,i,rfl,hh,q1,q2,q3,q4,q5,q6,q7⟩
  ·exact (hv.aNl oB).elim
  ·obtain ⟨ad,cap,e1,h1,h2,h3⟩:=hv.a2k oB
   exact ⟨rfl,mA (key _ _ _ e1) (.same hs (aNa _ _))⟩
 ·rename_i id ex
  have oB:=oB id (aD3 (by rw[ex];rfl))
  rw[ex]at hv
  obtain ⟨l',c,i,av',rfl,hB⟩:=aLa h
  simp only[cB,Option.some.injEq,Prod.mk.injEq]at hB
  obtain ⟨rfl,rfl⟩:=hB
  rcases hs.objs _ _ oB with rfl |⟨rows,cur,e2,inf,rfl,_⟩
  ·exact ⟨rfl,mA (key _ _ _ ((hv.aNm oB).1 rfl)) (.same hs (aNa _ _))⟩
  ·exact ⟨rfl,mA (key _ _ _ ((hv.aNm oB).2 rows rfl)) (.same hs (aNa _ _))⟩
 ·simp at h
theorem bDu {t:TypeId} {ob:Obj} {av:AV} {no:Option Obj} (ho:o.op= .index t x y) (ht:P.underlying t=some .string) (hx:oA P T x ax=true) (hy:oA P T y ay=true)
 (h:rG E F St ob (.a4M ax ay) base cB=some (av,no)):no=none∧cE P o a w (bB P T S pl St w St av):=by
 simp only[rG]at h
 obtain ⟨kd,ri,ei,hA⟩:=aG h
 obtain ⟨rs,es,hB⟩:=jT hA
 obtain ⟨hlt,hC⟩:=jD hB
 have hi:=qA hs hy hF;rw[ei]at hi;have hi:=hi.of_int
 have hv:=qA hs hx hF;rw[es]at hv;obtain ⟨b,e1,q1⟩:=hv.aFm
 rw[←q1]at hlt hC
 generalize (at_ ri 0).uA=n at*
 simp only[cB,Option.some.injEq,Prod.mk.injEq]at hC
 obtain ⟨rfl,rfl⟩:=hC
 rw[bsize]at hlt
 have hnl:n.toNat<b.size:=by omega
 refine ⟨rfl,mA (w':=w) ?_ (.same hs (aNa _ _))⟩
 have hg:b[n.toNat]? =some b[n.toNat]:=by simp[hnl]
 have hd:b.data.toList.getD n.toNat 0=b[n.toNat]:=by
  have h1:n.toNat<b.data.toList.length:=by rw[bsize];exact hnl
  rw[List.getD_eq_getElem?_getD,List.getElem?_eq_getElem h1];rfl
 simp only[execOp,ho,e1,hi]
 refine qW ?_
 rw[hd]
 simp[Instr.index,asIntOf,run_underlying ht,hlt.1,hg]
end
end Go.Ev
namespace Go.Ev
variable {E:Env} {P:Program} {T:Nat→yF} {S S':yA} {pl wD:Pl} {St dD:Ev.St} {F:Fr} {a:Act} {w w':World}
theorem aRD (vs:List Value):∀(off k:Nat) (cells:Array Value),off+k+vs.length≤cells.size→
 ((vs.zipIdx k).foldl (fun cs (x:Value×Nat)=>cs.setIfInBounds (off+x.2) x.1) cells).toList=cells.toList.take (off+k)++vs++cells.toList.drop (off+k+vs.length):=by
 induction vs with
 |nil=>intro off k cells h;simp
 |cons v vs ih=>
  intro off k cells h
  simp only[List.zipIdx_cons,List.foldl_cons,List.length_cons]at h⊢
  rw[ih off (k+1) _ (by simp;omega)]
  have:=list_seg_step cells.toList (off+k) v vs (by simp;omega)
  simp only[Array.toList_setIfInBounds]
  have e:off+(k+1)=off+k+1:=by omega
  rw[e]
  have e2:off+k+1+vs.length=off+k+(vs.length+1):=by omega
  simpa[e2,Nat.add_assoc]using this
theorem aRE {place:Nat→Option (Nat×Nat)} {cells:Array Value} {i off n:Nat} {v:Value} {rest:List (Nat×Value)} (hp:place i=some (off,n)) (hv:v.cells.size=n) (hfit:off+n≤cells.size):
 Instr.fill place cells ((i,v)::rest)=Instr.fill place (cells.toList.take off++v.cells.toList++cells.toList.drop (off+n)).toArray rest:=by
 have hl:v.cells.toList.length=n:=by simpa using hv
 have h:=aRD v.cells.toList off 0 cells (by rw[hl];omega)
 have hn:¬(v.cells.size≠n∨off+v.cells.size>cells.size):=by omega
 simp only[Instr.fill,hp]
 rw[if_neg (by simpa using hn)]
 congr 1
 apply Array.ext'
 rw[hl]at h
 simp only[Nat.add_zero]at h
 rw[←h,←Array.foldl_toList,Array.toList_zipIdx]
def wR (P:Program) (T:Nat→yF) (place:Nat→Option (Nat×Nat)):List (Nat×Operand)→List (Nat×Nat×rD)→Bool
 |[],[]=>true
 |(i,x)::r,(off,m,ax)::r'=>(match place i with |some (off',m')=>Nat.beq off off'&&Nat.beq m m' |none=>false)&&oA P T x ax&&wR P T place r r'
 |_,_=>false
theorem aMD {A:Type} {place:Nat→Option (Nat×Nat)} {l:L} {k:Row→Option A} {res:A} (hs:mW P T S pl St w) (hF:wX P T S pl St F a.tmps):
 ∀(parts:List (Nat×Operand)) (mC:List (Nat×Nat×rD)) (cells:Array Value) (z:Row),wR P T place parts mC=true→yC P T S l.ks cells.toList z→
  zT F St l.ks mC z k=some res→∃cells' row,Instr.fill place cells (parts.map fun p=>(p.1,a.eval p.2))=some cells'∧yC P T S l.ks cells'.toList row∧k row=some res
 |[],[],cells,z,_,hr,h=>⟨cells,z,rfl,hr,h⟩
 |[],_::_,_,_,h,_,_=>by simp[wR]at h
 |_::_,[],_,_,h,_,_=>by simp[wR]at h
 |(i,x)::r,(off,m,ax)::r',cells,z,hp,hr,h=>by
  simp only[wR,Bool.and_eq_true]at hp
  obtain ⟨⟨hp1,hp2⟩,hp3⟩:=hp
  split at hp1
  ·rename_i off' m' hpl
   simp only[Bool.and_eq_true]at hp1
   obtain rfl:=Nat.eq_of_beq_eq_true hp1.1
   obtain rfl:=Nat.eq_of_beq_eq_true hp1.2
   simp only[zT]at h
   obtain ⟨lv,row,ex,hA⟩:=zM h
   obtain ⟨hb,hB⟩:=lA hA
   simp only[Bool.and_eq_true]at hb
   have hm:=Nat.eq_of_beq_eq_true hb.1.1
   have hpos:0<m:=by simpa using hb.1.2
   have hk:=aEO hb.2
   subst hm
   have hv:=qA hs hp2 hF;rw[ex]at hv
   have hrow:=hv.aBR.cells
   have hsz:(a.eval x).cells.size=lv.n:=by have:=hrow.mL;simpa[L.n]using this
   have hlen:off+lv.n≤l.n:=by
    have:=congrArg List.length hk;simp[L.n]at this⊢;simp only[L.n]at hpos;omega
   have hcl:cells.size=l.n:=by have:=hr.mL;simpa[L.n]using this
   have hput:=hr.put hrow hk hpos
   have hst:=aRE (cells:=cells) (rest:=r.map fun p=>(p.1,a.eval p.2)) hpl hsz (by omega)
   obtain ⟨cells',row',g1,g2,g3⟩:=aMD hs hF r r' (cells.toList.take off++(a.eval x).cells.toList++cells.toList.drop (off+lv.n)).toArray _ hp3 hput hB
   exact ⟨cells',row',by rw[List.map_cons,hst];exact g1,g2,g3⟩
  ·simp at hp1
def bDw (P:Program) (T:Nat→yF) (t:TypeId) (l:L) (z:Row) (parts:List (Nat×Operand)) (mC:List (Nat×Nat×rD)):Bool:=
 match P.info? t,P.underlying t with
 |some it,some (.array _ e)=>(match it.zero,P.info? e with
  |some zv,some ie=>aAt l zv z&&wR P T (fun i=>some (i*ie.size,ie.size)) parts mC
  |_,_=>false)
 |some it,some (.struct fields)=>(match it.zero,fields.toList.mapM (fun f=>(P.info? f.type).map fun i=>(f.offset,i.size))with
  |some zv,some places=>aAt l zv z&&wR P T (places.toArray[·]?) parts mC
  |_,_=>false)
 |_,_=>false
section
variable {o:Oper} {x y c:Operand} {ax ay ac:rD} {base:Nat}
variable (hs:mW P T S pl St w) (hF:wX P T S pl St F a.tmps)
include hs hF
theorem bFV {t:TypeId} {l:L} {z:Row} {parts:Array (Nat×Operand)} {mC:List (Nat×Nat×rD)} {ob:Obj} {av:AV} {no:Option Obj} (ho:o.op= .build t parts) (hl:(match l with | .agg _=>true | .one _=>false)=true)
 (hb:bDw P T t l z parts.toList mC=true)
 (h:rG E F St ob (.bld l z mC) base cB=some (av,no)):no=none∧cE P o a w (bB P T S pl St w St av):=by
 simp only[rG]at h
 have fin:∀(place:Nat→Option (Nat×Nat)) (zv:Value),aAt l zv z=true→wR P T place parts.toList mC=true→
  ∃cells row,Instr.fill place zv.cells (parts.toList.map fun p=>(p.1,a.eval p.2))=some cells∧cF P T S l (.agg cells) row∧cB (.d l row) none=some (av,no):=by
  intro place zv hc hp
  obtain ⟨cells,row,g1,g2,g3⟩:=aMD hs hF _ _ zv.cells z hp (pM hc).cells h
  cases l with
  |one k=>simp at hl
  |agg ks=>exact ⟨cells,row,g1,⟨cells,rfl,g2⟩,g3⟩
 have done:∀(cells:Array Value) (row:Row),P.built t (parts.toList.map fun p=>(p.1,a.eval p.2))=some cells→cF P T S l (.agg cells) row→cB (.d l row) none=some (av,no)→
  no=none∧cE P o a w (bB P T S pl St w St av):=by
  intro cells row hbu hr he
  simp only[cB,Option.some.injEq,Prod.mk.injEq]at he
  obtain ⟨rfl,rfl⟩:=he
  refine ⟨rfl,mA (v:= .agg cells) (w':=w) ?_ (.same hs (.d hr))⟩
  simp only[execOp,ho]
  refine qW (run_build w t _ cells ?_)
  simpa using hbu
 unfold bDw at hb
 split at hb
 ·rename_i it e hi hu
  split at hb
  ·rename_i zv ie hz hie
   simp only[Bool.and_eq_true]at hb
   obtain ⟨cells,row,g1,g2,g3⟩:=fin _ _ hb.1 hb.2
   exact done cells row (by simp[Program.built,hi,hu,hz,hie];simpa using g1) g2 g3
  ·simp at hb
 ·rename_i it fields hi hu
  split at hb
  ·rename_i zv places hz hpl
   simp only[Bool.and_eq_true]at hb
   obtain ⟨cells,row,g1,g2,g3⟩:=fin _ _ hb.1 hb.2
   exact done cells row (by simp only[Program.built,hi,hu,hz,hpl];simpa using g1) g2 g3
  ·simp at hb
 ·simp at hb
end
end Go.Ev
namespace Go.Ev
variable {E:Env} {P:Program} {T:Nat→yF} {S S':yA} {pl wD:Pl} {St dD:Ev.St} {F:Fr} {a:Act} {w w':World}
structure rC (P:Program) (T:Nat→yF) (S:yA) (l:L) (cells:List Value) (rows:List Row):Prop where
 len:rows.length*l.n≤cells.length
 row:∀i r,rows[i]? =some r→yC P T S l.ks ((cells.drop (i*l.n)).take l.n) r
theorem rC.set {l:L} {cells news:List Value} {rows:List Row} {i:Nat} {row:Row} (h:rC P T S l cells rows) (hi:i<rows.length) (hr:yC P T S l.ks news row):
 rC P T S l (cells.take (i*l.n)++news++cells.drop (i*l.n+l.n)) (rows.set i row):=by
 have hn:news.length=l.n:=hr.mL
 have hle:=Nat.mul_le_mul_right l.n (show i+1≤rows.length from hi)
 have aWa:(i+1)*l.n=i*l.n+l.n:=Nat.succ_mul _ _
 have hlen:=h.len
 refine ⟨by simp[hn];omega,fun j r hj=> ?_⟩
 by_cases hji:j=i
 ·subst hji
  simp[hi]at hj;subst hj
  have:=aSJ cells news (j*l.n) 0 l.n l.n hn (by omega) (by omega)
  simp only[Nat.add_zero,List.take_zero,List.nil_append,Nat.zero_add]at this
  rw[this,List.drop_eq_nil_of_le (by simp;omega),List.append_nil]
  exact hr
 ·rw[List.getElem?_set_ne (Ne.symm hji)]at hj
  rw[aQf cells news (i*l.n) l.n (j*l.n) l.n hn (by omega)]
  ·exact h.row j r hj
  ·rcases Nat.lt_or_gt_of_ne hji with h1 |h1
   ·left
    have:=Nat.mul_le_mul_right l.n (show j+1≤i from h1)
    have e:(j+1)*l.n=j*l.n+l.n:=Nat.succ_mul _ _
    omega
   ·right
    have:=Nat.mul_le_mul_right l.n (show i+1≤j from h1)
    omega
theorem rC.mono (hS:S.le S') {l:L} {cells:List Value} {rows:List Row} (h:rC P T S l cells rows):rC P T S' l cells rows:=⟨h.len,fun i r hi=>(h.row i r hi).mono hS⟩
theorem rC.rep {l:L} {cells:List Value} {rows:List Row} {e:TypeId} {b o cap:Nat} (h:rC P T S l cells rows) (hl:Lay P e l) (hcap:rows.length≤cap)
 (hS:∀p,p<rows.length*l.n→S b (o+p)=some (cells.getD p undef)):gO P T S (.sl e) (.slice (some ⟨b,o,none⟩) rows.length cap) (.sl rows):=by
 refine .sl (fun i j=>cells.getD (i*l.n+j) undef) hl rfl hcap (fun r hr=> ?_) (fun _=>rfl) (fun i j hi hj=> ?_) (fun i j k hi hk=> ?_)
 ·obtain ⟨i,hi,rfl⟩:=List.getElem_of_mem hr
  exact (h.row i _ (List.getElem?_eq_getElem hi)).aBQ
 ·have hle:=Nat.mul_le_mul_right l.n (show i+1≤rows.length from hi)
  have aWa:(i+1)*l.n=i*l.n+l.n:=Nat.succ_mul _ _
  have:=hS (i*l.n+j) (by omega)
  simpa[Nat.add_assoc]using this
 ·have hrow:rows[i]? =some (aA rows i):=by simp[aA,List.getD_eq_getElem?_getD,hi]
  have:=(h.row i _ hrow).cell j k hk
  have hj:j<l.n:=(List.getElem?_eq_some_iff.1 hk).1
  have e:((cells.drop (i*l.n)).take l.n).getD j undef=cells.getD (i*l.n+j) undef:=by
   simp[List.getD_eq_getElem?_getD,hj]
  rw[e]at this;exact this
def oL (P:Program) (T:Nat→yF) (n:Nat):List (Nat×Operand)→List (Nat×rD)→Bool
 |[],[]=>true
 |(i,x)::r,(i',ax)::r'=>Nat.beq i i'&&Nat.blt i n&&oA P T x ax&&oL P T n r r'
 |_,_=>false
theorem aB7 {A:Type} {l:L} {k:List Row→Option A} {res:A} (hs:mW P T S pl St w) (hF:wX P T S pl St F a.tmps):
 ∀(parts:List (Nat×Operand)) (mC:List (Nat×rD)) (cells:Array Value) (rows:List Row),oL P T rows.length parts mC=true→rC P T S l cells.toList rows→
  iT F St l mC rows k=some res→∃cells' qP,Instr.fill (fun i=>some (i*l.n,l.n)) cells (parts.map fun p=>(p.1,a.eval p.2))=some cells'∧rC P T S l cells'.toList qP∧qP.length=rows.length∧cells'.size=cells.size∧k qP=some res
 |[],[],cells,z,_,hr,h=>⟨cells,z,rfl,hr,rfl,rfl,h⟩
 |[],_::_,_,_,h,_,_=>by simp[oL]at h
 |_::_,[],_,_,h,_,_=>by simp[oL]at h
 |(i,x)::r,(i',ax)::r',cells,rows,hp,hr,h=>by
  simp only[oL,Bool.and_eq_true]at hp
  obtain ⟨⟨⟨hp0,hp1⟩,hp2⟩,hp3⟩:=hp
  obtain rfl:=Nat.eq_of_beq_eq_true hp0
  have hi:i<rows.length:=by simpa using hp1
  simp only[iT]at h
  obtain ⟨lv,row,ex,hA⟩:=zM h
  obtain ⟨hb,hB⟩:=lA hA
  obtain rfl:=L.beq_eq hb
  have hv:=qA hs hp2 hF;rw[ex]at hv
  have hrow:=hv.aBR.cells
  have hsz:(a.eval x).cells.size=l.n:=by have:=hrow.mL;simpa[L.n]using this
  have hle:=Nat.mul_le_mul_right l.n (show i+1≤rows.length from hi)
  have aWa:(i+1)*l.n=i*l.n+l.n:=Nat.succ_mul _ _
  have hlen:=hr.len
  have hcs:cells.toList.length=cells.size:=Array.length_toList
  have hst:=aRE (cells:=cells) (place:=fun i=>some (i*l.n,l.n)) (rest:=r.map fun p=>(p.1,a.eval p.2)) (i:=i) rfl hsz (by omega)
  obtain ⟨cells',qP,g1,g2,g3,g4,g5⟩:=aB7 hs hF r r' (cells.toList.take (i*l.n)++(a.eval x).cells.toList++cells.toList.drop (i*l.n+l.n)).toArray (rows.set i row) (by simpa using hp3) (hr.set hi hrow) hB
  refine ⟨cells',qP,by rw[List.map_cons,hst];exact g1,g2,by simpa using g3, ?_,g5⟩
  rw[g4];simp[hsz];omega
theorem yU {l:L} {zv:Array Value} {z:Row} (hz:yC P T S l.ks zv.toList z) (hn:0<l.n) (m:Nat):
 rC P T S l ((Array.range (m*l.n)).map fun i=>zv[i % zv.size]!).toList (List.replicate m z):=by
 have hzs:zv.size=l.n:=by have:=hz.mL;simpa[L.n]using this
 refine ⟨by simp,fun i r hi=> ?_⟩
 have him:i<m:=by have:=(List.getElem?_eq_some_iff.1 hi).1;simpa using this
 have hr:r=z:=by have:=(List.getElem?_eq_some_iff.1 hi).2;simpa using this.symm
 subst hr
 have e:((((Array.range (m*l.n)).map fun i=>zv[i % zv.size]!).toList.drop (i*l.n)).take l.n)=zv.toList:=by
  apply List.ext_getElem?
  intro j
  have hle:=Nat.mul_le_mul_right l.n (show i+1≤m from him)
  have aWa:(i+1)*l.n=i*l.n+l.n:=Nat.succ_mul _ _
  by_cases hj:j<l.n
  ·have h1:i*l.n+j<m*l.n:=by omega
   have h2:(i*l.n+j)% zv.size=j:=by rw[hzs,Nat.mul_comm,Nat.mul_add_mod];exact Nat.mod_eq_of_lt hj
   have h3:j<zv.size:=by omega
   simp only[Array.toList_map,Array.toList_range,List.getElem?_take,hj,if_true,List.getElem?_drop,List.getElem?_map,List.getElem?_range h1,Option.map_some]
   rw[h2]
   simp[h3]
  ·simp[List.getElem?_take,hj,hzs]
 rw[e];exact hz
def aYJ (P:Program) (T:Nat→yF) (t e:TypeId) (l:L) (n:Nat) (z:Row) (parts:List (Nat×Operand)) (mC:List (Nat×rD)):Bool:=
 aJ7 P t e l&&Nat.blt 0 l.n&&Nat.ble (n*l.n) 16777216&&oL P T n parts mC&&
 (match P.info? e with |some i=>(match i.zero with |some zv=>aAt l zv z |none=>false)|none=>false)
section
variable {o:Oper} {x y c:Operand} {ax ay ac:rD} {base:Nat}
variable (hs:mW P T S pl St w) (hF:wX P T S pl St F a.tmps)
include hs hF
theorem bFW {t e:TypeId} {l:L} {n:Nat} {z:Row} {parts:Array (Nat×Operand)} {mC:List (Nat×rD)} {ob:Obj} {av:AV} {no:Option Obj} (ho:o.op= .buildSlice t n parts)
 (hb:aYJ P T t e l n z parts.toList mC=true)
 (h:rG E F St ob (.bsl e l n z mC) base cB=some (av,no)):no=none∧cE P o a w (bB P T S pl St w St av):=by
 simp only[aYJ,Bool.and_eq_true]at hb
 obtain ⟨⟨⟨⟨h1,h2⟩,h3⟩,h4⟩,h5⟩:=hb
 obtain ⟨hu,hL⟩:=tO h1
 have hp:0<l.n:=by simpa using h2
 have h3:n*l.n≤16777216:=by simpa using h3
 split at h5
 ·rename_i i hi
  split at h5
  ·rename_i zv hz
   obtain ⟨i',hi',hsz⟩:=hL.2
   rw[hi]at hi';obtain rfl:=Option.some.inj hi'
   simp only[rG]at h
   have hzr:=(pM (P:=P) (T:=T) (S:=S) h5).cells
   obtain ⟨cells,rows,g1,g2,g3,g4,g5⟩:=aB7 hs hF parts.toList mC _ _ (by simpa using h4) (yU hzr hp n) h
   simp only[cB,Option.some.injEq,Prod.mk.injEq]at g5
   obtain ⟨rfl,rfl⟩:=g5
   have g3:rows.length=n:=by simpa using g3
   have g4:cells.size=n*l.n:=by simpa using g4
   refine ⟨rfl,mA (v:= .slice (some ⟨w.heap.size,0,none⟩) n n) (w':=w.alloc (.cells cells e)) ?_ ?_⟩
   ·simp only[execOp,ho]
    refine qW ?_
    have a6x:¬(n*l.n>16777216):=by omega
    by_cases hnz:n*l.n=0
    ·have hn0:n=0:=by
      rcases Nat.mul_eq_zero.1 hnz with h |h
      ·exact h
      ·omega
     subst hn0
     have hpn:parts.toList=[]:=by
      cases hpl:parts.toList with
      |nil=>rfl
      |cons q qs=>
       rw[hpl]at h4
       cases mC with
       |nil=>simp[oL]at h4
       |cons q' qs'=>simp[oL]at h4
     have hpa:parts=#[]:=by cases parts;simp at hpn;subst hpn;rfl
     subst hpa
     have:cells=#[]:=by apply Array.eq_empty_of_size_eq_zero;simpa using g4
     subst this
     simp[Instr.buildSlice,run_underlying hu,sizeOf,typeInfo,hi,hsz,Instr.fill,newRow,Array.range_zero']
    ·have g1':Instr.fill (fun i=>some (i*l.n,l.n)) ((Array.range (n*l.n)).map fun i=>zv.cells[i % zv.cells.size]!) (parts.toList.map fun p=>(p.1,a.eval p.2))=some cells:=g1
     simp only[Instr.buildSlice,Sem.run_bind,run_underlying hu,sizeOf,typeInfo,run_program,hi,hsz,Result.andThen_ok,Sem.run_pure,zeroValue,hz]
     rw[if_neg (by simpa using a6x)]
     simp only[Sem.run_pure,Result.andThen_ok,hnz,if_false,Sem.run_bind,typeInfo,run_program,hi,hz]
     have e1:(parts.map fun (x:Nat×Operand)=>(x.1,a.eval x.2)).toList=parts.toList.map fun p=>(p.1,a.eval p.2):=by simp
     rw[e1,g1']
     simp[newRow]
   ·refine aK0 hs ⟨rfl,rfl,rfl⟩ (fun k hk=>Go.RowKit.Below.heap_alloc w _ k hk) (by simp) (heap_alloc_new w _) (n*l.n) ?_
    have hle:S.le (S.more w.heap.size (cells.toList.take (n*l.n))):=yA.aT7 fun q=>by
     cases hS:S w.heap.size q with
     |none=>rfl
     |some v=>exact absurd (hs.aD4 hS) (by omega)
    have aF7:=(g2.mono hle).rep (b:=w.heap.size) (o:=0) (cap:=n) hL (by omega) (fun p hp=> ?_)
    ·rw[g3]at aF7;exact .d ⟨_,rfl,aF7⟩
    ·rw[g3]at hp
     simp only[yA.more,if_true,Nat.zero_add]
     rw[List.getElem?_take,if_pos hp]
     have:p<cells.toList.length:=by simpa[g4]using hp
     simp[List.getD_eq_getElem?_getD,List.getElem?_eq_getElem this]
  ·simp at h5
 ·simp at h5
end
end Go.Ev
