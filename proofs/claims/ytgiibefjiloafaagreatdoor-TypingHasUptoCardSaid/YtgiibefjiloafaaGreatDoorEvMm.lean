/-
  Maps with plain keys: the operations on maps of one's own.
-/
import Derived.Test.YtgiibefjiloafaaGreatDoorEvMa
import Derived.Test.YtgiibefjiloafaaGreatDoorEvMk
import Derived.MapKept
import Derived.Laws.CopyRow
set_option linter.all false
set_option maxRecDepth 100000
namespace Go.Ev
variable {E:Env} {P:Program} {T:Nat→AFn} {S S':Stab} {pl pl':Pl} {St St':Ev.St} {F:Fr} {a:Act} {w w':World}
def keyB (P:Program) (kt:TypeId) (kl:L):Bool:=match P.underlying kt,kl with
 |some (.int k), .one (.int k')=>Nat.beq (IntKind.tag k) (IntKind.tag k')
 |some .string, .one .str=>true
 |some .bool, .one .bool=>true
 |_,_=>false
theorem key_same {kt:TypeId} {kl:L} {d:TypeDesc} (hB:keyB P kt kl=true) (hd:P.underlying kt=some d) {u v:Value} {r s:Row} (hu:RepL P T S kl u r) (hv:RepL P T S kl v s):
 Instr.sameNow d u v=some (ceq kl.ks r s)∧(ceq kl.ks r s=true→u=v∧r=s):=by
 unfold keyB at hB
 rw[hd]at hB
 cases d<;>cases kl<;>(try simp only[Bool.false_eq_true]at hB)
 all_goals (rename_i k;cases k<;>(try simp only[Bool.false_eq_true]at hB))
 all_goals
  obtain ⟨c1,rfl,h1⟩:=hu
  obtain ⟨c2,rfl,h2⟩:=hv
  cases h1
  cases h2
  simp only[Instr.sameNow,L.ks,ceq,at_,List.getD_cons_zero,C.toI,C.toB,C.toS,Bool.and_true,if_true]
 ·refine ⟨by first |rfl |trivial,fun h=> ?_⟩
  simp_all
 ·refine ⟨by first |rfl |trivial,fun h=> ?_⟩
  simp_all
 ·rename_i b1 b2
  have e:(b1==b2)=(b1.data.toList==b2.data.toList):=by
   rw[Bool.eq_iff_iff,MapKept.bytes_beq,beq_iff_eq]
   constructor
   ·intro h;rw[h]
   ·intro h
    cases b1;cases b2
    simp only[ByteArray.mk.injEq]
    exact Array.toList_inj.1 h
  refine ⟨by rw[e],fun h=> ?_⟩
  rw[←e,MapKept.bytes_beq]at h
  subst h
  exact ⟨rfl,rfl⟩
theorem key_is {kt:TypeId} {kl:L} {d:TypeDesc} (hB:keyB P kt kl=true) (hd:P.underlying kt=some d) {u:Value} {r:Row} (hu:RepL P T S kl u r):MapKept.IsKey d u:=by
 unfold keyB at hB
 rw[hd]at hB
 cases d<;>cases kl<;>(try simp only[Bool.false_eq_true]at hB)
 all_goals (rename_i k;cases k<;>(try simp only[Bool.false_eq_true]at hB))
 all_goals
  obtain ⟨c1,rfl,h1⟩:=hu
  cases h1
  simp only[MapKept.IsKey]
 exact (tag_inj hB).symm
def EntsOk (P:Program) (T:Nat→AFn) (S:Stab) (kl vl:L) (es:List (Row×Row)) (ens:List MapEntry):Prop:=
 ens.length=es.length∧∀(i:Nat) (k v:Row),es[i]? =some (k,v)→∃en:MapEntry,ens[i]? =some en∧RepL P T S kl en.key k∧RepL P T S vl en.val v
theorem EntsOk.tail {kl vl:L} {e:Row×Row} {es:List (Row×Row)} {en:MapEntry} {ens:List MapEntry} (h:EntsOk P T S kl vl (e::es) (en::ens)):EntsOk P T S kl vl es ens:=
 ⟨by simpa using h.1,fun i k v hi=>by simpa using h.2 (i+1) k v (by simpa using hi)⟩
theorem EntsOk.head {kl vl:L} {k v:Row} {es:List (Row×Row)} {en:MapEntry} {ens:List MapEntry} (h:EntsOk P T S kl vl ((k,v)::es) (en::ens)):RepL P T S kl en.key k∧RepL P T S vl en.val v:=by
 obtain ⟨en',h1,h2,h3⟩:=h.2 0 k v rfl
 simp only[List.getElem?_cons_zero,Option.some.injEq]at h1
 subst h1
 exact ⟨h2,h3⟩
theorem find_now {kt:TypeId} {kl vl:L} {d:TypeDesc} (hB:keyB P kt kl=true) (hd:P.underlying kt=some d) {kv:Value} {kr:Row} (hk:RepL P T S kl kv kr):
 ∀(es:List (Row×Row)) (ens:List MapEntry) (i0:Nat),EntsOk P T S kl vl es ens→
  (findE kl kr es=none∧Instr.findNow d kv ens i0=some none∧(∀vr,setE kl kr vr es=es++[(kr,vr)])∧idxE kl kr es=es.length)∨
  ∃j en v,ens[j]? =some en∧findE kl kr es=some v∧Instr.findNow d kv ens i0=some (some (i0+j,en.val))∧RepL P T S vl en.val v∧en.key=kv∧
   (∀vr,setE kl kr vr es=es.set j (kr,vr))∧idxE kl kr es=j
 |[],[],i0,h=> .inl ⟨rfl,rfl,fun _=>rfl,rfl⟩
 |[],_::_,_,h=>by have:=h.1;simp at this
 |_::_,[],_,h=>by have:=h.1;simp at this
 |(k,v)::es,en::ens,i0,h=>by
  obtain ⟨hk1,hv1⟩:=h.head
  obtain ⟨s1,s2⟩:=key_same hB hd hk hk1
  cases hc:ceq kl.ks kr k with
  |true=>
   obtain ⟨e1,e2⟩:=s2 hc
   refine .inr ⟨0,en,v,rfl,by simp[findE,hc], ?_,hv1,e1.symm,fun vr=>by rw[show setE kl kr vr ((k,v)::es)=(k,vr)::es by simp[setE,hc],e2];rfl,by simp[idxE,hc]⟩
   simp[Instr.findNow,s1,hc]
  |false=>
   rcases find_now hB hd hk es ens (i0+1) h.tail with ⟨f1,f2,f3,f4⟩|⟨j,en',v',f1,f2,f3,f4,f5,f6,f7⟩
   ·refine .inl ⟨by simp[findE,hc,f1],by simp[Instr.findNow,s1,hc,f2],fun vr=>by simp[setE,hc,f3],by simp[idxE,hc,f4]⟩
   ·refine .inr ⟨j+1,en',v',by simpa using f1,by simp[findE,hc,f2], ?_,f4,f5,fun vr=>by simp[setE,hc,f6],by simp[idxE,hc,f7]⟩
    simp only[Instr.findNow,s1,hc,f3,Option.some.injEq,Prod.mk.injEq,and_true]
    omega
def keyAny (P:Program) (kt:TypeId) (kl:L):Bool:=keyB P kt kl ||wideB P kt kl
theorem key_und {kt:TypeId} {kl:L} (hB:keyB P kt kl=true):∃d,P.underlying kt=some d:=by
 unfold keyB at hB
 cases hd:P.underlying kt with
 |none=>simp[hd]at hB
 |some d=>exact ⟨d,rfl⟩
theorem key_check {kt:TypeId} {kl:L} {u:Value} {r:Row} (hB:keyAny P kt kl=true) (hu:RepL P T S kl u r) (em:Bool):(Instr.checkKey em 10000 kt u).run P w= .ok () w:=by
 rcases Bool.or_eq_true _ _▸hB with h |h
 ·obtain ⟨d,hd⟩:=key_und h
  exact MapKept.run_checkKey (P:=P) (w:=w) hd (key_is h hd hu) em 9999
 ·exact wide_check em h hu
theorem find_ask {kt:TypeId} {kl vl:L} (hB:wideB P kt kl=true) {kv:Value} {kr:Row} (hk:RepL P T S kl kv kr):
 ∀(es:List (Row×Row)) (ens:List MapEntry) (i0:Nat),EntsOk P T S kl vl es ens→
  (findE kl kr es=none∧(Instr.findAsking kt kv ens i0).run P w= .ok none w∧(∀vr,setE kl kr vr es=es++[(kr,vr)])∧idxE kl kr es=es.length)∨
  ∃j en v,ens[j]? =some en∧findE kl kr es=some v∧(Instr.findAsking kt kv ens i0).run P w= .ok (some (i0+j,en.val)) w∧RepL P T S vl en.val v∧en.key=kv∧
   (∀vr,setE kl kr vr es=es.set j (kr,vr))∧idxE kl kr es=j
 |[],[],i0,h=> .inl ⟨rfl,by simp[Instr.findAsking],fun _=>rfl,rfl⟩
 |[],_::_,_,h=>by have:=h.1;simp at this
 |_::_,[],_,h=>by have:=h.1;simp at this
 |(k,v)::es,en::ens,i0,h=>by
  obtain ⟨hk1,hv1⟩:=h.head
  have s1:(Op.equal kt kv en.key).run P w= .ok (ceq kl.ks kr k) w:=wide_equal hB hk hk1
  cases hc:ceq kl.ks kr k with
  |true=>
   have e12:kv=en.key∧kr=k:=by
    have hpl:=wide_plain hB
    have:(∃ks,kl= .agg ks):=by
     unfold wideB at hB
     split at hB
     ·exact ⟨_,rfl⟩
     ·exact ⟨_,rfl⟩
     ·simp at hB
    obtain ⟨ks,rfl⟩:=this
    obtain ⟨cs,rfl,g1⟩:=hk
    obtain ⟨ds,e,g2⟩:=hk1
    obtain ⟨q1,q2⟩:=rows_same hpl g1 g2 hc
    rw[e]
    exact ⟨by rw[Array.toList_inj.1 q1],q2⟩
   obtain ⟨e1,e2⟩:=e12
   refine .inr ⟨0,en,v,rfl,by simp[findE,hc], ?_,hv1,e1.symm,fun vr=>by rw[show setE kl kr vr ((k,v)::es)=(k,vr)::es by simp[setE,hc],e2];rfl,by simp[idxE,hc]⟩
   simp[Instr.findAsking,s1,hc]
  |false=>
   rcases find_ask hB hk es ens (i0+1) h.tail with ⟨f1,f2,f3,f4⟩|⟨j,en',v',f1,f2,f3,f4,f5,f6,f7⟩
   ·refine .inl ⟨by simp[findE,hc,f1],by simp[Instr.findAsking,s1,hc,f2],fun vr=>by simp[setE,hc,f3],by simp[idxE,hc,f4]⟩
   ·refine .inr ⟨j+1,en',v',by simpa using f1,by simp[findE,hc,f2], ?_,f4,f5,fun vr=>by simp[setE,hc,f6],by simp[idxE,hc,f7]⟩
    simp only[Instr.findAsking,Sem.run_bind,s1,hc,Result.andThen_ok,Bool.false_eq_true,if_false,f3,Result.ok.injEq,Option.some.injEq,Prod.mk.injEq,and_true]
    omega
theorem key_find {kt:TypeId} {kl vl:L} (hB:keyAny P kt kl=true) {kv:Value} {kr:Row} (hk:RepL P T S kl kv kr) (es:List (Row×Row)) (ens:List MapEntry) (h:EntsOk P T S kl vl es ens):
 (findE kl kr es=none∧(Instr.findKey kt kv ens).run P w= .ok none w∧(∀vr,setE kl kr vr es=es++[(kr,vr)])∧idxE kl kr es=es.length)∨
 ∃j en v,ens[j]? =some en∧findE kl kr es=some v∧(Instr.findKey kt kv ens).run P w= .ok (some (j,en.val)) w∧RepL P T S vl en.val v∧en.key=kv∧
  (∀vr,setE kl kr vr es=es.set j (kr,vr))∧idxE kl kr es=j:=by
 rcases Bool.or_eq_true _ _▸hB with hp |hw
 ·obtain ⟨d,hd⟩:=key_und hp
  rcases find_now hp hd hk es ens 0 h with ⟨f1,f2,f3,f4⟩|⟨j,en,v,f1,f2,f3,f4,f5,f6,f7⟩
  ·exact .inl ⟨f1,MapKept.run_findKey (P:=P) (w:=w) (kt:=kt) hd f2,f3,f4⟩
  ·refine .inr ⟨j,en,v,f1,f2, ?_,f4,f5,f6,f7⟩
   have:=MapKept.run_findKey (P:=P) (w:=w) (kt:=kt) hd f3
   rwa[Nat.zero_add]at this
 ·rcases find_ask (w:=w) hw hk es ens 0 h with ⟨f1,f2,f3,f4⟩|⟨j,en,v,f1,f2,f3,f4,f5,f6,f7⟩
  ·exact .inl ⟨f1,by rw[run_findKey_eq w (wide_wide hw)];exact f2,f3,f4⟩
  ·refine .inr ⟨j,en,v,f1,f2, ?_,f4,f5,f6,f7⟩
   rw[run_findKey_eq w (wide_wide hw)]
   rwa[Nat.zero_add]at f3
theorem Bo.push {ens:Array MapEntry} {clock:Nat} {en:MapEntry} (h:Bo ens clock) (he:en.born=clock):Bo (ens.push en) (clock+1):=by
 obtain ⟨h1,h2⟩:=h
 refine ⟨by simp[h1],fun i e hi=> ?_⟩
 rw[Array.getElem?_push]at hi
 split at hi
 ·rename_i hq;cases hi;omega
 ·exact h2 i e hi
theorem Bo.modify {ens:Array MapEntry} {clock:Nat} {j:Nat} {f:MapEntry→MapEntry} (h:Bo ens clock) (hf:∀e,(f e).born=e.born):Bo (ens.modify j f) clock:=by
 obtain ⟨h1,h2⟩:=h
 refine ⟨by simp[h1],fun i e hi=> ?_⟩
 rw[Array.getElem?_modify]at hi
 split at hi
 ·cases hq:ens[i]? with
  |none=>simp[hq]at hi
  |some x=>simp[hq]at hi;rw[←hi,hf];exact h2 i x hq
 ·exact h2 i e hi
theorem mset_post {id:Nat} {kl vl:L} {es es':List (Row×Row)} {ens ens':Array MapEntry} {clock clock':Nat} {av:AV} {v:Value} (hs:Sim P T S pl St w) (hob:St[id]? =some (.map kl vl es))
 (hh:w.heap[pl.blk id]? =some (.map ens clock)) (hobj:EntsOk P T S kl vl es' ens'.toList) (hbo:Bo ens' clock')
 (hv:RelV P T S pl (St.set id (.map kl vl es')) av v):OpPost P T S pl St w (St.set id (.map kl vl es')) av v {w with heap:=w.heap.setIfInBounds (pl.blk id) (.map ens' clock')}:=by
 have hlt:id<St.length:=(List.getElem?_eq_some_iff.1 hob).1
 obtain ⟨hnew,hother⟩:=MapKept.heap_set (w:=w) (o':= .map ens' clock') hh
 have hk:Keeps pl St pl (St.set id (.map kl vl es')):=Keeps.set hob fun _=>⟨by simp,by simp,by simp,by simp,by simp,fun a b c e=>by
  cases e;exact ⟨_,_,_,rfl⟩⟩
 refine ⟨S,pl, ?_,⟨rfl,rfl,rfl,by simp,fun b hb hn=> ?_,S.le_refl,fun _ _ _ _=>rfl⟩,hv,fun _ _ h=>h.keep hk S.le_refl, ?_⟩
 ·refine hs.upd hlt hk S.le_refl (fun j _=>⟨rfl,rfl⟩) (fun j o hj h ho=> ?_) (fun b o v h=> ?_) ?_ (fun _ off _=>hs.apart id _ hob rfl off (by simp[Obj.sn])) (fun j o _ h ho=>hs.apart j o h ho)
   (fun _ j o hj h ho hb=>hj (hs.inj j id o _ h hob ho rfl hb)) (fun g _ ha=>⟨hother g (fun e=>ha id _ hob rfl e.symm),fun _=>ha id _ hob rfl⟩)
  ·exact hother _ (fun hb=>hj (hs.inj j id o _ h hob ho rfl hb))
  ·have hne:b≠pl.blk id:=fun hb=>by
    have:=hs.apart id _ hob rfl o (by simp[Obj.sn])
    rw[←hb]at this;rw[this]at h;cases h
   rw[World.cell?_of_block (w:=w) (hother _ hne)]
   exact hs.stab _ _ _ h
  ·exact ⟨ens',clock',hnew,⟨by simpa using hobj.1,hbo⟩,fun i k v hi=>by
    obtain ⟨en,h1,h2⟩:=hobj.2 i k v hi
    exact ⟨en,by simpa using h1,h2⟩⟩
 ·exact hother _ (fun hb=>hn ⟨id,_,hob,rfl,rfl,hb.symm⟩)
 ·rintro b ⟨j,o,h,ho,hb⟩
  by_cases hj:j=id
  ·subst hj;exact .inl ⟨j,_,hob,rfl,rfl,hb.2⟩
  ·rw[List.getElem?_set_ne (Ne.symm hj)]at h;exact .inl ⟨j,o,h,ho,hb⟩
theorem RelV.of_map {id:Nat} {kl vl:L} {es:List (Row×Row)} {v:Value} (h:RelV P T S pl St (.map id) v) (hob:St[id]? =some (.map kl vl es)):v= .map (some (pl.blk id)):=by
 cases h with
 |map h1 h2 h3 h4=>
  rw[hob]at h2
  cases h2
  exact h4 _ _ _ rfl
def zeroVB (P:Program) (t:TypeId) (f:Value→Bool):Bool:=match P.info? t with |some i=>(match i.zero with |some zv=>f zv |none=>false)|none=>false
theorem zeroVB_sound {t:TypeId} {f:Value→Bool} (h:zeroVB P t f=true):∃i zv,P.info? t=some i∧i.zero=some zv∧f zv=true:=by
 unfold zeroVB at h;split at h
 ·rename_i i hi;split at h
  ·rename_i zv hz;exact ⟨i,zv,hi,hz,h⟩
  ·simp at h
 ·simp at h
theorem run_zeroT {t:TypeId} {i:TypeInfo} {zv:Value} (hi:P.info? t=some i) (hz:i.zero=some zv) (w:World):(zeroValue t).run P w= .ok zv w:=by
 simp[zeroValue,run_typeInfo _ hi,Result.andThen,hz]
def mapB (P:Program) (t:TypeId) (kl vl:L):Bool:=match P.underlying t with
 |some (.map kt et)=>keyAny P kt kl&&layB P et vl
 |_=>false
section
variable {o:Oper} {x y c:Operand} {ax ay ac:Opd} {base:Nat}
variable (hs:Sim P T S pl St w) (hF:RelF P T S pl St F a.tmps)
include hs hF
theorem s_mkm {t:TypeId} {kl vl:L} {id:Nat} {ob:Obj} {av:AV} {no:Option Obj} (ho:o.op= .makeMap t none) (hob:St[base+id]? =some ob)
 (h:opO E F St ob (.mkm id kl vl) base ret2=some (av,no)):∃o',no=some o'∧Done P o a w (OpPost P T S pl St w (St.set (base+id) o') av):=by
 simp only[opO,asFresh]at h
 split at h
 ·simp only[ret2,Option.some.injEq,Prod.mk.injEq]at h
  obtain ⟨rfl,rfl⟩:=h
  have hlt:base+id<St.length:=(List.getElem?_eq_some_iff.1 hob).1
  refine ⟨_,rfl,done_run (v:= .map (some w.heap.size)) (w':=w.alloc (.map #[] 0)) ?_ (new_post (cap:=0) hs hob ?_ ?_)⟩
  ·simp only[execOp,ho]
   exact run_v rfl
  ·refine ⟨#[],0, ?_,⟨rfl,rfl,fun i en h=>by simp at h⟩,fun i k v h=>by simp at h⟩
   rw[Pl.at_blk]
   exact (MapKept.heap_alloc w _).1
  ·refine .map (o:= .map kl vl []) rfl (List.getElem?_set_self hlt) (by simp) (fun _ _ _ _=> ?_)
   rw[Pl.at_blk]
 ·simp at h
theorem s_lk {t:TypeId} {kl vl:L} {z:Row} {ok:Bool} {ob:Obj} {av:AV} {no:Option Obj} (ho:o.op= .lookup t x y ok) (hB:mapB P t kl vl=true)
 (hz:(match P.underlying t with |some (.map _ et)=>zeroVB P et (fun zv=>constOk vl zv z)|_=>false)=true) (hx:opdOk P T x ax=true) (hy:opdOk P T y ay=true)
 (hob:∀id,tgtV (ax.ev F)=some id→St[id]? =some ob)
 (h:opO E F St ob (.lk kl vl z ax ay ok) base ret2=some (av,no)):no=none∧Done P o a w (OpPost P T S pl St w St av):=by
 have hv:=opd_sound hs hx hF
 have hk:=opd_soundD hs hy hF
 simp only[opO]at h
 obtain ⟨l,kr,e1,hA0⟩:=asD_some h
 obtain ⟨b1,hA⟩:=check_some hA0
 clear hA0 h
 obtain rfl:=L.beq_eq b1
 rw[e1]at hk
 have hk':RepL P T S kl (a.eval y) kr:=by cases hk;assumption
 unfold mapB at hB
 cases hu:P.underlying t with
 |none=>simp[hu]at hB
 |some dd=>
  cases dd<;>simp only[hu,Bool.false_eq_true]at hB hz
  rename_i kt et
  simp only[Bool.and_eq_true]at hB
  obtain ⟨i,zv,hi,hzv,hzc⟩:=zeroVB_sound hz
  have hzr:=constOk_sound (P:=P) (T:=T) (S:=S) hzc
  split at hA
  ·rename_i id ex
   have hob:=hob id (by rw[ex];rfl)
   rw[ex]at hv
   unfold asMap at hA
   split at hA
   ·rename_i kl' vl' es _
    obtain ⟨b2,hA1⟩:=check_some hA
    clear hA
    have hA:=hA1
    clear hA1
    simp only[Bool.and_eq_true]at b2
    obtain rfl:=L.beq_eq b2.1
    obtain rfl:=L.beq_eq b2.2
    have ev:=hv.of_map hob
    obtain ⟨ens,clock,hh,⟨hsz,hbo⟩,hen⟩:=hs.objs _ _ hob
    have hE:EntsOk P T S kl vl es ens.toList:=⟨by simpa using hsz,fun i k v hi=>by simpa using hen i k v hi⟩
    have hrun:∃u,RepL P T S vl u ((findE kl kr es).getD z)∧(execOp a.eval o).run P w= .ok (.value (if ok then .tuple #[u, .bool (findE kl kr es).isSome]else u)) w:=by
     have hget:=MapKept.run_getObj_map (P:=P) hh
     have hck:=key_check (w:=w) hB.1 hk' ens.isEmpty
     rcases key_find (w:=w) hB.1 hk' es ens.toList hE with ⟨f1,f2,_,_⟩|⟨j,en,v,f1,f2,f3,f4,_,_,_⟩
     ·refine ⟨zv,by rw[f1];exact hzr, ?_⟩
      have hfk:=f2
      simp only[execOp,ho]
      refine run_v ?_
      rw[ev]
      simp[Instr.lookup,run_underlying hu,Sem.run_bind,Result.andThen,hget,hck,hfk,run_zeroT hi hzv,f1]
     ·refine ⟨en.val,by rw[f2];exact f4, ?_⟩
      have hfk:=f3
      simp only[execOp,ho]
      refine run_v ?_
      rw[ev]
      simp[Instr.lookup,run_underlying hu,Sem.run_bind,Result.andThen,hget,hck,hfk,f2]
    obtain ⟨u,hu1,hu2⟩:=hrun
    cases ok with
    |false=>
     simp only[ret2,Option.some.injEq,Prod.mk.injEq]at hA
     obtain ⟨rfl,rfl⟩:=hA
     rw[hu1.nrm]
     exact ⟨rfl,done_run hu2 (.same hs (.d hu1))⟩
    |true=>
     simp only[ret2,Option.some.injEq,Prod.mk.injEq]at hA
     obtain ⟨rfl,rfl⟩:=hA
     rw[hu1.nrm]
     refine ⟨rfl,done_run hu2 (.same hs ?_)⟩
     have:=RelV.tup (P:=P) (T:=T) (S:=S) (pl:=pl) (St:=St) (avs:=[.d vl ((findE kl kr es).getD z),vB (findE kl kr es).isSome]) (fun i=>#[u, .bool (findE kl kr es).isSome].getD i undef) (fun i av hi=>by
      match i,hi with
      |0,hi=>simp at hi;subst hi;exact .d hu1
      |1,hi=>simp at hi;subst hi;exact .d ⟨_,rfl, .bool⟩)
     exact this
   ·simp at hA
  ·simp at hA
omit hs hF in
theorem same_bits {kt:TypeId} {kl:L} (hB:keyB P kt kl=true) {u:Value} {r:Row} (hu:RepL P T S kl u r) (n:Nat):Instr.sameBits n u u=true:=by
 unfold keyB at hB
 cases hd:P.underlying kt with
 |none=>simp[hd]at hB
 |some d=>
  rw[hd]at hB
  cases d<;>cases kl<;>(try simp only[Bool.false_eq_true]at hB)
  all_goals (rename_i k;cases k<;>(try simp only[Bool.false_eq_true]at hB))
  all_goals
   obtain ⟨c1,rfl,h1⟩:=hu
   cases h1
   cases n<;>simp[Instr.sameBits,MapKept.bytes_beq]
omit hs hF in
theorem key_bits {kt:TypeId} {kl:L} (hB:keyAny P kt kl=true) {u:Value} {r:Row} (hu:RepL P T S kl u r):Instr.sameBits 10000 u u=true:=by
 rcases Bool.or_eq_true _ _▸hB with h |h
 ·exact same_bits h hu 10000
 ·exact wide_bits h hu
omit hs hF in
theorem ents_set {kl vl:L} {es:List (Row×Row)} {ens:Array MapEntry} {j:Nat} {kv vv:Value} {kr vr:Row} (h:EntsOk P T S kl vl es ens.toList) (hk:RepL P T S kl kv kr) (hv:RepL P T S vl vv vr):
 EntsOk P T S kl vl (es.set j (kr,vr)) (ens.modify j fun e=>{e with key:=kv,val:=vv}).toList:=by
 refine ⟨by simpa using h.1,fun i k v hi=> ?_⟩
 have hget:(ens.modify j fun e=>{e with key:=kv,val:=vv}).toList[i]? =(ens.toList[i]?).map fun e=>if j=i then {e with key:=kv,val:=vv}else e:=by
  rw[Array.getElem?_toList,Array.getElem?_modify,Array.getElem?_toList]
  by_cases hji:j=i
  ·simp[hji]
  ·simp[hji]
 rw[hget]
 by_cases hji:j=i
 ·subst hji
  rw[List.getElem?_set]at hi
  simp only[if_true]at hi
  split at hi
  ·rename_i hlt
   simp only[Option.some.injEq,Prod.mk.injEq]at hi
   obtain ⟨rfl,rfl⟩:=hi
   have hl:j<ens.toList.length:=by rw[h.1];exact hlt
   exact ⟨_,by rw[List.getElem?_eq_getElem hl];rfl,by simp[hk],by simp[hv]⟩
  ·simp at hi
 ·rw[List.getElem?_set_ne hji]at hi
  obtain ⟨en,h1,h2,h3⟩:=h.2 i k v hi
  exact ⟨en,by rw[h1];simp[hji],h2,h3⟩
omit hs hF in
theorem ents_push {kl vl:L} {es:List (Row×Row)} {ens:Array MapEntry} {en:MapEntry} {kr vr:Row} (h:EntsOk P T S kl vl es ens.toList) (hk:RepL P T S kl en.key kr) (hv:RepL P T S vl en.val vr):
 EntsOk P T S kl vl (es++[(kr,vr)]) (ens.push en).toList:=by
 refine ⟨by simpa using h.1,fun i k v hi=> ?_⟩
 rw[Array.toList_push]
 have hl:=h.1
 rcases Nat.lt_or_ge i es.length with hlt |hge
 ·rw[List.getElem?_append_left hlt]at hi
  obtain ⟨en',h1,h2⟩:=h.2 i k v hi
  exact ⟨en',by rw[List.getElem?_append_left (by omega)];exact h1,h2⟩
 ·rw[List.getElem?_append_right hge]at hi
  have:i - es.length=0:=by
   rcases Nat.eq_zero_or_pos (i - es.length)with h0 |h0
   ·exact h0
   ·rw[List.getElem?_eq_none (by simp;omega)]at hi;cases hi
  rw[this]at hi
  simp only[List.getElem?_cons_zero,Option.some.injEq,Prod.mk.injEq]at hi
  obtain ⟨rfl,rfl⟩:=hi
  exact ⟨en,by rw[List.getElem?_append_right (by omega),show i - ens.toList.length=0 by omega];rfl,hk,hv⟩
def mapKB (P:Program) (t:TypeId) (kl:L):Bool:=match P.underlying t with
 |some (.map kt _)=>keyAny P kt kl
 |_=>false
theorem s_mup {t:TypeId} {kl:L} {ob:Obj} {av:AV} {no:Option Obj} (ho:o.op= .mapUpdate t x y c∨o.op= .insert t x y c) (hB:mapKB P t kl=true)
 (hx:opdOk P T x ax=true) (hy:opdOk P T y ay=true) (hc:opdOk P T c ac=true)
 (hob:∀id,tgtV (ax.ev F)=some id→St[id]? =some ob)
 (h:opO E F St ob (.mup kl ax ay ac) base ret2=some (av,no)):∃id o',tgtV (ax.ev F)=some id∧no=some o'∧Done P o a w (OpPost P T S pl St w (St.set id o') av):=by
 have hv:=opd_sound hs hx hF
 have hk:=opd_soundD hs hy hF
 have hu:=opd_soundD hs hc hF
 simp only[opO]at h
 obtain ⟨l,kr,e1,hA0⟩:=asD_some h
 obtain ⟨lv,vr,e2,hA⟩:=asD_some hA0
 clear hA0 h
 rw[e1]at hk
 rw[e2]at hu
 have hk':RepL P T S l (a.eval y) kr:=by cases hk;assumption
 have hu':RepL P T S lv (a.eval c) vr:=by cases hu;assumption
 unfold mapKB at hB
 cases hut:P.underlying t with
 |none=>simp[hut]at hB
 |some dd=>
  cases dd<;>simp only[hut,Bool.false_eq_true]at hB
  rename_i kt et
  split at hA
  ·rename_i id ex
   have hob:=hob id (by rw[ex];rfl)
   rw[ex]at hv
   unfold asMap at hA
   split at hA
   ·rename_i kl' vl' es _
    obtain ⟨b2,hA1⟩:=check_some hA
    clear hA
    simp only[Bool.and_eq_true]at b2
    obtain rfl:=L.beq_eq b2.1.1
    obtain rfl:=L.beq_eq b2.1.2
    obtain rfl:=L.beq_eq b2.2
    simp only[ret2,Option.some.injEq,Prod.mk.injEq]at hA1
    obtain ⟨rfl,rfl⟩:=hA1
    have ev:=hv.of_map hob
    obtain ⟨ens,clock,hh,⟨hsz,hbo⟩,hen⟩:=hs.objs _ _ hob
    have hE:EntsOk P T S kl vl' es ens.toList:=⟨by simpa using hsz,fun i k v hi=>by simpa using hen i k v hi⟩
    refine ⟨id,_,by rw[ex];rfl,rfl, ?_⟩
    have hget:=MapKept.run_getObj_map (P:=P) hh
    have hck:=key_check (w:=w) hB hk' false
    have hex:∀{w'},(Instr.mapUpdate t (.map (some (pl.blk id))) (a.eval y) (a.eval c)).run P w= .ok () w'→(execOp a.eval o).run P w= .ok .skip w':=by
     intro w' hr
     rcases ho with ho |ho<;>simp only[execOp,ho]<;>refine run_u ?_<;>rw[ev]<;>exact hr
    rcases key_find (w:=w) hB hk' es ens.toList hE with ⟨f1,f2,f3,_⟩|⟨j,en,v,f1,f2,f3,f4,f5,f6,_⟩
    ·have hfk:=f2
     rw[f3]
     refine done_skip (hex (w':={w with heap:=w.heap.setIfInBounds (pl.blk id) (.map (ens.push {key:=a.eval y,val:=a.eval c,born:=clock}) (clock+1))}) ?_) (mset_post hs hob hh (ents_push hE hk' hu') (hbo.push rfl) .und)
     simp[Instr.mapUpdate,run_underlying hut,Sem.run_bind,Result.andThen,hget,hck,hfk,MapKept.run_setObj_map (P:=P) _ hh]
    ·have hfk:=f3
     rw[f6]
     refine done_skip (hex (w':={w with heap:=w.heap.setIfInBounds (pl.blk id) (.map (ens.modify j fun e=>{e with key:=a.eval y,val:=a.eval c}) clock)}) ?_) (mset_post hs hob hh (ents_set hE hk' hu') (hbo.modify fun _=>rfl) .und)
     have hj:ens[j]? =some en:=by simpa using f1
     simp[Instr.mapUpdate,run_underlying hut,Sem.run_bind,Result.andThen,hget,hck,hfk,Instr.keyThatStays,hj,f5,key_bits hB hk',MapKept.run_setObj_map (P:=P) _ hh]
   ·simp at hA
  ·simp at hA
theorem s_ent {t:TypeId} {kl vl:L} {z:Row} {ob:Obj} {av:AV} {no:Option Obj} (ho:o.op= .mapEntry t x y) (hB:mapB P t kl vl=true)
 (hz:(match P.underlying t with |some (.map _ et)=>zeroVB P et (fun zv=>constOk vl zv z)|_=>false)=true) (hx:opdOk P T x ax=true) (hy:opdOk P T y ay=true)
 (hob:∀id,tgtV (ax.ev F)=some id→St[id]? =some ob)
 (h:opO E F St ob (.ent kl vl z ax ay) base ret2=some (av,no)):∃id o',tgtV (ax.ev F)=some id∧no=some o'∧Done P o a w (OpPost P T S pl St w (St.set id o') av):=by
 have hv:=opd_sound hs hx hF
 have hk:=opd_soundD hs hy hF
 simp only[opO]at h
 obtain ⟨l,kr,e1,hA⟩:=asD_some h
 rw[e1]at hk
 have hk':RepL P T S l (a.eval y) kr:=by cases hk;assumption
 unfold mapB at hB
 cases hu:P.underlying t with
 |none=>simp[hu]at hB
 |some dd=>
  cases dd<;>simp only[hu,Bool.false_eq_true]at hB hz
  rename_i kt et
  simp only[Bool.and_eq_true]at hB
  obtain ⟨i,zv,hi,hzv,hzc⟩:=zeroVB_sound hz
  have hzr:=constOk_sound (P:=P) (T:=T) (S:=S) hzc
  split at hA
  ·rename_i id ex
   have hob:=hob id (by rw[ex];rfl)
   rw[ex]at hv
   unfold asMap at hA
   split at hA
   ·rename_i kl' vl' es _
    obtain ⟨b2,hA1⟩:=check_some hA
    simp only[Bool.and_eq_true]at b2
    obtain rfl:=L.beq_eq b2.1.1
    obtain rfl:=L.beq_eq b2.1.2
    obtain rfl:=L.beq_eq b2.2
    simp only[ret2,Option.some.injEq,Prod.mk.injEq]at hA1
    obtain ⟨rfl,rfl⟩:=hA1
    have ev:=hv.of_map hob
    obtain ⟨ens,clock,hh,⟨hsz,hbo⟩,hen⟩:=hs.objs _ _ hob
    have hE:EntsOk P T S kl vl es ens.toList:=⟨by simpa using hsz,fun i k v hi=>by simpa using hen i k v hi⟩
    refine ⟨id,_,by rw[ex];rfl,rfl, ?_⟩
    have hget:=MapKept.run_getObj_map (P:=P) hh
    have hck:=key_check (w:=w) hB.1 hk' false
    have htup:∀{St':Ev.St} {u:Value} {n:Int},RepL P T S vl u ((findE kl kr es).getD z)→n=idxE kl kr es→RelV P T S pl St' (.tup [.d vl (nrm vl ((findE kl kr es).getD z)),vI .i64 (idxE kl kr es)]) (.tuple #[u,goInt n]):=fun {St' u n} hu1 hn=>by
     rw[hu1.nrm]
     have:=RelV.tup (P:=P) (T:=T) (S:=S) (pl:=pl) (St:=St') (avs:=[.d vl ((findE kl kr es).getD z),vI .i64 (idxE kl kr es)]) (fun i=>#[u,goInt n].getD i undef) (fun i av hi=>by
      match i,hi with
      |0,hi=>simp at hi;subst hi;exact .d hu1
      |1,hi=>simp at hi;subst hi;subst hn;exact .d ⟨_,rfl, .int⟩)
     exact this
    rcases key_find (w:=w) hB.1 hk' es ens.toList hE with ⟨f1,f2,f3,f4⟩|⟨j,en,v,f1,f2,f3,f4,f5,f6,f7⟩
    ·have hfk:=f2
     rw[f3]
     refine done_run (v:= .tuple #[zv,goInt clock]) (w':={w with heap:=w.heap.setIfInBounds (pl.blk id) (.map (ens.push {key:=a.eval y,val:=zv,born:=clock}) (clock+1))}) ?_ (mset_post hs hob hh (ents_push hE hk' (by rw[f1];exact hzr)) (hbo.push rfl) (htup (by rw[f1];exact hzr) (by rw[f4,hbo.1,hsz])))
     simp only[execOp,ho]
     refine run_v ?_
     rw[ev]
     simp[Instr.mapEntry,run_underlying hu,Sem.run_bind,Result.andThen,hget,hck,hfk,run_zeroT hi hzv,MapKept.run_setObj_map (P:=P) _ hh]
    ·have hfk:=f3
     rw[f6]
     have hj:ens[j]? =some en:=by simpa using f1
     have hjl:j<ens.toList.length:=by simpa using (Array.getElem?_eq_some_iff.1 hj).1
     have hset:=ents_set (j:=j) (kv:=a.eval y) (vv:=en.val) (vr:=(findE kl kr es).getD z) hE hk' (by rw[f2];exact f4)
     have heq:(ens.modify j fun e=>{e with key:=a.eval y,val:=en.val})=ens.modify j fun e=>{e with key:=a.eval y}:=by
      apply Array.ext_getElem?
      intro i
      rw[Array.getElem?_modify,Array.getElem?_modify]
      split
      ·rename_i hij;subst hij;rw[hj];rfl
      ·rfl
     rw[heq]at hset
     refine done_run (v:= .tuple #[en.val,goInt en.born]) (w':={w with heap:=w.heap.setIfInBounds (pl.blk id) (.map (ens.modify j fun e=>{e with key:=a.eval y}) clock)}) ?_ (mset_post hs hob hh hset (hbo.modify fun _=>rfl) (htup (by rw[f2];exact f4) (by rw[f7,hbo.2 _ _ hj])))
     simp only[execOp,ho]
     refine run_v ?_
     rw[ev]
     simp[Instr.mapEntry,run_underlying hu,Sem.run_bind,Result.andThen,hget,hck,hfk,Instr.keyThatStays,hj,f5,key_bits hB.1 hk',MapKept.run_setObj_map (P:=P) _ hh]
   ·simp at hA
  ·simp at hA
theorem s_est {t:TypeId} {as_:Opd} {s:Operand} {ob:Obj} {av:AV} {no:Option Obj} (ho:o.op= .entryStore t x s c)
 (hx:opdOk P T x ax=true) (hy:opdOk P T s as_=true) (hc:opdOk P T c ac=true)
 (hob:∀id,tgtV (ax.ev F)=some id→St[id]? =some ob)
 (h:opO E F St ob (.est ax as_ ac) base ret2=some (av,no)):∃id o',tgtV (ax.ev F)=some id∧no=some o'∧Done P o a w (OpPost P T S pl St w (St.set id o') av):=by
 have hv:=opd_sound hs hx hF
 have hk:=opd_soundD hs hy hF
 have hu:=opd_soundD hs hc hF
 simp only[opO]at h
 obtain ⟨kd,row,e1,hA0⟩:=asI_some h
 obtain ⟨lv,vr,e2,hA⟩:=asD_some hA0
 rw[e1]at hk
 rw[e2]at hu
 have hk':=hk.of_int
 have hu':RepL P T S lv (a.eval c) vr:=by cases hu;assumption
 generalize (at_ row 0).toI=n at*
 split at hA
 ·rename_i id ex
  have hob:=hob id (by rw[ex];rfl)
  rw[ex]at hv
  unfold asMap at hA
  split at hA
  ·rename_i kl vl es _
   obtain ⟨b2,hA1⟩:=check_some hA
   obtain rfl:=L.beq_eq b2
   split at hA1
   ·rename_i hn
    simp only[ret2,Option.some.injEq,Prod.mk.injEq]at hA1
    obtain ⟨rfl,rfl⟩:=hA1
    have ev:=hv.of_map hob
    obtain ⟨ens,clock,hh,⟨hsz,hbo⟩,hen⟩:=hs.objs _ _ hob
    refine ⟨id,_,by rw[ex];rfl,rfl, ?_⟩
    have hget:=MapKept.run_getObj_map (P:=P) hh
    have hnl:n.toNat<ens.size:=by omega
    have hfi:ens.findIdx? (fun e=>(e.born:Int)==n)=some n.toNat:=by
     rw[Array.findIdx?_eq_some_iff_getElem]
     refine ⟨hnl, ?_,fun j hj=> ?_⟩
     ·have:=hbo.2 _ _ (Array.getElem?_eq_getElem hnl)
      simp[this];omega
     ·have:=hbo.2 _ _ (Array.getElem?_eq_getElem (show j<ens.size by omega))
      simp[this];omega
    refine done_skip (w':={w with heap:=w.heap.setIfInBounds (pl.blk id) (.map (ens.modify n.toNat fun e=>{e with val:=a.eval c}) clock)}) ?_ (mset_post hs hob hh ⟨by simpa using hsz,fun i k v hi=> ?_⟩ (hbo.modify fun _=>rfl) .und)
    ·simp only[execOp,ho]
     refine run_u ?_
     rw[ev,hk']
     simp[Instr.entryStore,Sem.run_bind,Result.andThen,hget,asInt,asIntOf,hfi,MapKept.run_setObj_map (P:=P) _ hh]
    ·rw[Array.getElem?_toList,Array.getElem?_modify]
     rw[List.getElem?_modify]at hi
     cases hq:es[i]? with
     |none=>simp[hq]at hi
     |some p=>
      obtain ⟨k0,v0⟩:=p
      obtain ⟨en,h1,h2,h3⟩:=hen i k0 v0 hq
      rw[hq]at hi
      rw[h1]
      by_cases hin:n.toNat=i
      ·simp only[hin,if_true,Option.map_eq_map,Option.map_some,Option.some.injEq,Prod.mk.injEq]at hi⊢
       obtain ⟨rfl,rfl⟩:=hi
       exact ⟨_,rfl,h2,hu'⟩
      ·simp only[hin,if_false,Option.map_eq_map,Option.map_some,Option.some.injEq,Prod.mk.injEq]at hi⊢
       obtain ⟨rfl,rfl⟩:=hi
       exact ⟨_,rfl,h2,h3⟩
   ·simp at hA1
  ·simp at hA
 ·simp at hA
def isMapT:TypeDesc→Bool | .map .. =>true |_=>false
theorem s_lenM {t:TypeId} {ob:Obj} {av:AV} {no:Option Obj} (ho:o.op= .call {callee:= .builtin .len,args:=#[x],argTypes:=#[t]}) (ht:(match P.underlying t with |some d=>isMapT d |none=>false)=true) (hx:opdOk P T x ax=true)
 (hob:∀id,tgtV (ax.ev F)=some id→St[id]? =some ob)
 (h:opO E F St ob (.lenM ax) base ret2=some (av,no)):no=none∧Done P o a w (OpPost P T S pl St w St av):=by
 have hv:=opd_sound hs hx hF
 simp only[opO]at h
 split at h
 ·rename_i id ex
  have hob:=hob id (by rw[ex];rfl)
  rw[ex]at hv
  unfold asMap at h
  split at h
  ·rename_i kl vl es _
   simp only[ret2,Option.some.injEq,Prod.mk.injEq]at h
   obtain ⟨rfl,rfl⟩:=h
   have ev:=hv.of_map hob
   obtain ⟨ens,clock,hh,⟨hsz,hbo⟩,hen⟩:=hs.objs _ _ hob
   have hget:=MapKept.run_getObj_map (P:=P) hh
   refine ⟨rfl,done_run (v:= .int .i64 (ens.size:Nat)) (w':=w) ?_ (by rw[hsz];exact .same hs (relI _ _))⟩
   cases hu:P.underlying t with
   |none=>simp[hu]at ht
   |some d=>
    cases d<;>simp only[hu,isMapT,Bool.false_eq_true]at ht
    simp[execOp,ho,ev,resolve,invoke,builtin,Builtin.len_,run_underlying hu,goInt,Sem.run_bind,Result.andThen,hget]
  ·simp at h
 ·simp at h
def arrVB (P:Program) (t:TypeId) (m n:Nat):Bool:=match P.underlying t with
 |some (.array m' e)=>Nat.beq m' m&&sizeB P e n
 |_=>false
omit hs hF in
theorem splitI_some {A:Type} {j:Int} {k:Nat→Option A} {r:A}:∀(i m:Nat),splitI j i m k=some r→∃q:Nat,i≤q∧q<i+m∧j=(q:Int)∧k q=some r
 |i,0,h=>by simp[splitI]at h
 |i,m+1,h=>by
  simp only[splitI]at h
  split at h
  ·rename_i e;exact ⟨i,Nat.le_refl _,by omega,e,h⟩
  ·obtain ⟨q,h1,h2,h3,h4⟩:=splitI_some (i+1) m h
   exact ⟨q,by omega,by omega,h3,h4⟩
theorem s_iadV {m n:Nat} {t:TypeId} {ob:Obj} {av:AV} {no:Option Obj} (ho:o.op= .indexAddr t x y) (hB:arrVB P t m n=true) (hx:opdOk P T x ax=true) (hy:opdOk P T y ay=true)
 (hob:∀id,tgtV (ax.ev F)=some id→St[id]? =some ob)
 (h:opO E F St ob (.iadV m n ax ay) base ret2=some (av,no)):no=none∧Done P o a w (OpPost P T S pl St w St av):=by
 have hv:=opd_sound hs hx hF
 have hi:=opd_soundD hs hy hF
 simp only[opO]at h
 obtain ⟨kd,ri,ei,hA⟩:=asI_some h
 rw[ei]at hi
 have hi:=hi.of_int
 generalize (at_ ri 0).toI=j at*
 unfold arrVB at hB
 cases hu:P.underlying t with
 |none=>simp[hu]at hB
 |some dd=>
  cases dd<;>simp only[hu,Bool.false_eq_true]at hB
  rename_i m' e
  simp only[Bool.and_eq_true]at hB
  obtain rfl:=Nat.eq_of_beq_eq_true hB.1
  have key:∀(b p q:Nat),q<m'→j=(q:Int)→(Instr.indexAt t (.pointer (some ⟨b,p,none⟩)) (.int kd j)).run P w= .ok (.pointer (some ⟨b,p+q*n,none⟩)) w:=by
   intro b p q hq hj
   subst hj
   have h0:(0:Int)≤(q:Int):=by omega
   have h1:(q:Int)<(m':Int):=by omega
   simp[Instr.indexAt,Instr.sureAddr,run_underlying hu,asIntOf,h0,h1,sizeB_sound hB.2 w,add_eq,hq]
  split at hA
  ·rename_i id p ex
   have hob:=hob id (by rw[ex];rfl)
   rw[ex]at hv
   obtain ⟨hk2,hC⟩:=asHas_some hA
   obtain ⟨q,_,hq,hj,hD⟩:=splitI_some _ _ hC
   simp only[ret2,Option.some.injEq,Prod.mk.injEq]at hD
   obtain ⟨rfl,rfl⟩:=hD
   have e1:=hv.of_has hob hk2
   refine ⟨rfl,done_run (w':=w) (exec_indexAddr ho ?_) (.same hs (.has_mk hob hk2))⟩
   rw[e1,hi];exact key _ _ q (by omega) hj
  ·simp at hA
end
end Go.Ev
namespace Go.Ev
variable {E:Env} {P:Program} {T:Nat→AFn} {S S':Stab} {pl pl':Pl} {St St':Ev.St} {F:Fr} {a:Act} {w w':World}
def RelC (P:Program) (T:Nat→AFn) (S:Stab) (pl:Pl) (St:Ev.St) (cells:Array Value) (z:List AV):Prop:=
 cells.size=z.length∧(∀i u,z[i]? =some u→RelV P T S pl St u (cells.getD i undef))∧∀i,i<cells.size→(cells.getD i undef).oneCell'=true
theorem RelC.put {cells:Array Value} {z vs:List AV} {v:Value} {off:Nat} (h:RelC P T S pl St cells z) (hv:RelC P T S pl St v.cells vs) (hle:off+vs.length≤z.length):
 RelC P T S pl St (cells.toList.take off++v.cells.toList++cells.toList.drop (off+vs.length)).toArray (putV off vs z):=by
 obtain ⟨a1,a2,a3⟩:=h
 obtain ⟨b1,b2,b3⟩:=hv
 have hlen:(cells.toList.take off++v.cells.toList++cells.toList.drop (off+vs.length)).length=z.length:=by simp;omega
 have hget:∀i,(cells.toList.take off++v.cells.toList++cells.toList.drop (off+vs.length)).toArray.getD i undef=if i<off then cells.getD i undef else if i<off+vs.length then v.cells.getD (i - off) undef else cells.getD i undef:=fun i=>by
  have:=splice_get cells.toList v.cells.toList off vs.length i (by simpa using b1) (by simp;omega)
  simp only[List.getD_eq_getElem?_getD,Array.getD_eq_getD_getElem?,List.getElem?_toArray,this]
  split
  ·simp
  ·split<;>simp
 refine ⟨by rw[putV_length hle];simpa using hlen,fun i u hi=> ?_,fun i hi=> ?_⟩
 ·rw[putV_get hle]at hi
  rw[hget]
  split at hi
  ·rename_i h1;rw[if_pos h1];exact a2 i u hi
  ·rename_i h1
   rw[if_neg h1]
   split at hi
   ·rename_i h2;rw[if_pos h2];exact b2 _ u hi
   ·rename_i h2;rw[if_neg h2];exact a2 i u hi
 ·rw[hget]
  have hi':i<cells.size:=by simp at hi;omega
  by_cases h1:i<off
  ·rw[if_pos h1];exact a3 i hi'
  ·rw[if_neg h1]
   by_cases h2:i<off+vs.length
   ·rw[if_pos h2];exact b3 _ (by omega)
   ·rw[if_neg h2];exact a3 i hi'
theorem fillA_sound {A:Type} {place:Nat→Option (Nat×Nat)} {k:List AV→Option A} {res:A} (hs:Sim P T S pl St w) (hF:RelF P T S pl St F a.tmps):
 ∀(parts:List (Nat×Operand)) (aparts:List (Nat×Nat×Opd)) (cells:Array Value) (z:List AV),partsOk P T place parts aparts=true→RelC P T S pl St cells z→
  fillA F aparts z k=some res→∃cells' z',Instr.fill place cells (parts.map fun p=>(p.1,a.eval p.2))=some cells'∧RelC P T S pl St cells' z'∧k z'=some res
 |[],[],cells,z,_,hr,h=>⟨cells,z,rfl,hr,h⟩
 |[],_::_,_,_,h,_,_=>by simp[partsOk]at h
 |_::_,[],_,_,h,_,_=>by simp[partsOk]at h
 |(i,x)::r,(off,m,ax)::r',cells,z,hp,hr,h=>by
  simp only[partsOk,Bool.and_eq_true]at hp
  obtain ⟨⟨hp1,hp2⟩,hp3⟩:=hp
  split at hp1
  ·rename_i off' m' hpl
   simp only[Bool.and_eq_true]at hp1
   obtain rfl:=Nat.eq_of_beq_eq_true hp1.1
   obtain rfl:=Nat.eq_of_beq_eq_true hp1.2
   simp only[fillA]at h
   split at h
   ·rename_i vs hcv
    obtain ⟨hb,hB⟩:=check_some h
    simp only[Bool.and_eq_true]at hb
    have hm:=Nat.eq_of_beq_eq_true hb.1
    have hle:off+m≤z.length:=by simpa using hb.2
    subst hm
    have hv:=opd_sound hs hp2 hF
    obtain ⟨c1,c2,c3⟩:=hv.cellsV hcv
    have hput:=hr.put (v:=a.eval x) (off:=off) ⟨c1,c2,c3⟩ hle
    have hst:=fill_step (cells:=cells) (rest:=r.map fun p=>(p.1,a.eval p.2)) hpl c1 (by rw[hr.1];exact hle)
    obtain ⟨cells',z',g1,g2,g3⟩:=fillA_sound hs hF r r' _ _ hp3 hput hB
    exact ⟨cells',z',by rw[List.map_cons,hst];exact g1,g2,g3⟩
   ·simp at h
  ·simp at hp1
def bldAB (P:Program) (T:Nat→AFn) (t:TypeId) (zs:List (Option (K×C))) (parts:List (Nat×Operand)) (aparts:List (Nat×Nat×Opd)):Bool:=
 match P.info? t,P.underlying t with
 |some it,some (.array _ e)=>(match it.zero,P.info? e with
  |some zv,some ie=>zsOk zs zv.cells.toList&&partsOk P T (fun i=>some (i*ie.size,ie.size)) parts aparts
  |_,_=>false)
 |some it,some (.struct fields)=>(match it.zero,fields.toList.mapM (fun f=>(P.info? f.type).map fun i=>(f.offset,i.size))with
  |some zv,some places=>zsOk zs zv.cells.toList&&partsOk P T (places.toArray[·]?) parts aparts
  |_,_=>false)
 |_,_=>false
section
variable {o:Oper} {x y c:Operand} {ax ay ac:Opd} {base:Nat}
variable (hs:Sim P T S pl St w) (hF:RelF P T S pl St F a.tmps)
include hs hF
theorem s_bldA {t:TypeId} {zs:List (Option (K×C))} {parts:Array (Nat×Operand)} {aparts:List (Nat×Nat×Opd)} {ob:Obj} {av:AV} {no:Option Obj} (ho:o.op= .build t parts)
 (hb:bldAB P T t zs parts.toList aparts=true)
 (h:opO E F St ob (.bldA zs aparts) base ret2=some (av,no)):no=none∧Done P o a w (OpPost P T S pl St w St av):=by
 simp only[opO]at h
 have fin:∀(place:Nat→Option (Nat×Nat)) (zv:Value),zsOk zs zv.cells.toList=true→partsOk P T place parts.toList aparts=true→
  ∃cells z',Instr.fill place zv.cells (parts.toList.map fun p=>(p.1,a.eval p.2))=some cells∧RelC P T S pl St cells z'∧ret2 (.agg z') none=some (av,no):=by
  intro place zv hc hp
  obtain ⟨c1,c2,c3⟩:=zsOk_sound (P:=P) (T:=T) (S:=S) (pl:=pl) (St:=St) hc
  refine fillA_sound hs hF _ _ zv.cells (zsV zs) hp ⟨by rw[zsV_length,←c1];simp,fun i u hi=> ?_,fun i hi=> ?_⟩ h
  ·simpa[List.getD_eq_getElem?_getD]using c2 i u hi
  ·simpa[List.getD_eq_getElem?_getD]using c3 i (by simpa using hi)
 have done:∀(cells:Array Value) (z':List AV),P.built t (parts.toList.map fun p=>(p.1,a.eval p.2))=some cells→RelC P T S pl St cells z'→ret2 (.agg z') none=some (av,no)→
  no=none∧Done P o a w (OpPost P T S pl St w St av):=by
  intro cells z' hbu hr he
  simp only[ret2,Option.some.injEq,Prod.mk.injEq]at he
  obtain ⟨rfl,rfl⟩:=he
  obtain ⟨r1,r2,r3⟩:=hr
  refine ⟨rfl,done_run (v:= .agg cells) (w':=w) ?_ (.same hs (.agg_mk r1 r3 r2))⟩
  simp only[execOp,ho]
  refine run_v (run_build w t _ cells ?_)
  simpa using hbu
 unfold bldAB at hb
 split at hb
 ·rename_i it e hi hu
  split at hb
  ·rename_i zv ie hz hie
   simp only[Bool.and_eq_true]at hb
   obtain ⟨cells,row,g1,g2,g3⟩:=fin _ _ hb.1 hb.2
   exact done cells row (by simp[Program.built,hi,hu,hz,hie];simpa using g1) g2 g3
  ·simp at hb
 ·rename_i it fields hi hu
  split at hb
  ·rename_i zv places hz hpl
   simp only[Bool.and_eq_true]at hb
   obtain ⟨cells,row,g1,g2,g3⟩:=fin _ _ hb.1 hb.2
   exact done cells row (by simp only[Program.built,hi,hu,hz,hpl];simpa using g1) g2 g3
  ·simp at hb
 ·simp at hb
def fldCB (P:Program) (t:TypeId) (f off n:Nat):Bool:=
 match P.underlying t with
 |some (.struct fs)=>(match fs[f]? with
  |some fd=>Nat.beq fd.offset off&&(match n with |1=>noAgg P fd.type |n=>aggB P fd.type n)
  |none=>false)
 |_=>false
theorem s_fldA {off n:Nat} {t:TypeId} {f:Nat} {ob:Obj} {av:AV} {no:Option Obj} (ho:o.op= .field t x f) (hf:fldCB P t f off n=true) (hx:opdOk P T x ax=true)
 (h:opO E F St ob (.fldA off n ax) base ret2=some (av,no)):no=none∧Done P o a w (OpPost P T S pl St w St av):=by
 have hv:=opd_sound hs hx hF
 simp only[opO]at h
 split at h
 ·rename_i vs ex
  rw[ex]at hv
  obtain ⟨hb,hA⟩:=check_some h
  have hle:off+n≤vs.length:=by simpa using hb
  unfold fldCB at hf
  split at hf
  ·rename_i fs hu
   split at hf
   ·rename_i fd hfd
    simp only[Bool.and_eq_true]at hf
    obtain ⟨h1,h2⟩:=hf
    obtain rfl:=Nat.eq_of_beq_eq_true h1
    obtain ⟨c1,c2,c3⟩:=hv.cellsV (vs:=vs) rfl
    obtain ⟨cs,hcs⟩:∃cs,a.eval x= .agg cs:=by
     generalize a.eval x=v at hv
     cases hv with
     |agg vals g1 g2=>exact ⟨_,rfl⟩
    rw[hcs]at c1 c2 c3
    simp only[Value.cells]at c1 c2 c3
    have fin:∀(v:Value) (av':AV),(Go.part fd.type cs fd.offset).run P w= .ok v w→RelV P T S pl St av' v→ret2 av' none=some (av,no)→no=none∧Done P o a w (OpPost P T S pl St w St av):=by
     intro v av' hr hv' he
     simp only[ret2,Option.some.injEq,Prod.mk.injEq]at he
     obtain ⟨rfl,rfl⟩:=he
     refine ⟨rfl,done_run (v:=v) (w':=w) ?_ (.same hs hv')⟩
     simp only[execOp,ho]
     refine run_v ?_
     simp[Instr.field,run_underlying hu,hcs,asAgg,hfd,hr]
    split at hA
    ·split at hA
     ·rename_i v hvv
      obtain ⟨_,hB⟩:=check_some hA
      have hlt:fd.offset<cs.size:=by omega
      obtain ⟨u,hu2⟩:∃u,cs[fd.offset]? =some u:=⟨cs[fd.offset],by simp[hlt]⟩
      have hcu:=c2 _ _ hvv
      rw[Array.getD_eq_getD_getElem?,hu2]at hcu
      refine fin u v ?_ hcu hB
      have:=noAgg_sound (P:=P) h2 w
      simp only[Go.part,Sem.run_bind,this,Result.andThen_ok,Bool.false_eq_true,if_false,hu2,Sem.run_pure]
     ·simp at hA
    ·rename_i hn1
     have h2':aggB P fd.type n=true:=by
      revert h2
      split
      ·exact fun _=>(hn1 rfl).elim
      ·exact fun h=>h
     obtain ⟨g1,g2⟩:=aggB_sound h2' w
     refine fin (.agg (cs.extract fd.offset (fd.offset+n))) _ (by simp[Go.part,Sem.run_bind,g1,g2]) ?_ hA
     have hget:∀i,i<n→(cs.extract fd.offset (fd.offset+n)).getD i undef=cs.getD (fd.offset+i) undef:=fun i hi=>by
      have q1:i<min (fd.offset+n) cs.size - fd.offset:=by omega
      have q2:fd.offset+i<cs.size:=by omega
      simp only[Array.getD_eq_getD_getElem?,Array.getElem?_extract]
      simp[q1,q2]
     refine .agg_mk (by simp;omega) (fun i hi=> ?_) (fun i u hi=> ?_)
     ·have hi':i<n:=by simp at hi;omega
      rw[hget i hi'];exact c3 _ (by omega)
     ·rw[List.getElem?_take]at hi
      split at hi
      ·rename_i hin
       rw[hget i hin]
       rw[List.getElem?_drop]at hi
       exact c2 _ _ hi
      ·cases hi
   ·simp at hf
  ·simp at hf
 ·simp at h
def aeqWB (P:Program) (t:TypeId) (l:L):Bool:=wideB P t l&& !P.eqGuardType P.depth t
theorem s_aeqW {neg:Bool} {op:BinOp} {t u:TypeId} {l:L} {ob:Obj} {av:AV} {no:Option Obj} (ho:o.op= .binOp op t x y u) (hop:op=(if neg then .neq else .eql)) (hB:aeqWB P t l=true)
 (hx:opdOk P T x ax=true) (hy:opdOk P T y ay=true)
 (h:opO E F St ob (.aeq neg l ax ay) base ret2=some (av,no)):no=none∧Done P o a w (OpPost P T S pl St w St av):=by
 simp only[aeqWB,Bool.and_eq_true,Bool.not_eq_true']at hB
 obtain ⟨hf,hg⟩:=hB
 obtain ⟨ks,hks⟩:∃ks,l= .agg ks:=by
  unfold wideB at hf
  split at hf
  ·exact ⟨_,rfl⟩
  ·exact ⟨_,rfl⟩
  ·simp at hf
 simp only[opO]at h
 obtain ⟨l1,rx,e1,hA⟩:=asD_some h
 obtain ⟨l2,ry,e2,hC⟩:=asD_some hA
 obtain ⟨hb,hD⟩:=check_some hC
 simp only[Bool.and_eq_true]at hb
 obtain rfl:=L.beq_eq hb.1
 obtain rfl:=L.beq_eq hb.2
 simp only[ret2,Option.some.injEq,Prod.mk.injEq]at hD
 obtain ⟨rfl,rfl⟩:=hD
 have hvx:=opd_soundD hs hx hF;rw[e1]at hvx
 have hvy:=opd_soundD hs hy hF;rw[e2]at hvy
 have hrx:=hvx.of_d
 have hry:=hvy.of_d
 have hrun:(Op.equalIn 10000 t (a.eval x) (a.eval y)).run P w= .ok (ceq l.ks rx ry) w:=wide_equal hf hrx hry
 subst hks
 obtain ⟨xs,hxs,_⟩:=hrx
 obtain ⟨ys,hys,_⟩:=hry
 rw[hxs,hys]at hrun
 refine ⟨rfl,done_run (v:= .bool (xorB neg (ceq (L.agg ks).ks rx ry))) (w':=w) ?_ (.same hs (relB _))⟩
 unfold execOp
 simp only[ho,hxs,hys]
 refine run_v ?_
 rw[Sem.run_bind,run_eqGuard_agg w op t x y xs ys hg]
 simp only[Result.andThen_ok]
 cases neg
 ·simp at hop;subst hop
  rw[run_eql_struct,hrun];rfl
 ·simp at hop;subst hop
  rw[run_neq_struct,hrun];rfl
end
end Go.Ev
namespace Go.Ev
variable {E:Env} {P:Program} {T:Nat→AFn} {S S':Stab} {pl pl':Pl} {St St':Ev.St} {F:Fr} {a:Act} {w w':World}
theorem RepRows.takeN {l:L} {xs:List Value} {rows:List Row} (h:RepRows P T S l xs rows) {k:Nat} (hk:k≤rows.length):RepRows P T S l (xs.take (k*l.n)) (rows.take k):=by
 have hlen:=h.len
 have hle:=Nat.mul_le_mul_right l.n hk
 refine ⟨by rw[List.length_take,List.length_take,Nat.min_eq_left hk];omega,fun i r hi=> ?_⟩
 rw[List.getElem?_take]at hi
 split at hi
 ·rename_i hik
  have:=h.row i r hi
  have hexp:(i+1)*l.n=i*l.n+l.n:=Nat.succ_mul _ _
  have hle2:=Nat.mul_le_mul_right l.n (show i+1≤k from hik)
  rw[List.drop_take,List.take_take,show min l.n (k*l.n - i*l.n)=l.n by omega]
  exact this
 ·cases hi
theorem RepRows.dropN {l:L} {xs:List Value} {rows:List Row} (h:RepRows P T S l xs rows) {k:Nat}:RepRows P T S l (xs.drop (k*l.n)) (rows.drop k):=by
 have hlen:=h.len
 refine ⟨by simp[Nat.sub_mul];omega,fun i r hi=> ?_⟩
 rw[List.getElem?_drop]at hi
 have:=h.row _ r hi
 rw[List.drop_drop,←Nat.add_mul]
 exact this
theorem RepRows.splice {l:L} {xs ys:List Value} {rows rs:List Row} {off:Nat} (h:RepRows P T S l xs rows) (h2:RepRows P T S l ys rs) (hy:ys.length=rs.length*l.n) (ho:off+rs.length≤rows.length):
 RepRows P T S l (xs.take (off*l.n)++ys++xs.drop (off*l.n+ys.length)) (rows.take off++rs++rows.drop (off+rs.length)):=by
 have hlen:=h.len
 have hle:=Nat.mul_le_mul_right l.n (show off≤rows.length by omega)
 have e1:(xs.take (off*l.n)).length=(rows.take off).length*l.n:=by
  rw[List.length_take,List.length_take,Nat.min_eq_left (by omega),Nat.min_eq_left (by omega)]
 have e2:(xs.take (off*l.n)++ys).length=(rows.take off++rs).length*l.n:=by
  rw[List.length_append,List.length_append,e1,hy,Nat.add_mul]
 have e3:off*l.n+ys.length=(off+rs.length)*l.n:=by rw[hy,Nat.add_mul]
 rw[e3]
 exact ((h.takeN (by omega)).app e1 h2).app e2 h.dropN
theorem run_bounds3 {len cap:Nat} {k1 k2 k3:IntKind} {m n q:Int} (h0:0≤m) (h1:m≤n) (h2:n≤q) (h3:q≤cap) (w:World):
 (Instr.sliceBounds true len cap (some (.int k1 m)) (some (.int k2 n)) (some (.int k3 q))).run P w= .ok (m.toNat,n.toNat,q.toNat) w:=by
 have en:(n.toNat:Int)=n:=Int.toNat_of_nonneg (by omega)
 have eq:(q.toNat:Int)=q:=Int.toNat_of_nonneg (by omega)
 have hn0:0≤n:=by omega
 have hq0:0≤q:=by omega
 simp[Instr.sliceBounds,run_sliceBound,h0,h1,h2,h3,hn0,hq0,en,eq]
def clrB (P:Program) (t e:TypeId) (l:L) (z:Row):Bool:=
 elemB P t e l&&Nat.blt 0 l.n&&(match P.info? e with |some i=>(match i.zero with |some zv=>Nat.beq zv.cells.size l.n&&constOk l zv z |none=>false)|none=>false)
theorem zeroCells_rows {l:L} {zv:Value} {z:Row} (hzr:RepR P T S l.ks zv.cells.toList z) (hn:0<l.n) (n:Nat):RepRows P T S l (Builtin.zeroCells zv.cells n).toList (List.replicate n z):=by
 have hzs:zv.cells.size=l.n:=by have:=hzr.clen;simpa[L.n]using this
 have h:=repRows_replicate hzr hn n
 rw[←hzs]at h
 exact h
section
variable {o:Oper} {x y c:Operand} {ax ay ac:Opd} {base:Nat}
variable (hs:Sim P T S pl St w) (hF:RelF P T S pl St F a.tmps)
include hs hF
theorem s_slc3 {t e:TypeId} {l:L} {lo hi mx:Operand} {alo ahi amx:Opd} {ob:Obj} {av:AV} {no:Option Obj} (ho:o.op= .slice t x (some lo) (some hi) (some mx)) (hel:elemB P t e l=true) (hx:opdOk P T x ax=true)
 (hlo:opdOk P T lo alo=true) (hhi:opdOk P T hi ahi=true) (hmx:opdOk P T mx amx=true) (hob:∀id,tgtV (ax.ev F)=some id→St[id]? =some ob)
 (h:opO E F St ob (.slc3 e l ax alo ahi amx) base ret2=some (av,no)):no=none∧Done P o a w (OpPost P T S pl St w St av):=by
 obtain ⟨hu,hL⟩:=elemB_sound hel
 have hv:=opd_sound hs hx hF
 simp only[opO]at h
 split at h
 ·rename_i id v ex
  have hob:=hob id (by rw[ex];rfl)
  rw[ex]at hv
  obtain ⟨l',c,rfl,hA⟩:=asArr_some h
  obtain ⟨hlb,hA2⟩:=check_some hA
  rcases hs.objs _ _ hob with hq |⟨rows,cur,e5,i,hq,hh,q1,q2,q3,q4,q5,q6,q7⟩
  ·subst hq;simp[asRows]at hA2
  ·subst hq
   simp only[asRows]at hA2
   obtain ⟨k1,r1,e1,hB⟩:=asI_some hA2
   obtain ⟨k2,r2,e2,hC⟩:=asI_some hB
   obtain ⟨k3,r3,e3,hD⟩:=asI_some hC
   obtain ⟨hlt,hE⟩:=ite_some hD
   simp only[ret2,Option.some.injEq,Prod.mk.injEq]at hE
   obtain ⟨rfl,rfl⟩:=hE
   have g1:=opd_soundD hs hlo hF;rw[e1]at g1;have g1:=g1.of_int
   have g2:=opd_soundD hs hhi hF;rw[e2]at g2;have g2:=g2.of_int
   have g3:=opd_soundD hs hmx hF;rw[e3]at g3;have g3:=g3.of_int
   have ev:=(hv.of_whole hob).2 _ rfl
   have hb:=run_bounds3 (P:=P) (len:=rows.length) (cap:=pl.cap id) (k1:=k1) (k2:=k2) (k3:=k3) hlt.1 hlt.2.1 hlt.2.2.1 (by omega) w
   refine ⟨rfl,done_run (v:= .slice (if ((at_ r3 0).toI.toNat)=((at_ r1 0).toI.toNat)then some ⟨pl.blk id,0,none⟩else (some (⟨pl.blk id,0,none⟩:Addr)).map (·.add ((at_ r1 0).toI.toNat*l.n))) ((at_ r2 0).toI.toNat - (at_ r1 0).toI.toNat) ((at_ r3 0).toI.toNat - (at_ r1 0).toI.toNat)) (w':=w) ?_ (.same hs .undef)⟩
   simp only[execOp,ho]
   refine run_v ?_
   rw[ev]
   simp[Instr.sliceAt,Instr.slice,run_underlying hu,g1,g2,g3,hb,hL.size w]
 ·simp at h
theorem s_movT {ob:Obj} {av:AV} {no:Option Obj} (ho:o.op= .move x∨o.op= .assign x) (hx:opdOk P T x ax=true) (hob:∀id,tgtV (ax.ev F)=some id→St[id]? =some ob)
 (h:opO E F St ob (.movT ax) base ret2=some (av,no)):∃id o',tgtV (ax.ev F)=some id∧no=some o'∧Done P o a w (OpPost P T S pl St w (St.set id o') av):=by
 have hv:=opd_sound hs hx hF
 simp only[opO]at h
 split at h
 ·rename_i id v off len ex
  have hob:=hob id (by rw[ex];rfl)
  rw[ex]at hv
  obtain ⟨l',c,rfl,hA⟩:=asArr_some h
  rcases hs.objs _ _ hob with hq |⟨rows,cur,e5,i,hq,hh,q1,q2,q3,q4,q5,q6,q7⟩
  ·subst hq;simp[asRows]at hA
  ·subst hq
   simp only[asRows]at hA
   obtain ⟨rfl,hD⟩:=ite_some hA
   simp only[ret2,Option.some.injEq,Prod.mk.injEq]at hD
   obtain ⟨rfl,rfl⟩:=hD
   obtain ⟨ad,e1,h1,h2,h3⟩:=hv.of_ownX hob
   obtain rfl:=h3 (.inr rfl)
   refine ⟨id,_,by rw[ex];rfl,rfl, ?_⟩
   have hr:(execOp a.eval o).run P w= .ok (.value (a.eval x)) w:=by
    rcases ho with ho |ho<;>simp[execOp,ho]
   refine done_run hr ?_
   rw[e1]
   refine arr_post (b:=pl.blk id) (cap:=pl.cap id) hs hob (.inr ⟨v,_,rfl,Nat.lt_succ_self v⟩) ⟨rfl,rfl,rfl⟩ (Nat.le_refl _) (fun _ _ _=>rfl) (.inl ⟨rfl,rfl⟩) ?_ (.inr ⟨_,rfl,by simp;omega⟩)
   refine .inr ⟨_,cur,e5,i,rfl,by rw[Pl.at_blk];exact hh,q1,q2,q3,by rw[Pl.at_cap];simp;omega,by rw[Pl.at_cap];exact q5,by rw[Pl.at_cap];exact q6,fun j r hj=> ?_⟩
   rw[List.getElem?_take]at hj
   split at hj
   ·exact q7 j r hj
   ·cases hj
 ·simp at h
theorem s_appM {t e:TypeId} {l:L} {bytes:Nat} {ob:Obj} {av:AV} {no:Option Obj} (ho:o.op= .call {callee:= .builtin .append,args:=#[x,y],argTypes:=#[t,t]})
 (hB:appB P t e l bytes=true) (hx:opdOk P T x ax=true) (hy:opdOk P T y ay=true) (hob:∀id,tgtV (ax.ev F)=some id→St[id]? =some ob)
 (h:opO E F St ob (.appM e l ax ay) base ret2=some (av,no)):∃id o',tgtV (ax.ev F)=some id∧no=some o'∧Done P o a w (OpPost P T S pl St w (St.set id o') av):=by
 obtain ⟨hu,hL,hn,hby,inf,zv,hi,hib,hz,hzs,hsz⟩:=appB_sound hB
 have hvx:=opd_sound hs hx hF
 have hvy:=opd_sound hs hy hF
 simp only[opO]at h
 split at h
 ·rename_i id v off len id2 v2 off2 len2 ex ey
  have hob:=hob id (by rw[ex];rfl)
  rw[ex]at hvx
  rw[ey]at hvy
  obtain ⟨l',c,rfl,hA⟩:=asArr_some h
  obtain ⟨hb,hA2⟩:=check_some hA
  simp only[Bool.and_eq_true]at hb
  obtain rfl:=Nat.eq_of_beq_eq_true hb.1.1
  obtain rfl:=Nat.eq_of_beq_eq_true hb.1.2
  obtain rfl:=L.beq_eq hb.2
  rcases hs.objs _ _ hob with hq |⟨rows,cur,e5,i,hq,hh,q1,q2,q3,q4,q5,q6,q7⟩
  ·subst hq;simp[asRows]at hA2
  ·subst hq
   simp only[asRows]at hA2
   obtain ⟨⟨rfl,hle⟩,hD⟩:=ite_some hA2
   simp only[ret2,Option.some.injEq,Prod.mk.injEq]at hD
   obtain ⟨rfl,rfl⟩:=hD
   obtain ⟨ad1,e1,a1,a2,a3⟩:=hvx.of_ownX hob
   obtain rfl:=a3 (.inr rfl)
   obtain ⟨ad2,e2,b1,b2,b3⟩:=hvy.of_ownX hob
   have hlt:id<St.length:=(List.getElem?_eq_some_iff.1 hob).1
   have hrr:RepRows P T S l cur.toList rows:=⟨by rw[show cur.toList.length=cur.size from Array.length_toList,q6];exact Nat.mul_le_mul_right _ q4,q7⟩
   refine ⟨id,_,by rw[ex];rfl,rfl, ?_⟩
   by_cases hm:len2=0
   ·subst hm
    have he:rows.take len++(rows.drop off2).take 0++rows.drop (len+0)=rows:=by simp
    rw[he]
    have hset:St.set id (.arr v l (.sl rows))=St:=by
     apply List.ext_getElem?
     intro j
     by_cases hj:j=id
     ·subst hj;rw[List.getElem?_set_self hlt,hob]
     ·rw[List.getElem?_set_ne (Ne.symm hj)]
    rw[hset]
    refine done_run (exec_append hs hF ho (v':= .slice (some ⟨pl.blk id,0*l.n,none⟩) len (pl.cap id - 0)) (w':=w) ?_) (.same hs ?_)
    ·rw[e1,e2]
     exact run_append_none hu hi _ _ _ (by omega) _ _ w
    ·exact .own_mk hob rfl q4 (by omega) (fun _=>rfl)
   ·obtain rfl:=b3 (.inl hm)
    have hcl:cur.toList.length=pl.cap id*l.n:=by simpa using q6
    have hrow2:RepRows P T S l ((cur.toList.drop (off2*l.n)).take (len2*l.n)) ((rows.drop off2).take len2):=(hrr.dropN (k:=off2)).takeN (by simp;omega)
    have hlen2:((rows.drop off2).take len2).length=len2:=by simp;omega
    have hmul1:=Nat.mul_le_mul_right l.n (show off2+len2≤pl.cap id by omega)
    have hmul2:(off2+len2)*l.n=off2*l.n+len2*l.n:=Nat.add_mul _ _ _
    have hmul3:=Nat.mul_le_mul_right l.n hle
    have hnl:((cur.toList.drop (off2*l.n)).take (len2*l.n)).length=len2*l.n:=by rw[List.length_take,List.length_drop,hcl];omega
    have hnews:∀j u,((cur.toList.drop (off2*l.n)).take (len2*l.n))[j]? =some u→w.cell? ((⟨pl.blk id,off2*l.n,none⟩:Addr).add j)=some u:=by
     intro j u hj
     rw[List.getElem?_take]at hj
     split at hj
     ·rw[List.getElem?_drop]at hj
      rw[add_eq _ rfl,cell_of_row w _ _ _ _ _ hh]
      simpa using hj
     ·cases hj
    have hone:∀u∈(cur.toList.drop (off2*l.n)).take (len2*l.n),u.oneCell'=true:=by
     intro u hu2
     obtain ⟨j,hj,rfl⟩:=List.getElem_of_mem hu2
     have hjl:j<len2*l.n:=by omega
     have hd1:j/l.n<len2:=Nat.div_lt_of_lt_mul (by rw[Nat.mul_comm];exact hjl)
     have hd2:j % l.n<l.n:=Nat.mod_lt _ hn
     have hdm:l.n*(j/l.n)+j % l.n=j:=Nat.div_add_mod j l.n
     have hrw:=hrow2.row (j/l.n) _ (List.getElem?_eq_getElem (by rw[hlen2];exact hd1))
     refine hrw.oneCells _ ?_
     have:(((cur.toList.drop (off2*l.n)).take (len2*l.n)).drop (j/l.n*l.n)).take l.n≠[]∨True:= .inr trivial
     refine List.mem_iff_getElem?.2 ⟨j % l.n, ?_⟩
     rw[List.getElem?_take,if_pos hd2,List.getElem?_drop,show j/l.n*l.n+j % l.n=j by rw[Nat.mul_comm];exact hdm]
     exact List.getElem?_eq_getElem hj
    have hroom:len+len2≤pl.cap id:=by omega
    have hfit:len*inf.size+((cur.toList.drop (off2*l.n)).take (len2*l.n)).length≤cur.size:=by rw[hnl,hsz,q6];omega
    have hr:=append_room (P:=P) w t o.type e e5 inf hu hi (pl.blk id) len (pl.cap id) cur hh ⟨pl.blk id,off2*l.n,none⟩ len2 (pl.cap id - off2) _ (by rw[hsz];exact hnl) hnews hone hroom hfit
    refine done_run (exec_append hs hF ho (v':= .slice (some ⟨pl.blk id,0,none⟩) (len+len2) (pl.cap id)) (by rw[e1,e2];simpa using hr)) ?_
    have hspl:=hrr.splice (off:=len) hrow2 (by rw[hnl,hlen2]) (by rw[hlen2];omega)
    have hlen3:(rows.take len++(rows.drop off2).take len2++rows.drop (len+len2)).length=rows.length:=by simp;omega
    have hnew:(St.set id (Obj.arr v l (.sl (rows.take len++(rows.drop off2).take len2++rows.drop (len+len2)))))[id]? =some (.arr v l (.sl (rows.take len++(rows.drop off2).take len2++rows.drop (len+len2)))):=List.getElem?_set_self hlt
    refine set_post hs hob (by simp) rfl rfl hh (Keeps.set hob (fun _=>⟨by simp,fun _ _ h=>by simp at h,fun _ _ h=>by simp at h,fun v l c h=> ?_,fun _ _ _ _ h=>by simp at h,fun _ _ _ h=>by simp at h⟩)) (fun w' hw'=> ?_) ?_
    ·simp only[Obj.arr.injEq]at h
     obtain ⟨rfl,rfl,rfl⟩:=h
     exact ⟨_,_,rfl,Nat.le_refl _,fun _=>⟨fun h=>by simp at h,fun rs h=>⟨rows,rfl,by simp only[C.sl.injEq]at h;subst h;exact hlen3.symm⟩⟩⟩
    ·refine .inr ⟨_,_,_,i,rfl,hw',q1,q2,q3,by rw[hlen3];exact q4,q5, ?_,fun j r hj=> ?_⟩
     ·rw[hsz]
      simp only[List.size_toArray,List.length_append,List.length_take,List.length_drop,hnl,Array.length_toList,q6]
      omega
     ·rw[List.toList_toArray,hsz]
      rw[hlen2]at hspl
      simpa using hspl.row j r hj
    ·exact .own_mk hnew (by omega) (by rw[hlen3];exact q4) (by rw[hlen3];omega) (fun _=>by simp)
 ·simp at h
theorem s_clr {t e:TypeId} {l:L} {z:Row} {ob:Obj} {av:AV} {no:Option Obj} (ho:o.op= .call {callee:= .builtin .clear,args:=#[x],argTypes:=#[t]})
 (hB:clrB P t e l z=true) (hx:opdOk P T x ax=true) (hob:∀id,tgtV (ax.ev F)=some id→St[id]? =some ob)
 (h:opO E F St ob (.clr e l z ax) base ret2=some (av,no)):∃id o',tgtV (ax.ev F)=some id∧no=some o'∧Done P o a w (OpPost P T S pl St w (St.set id o') av):=by
 simp only[clrB,Bool.and_eq_true]at hB
 obtain ⟨⟨hel,hn0⟩,hzb⟩:=hB
 obtain ⟨hu,hL⟩:=elemB_sound hel
 have hn:0<l.n:=by simpa using hn0
 split at hzb
 ·rename_i inf hi
  split at hzb
  ·rename_i zv hz
   simp only[Bool.and_eq_true]at hzb
   have hzs:zv.cells.size=l.n:=Nat.eq_of_beq_eq_true hzb.1
   have hzr:=(constOk_sound (P:=P) (T:=T) (S:=S) hzb.2).cells
   have hvx:=opd_sound hs hx hF
   simp only[opO]at h
   split at h
   ·rename_i id v off len ex
    have hob:=hob id (by rw[ex];rfl)
    rw[ex]at hvx
    obtain ⟨l',c,rfl,hA⟩:=asArr_some h
    obtain ⟨hb,hA2⟩:=check_some hA
    obtain rfl:=L.beq_eq hb
    rcases hs.objs _ _ hob with hq |⟨rows,cur,e5,i,hq,hh,q1,q2,q3,q4,q5,q6,q7⟩
    ·subst hq;simp[asRows]at hA2
    ·subst hq
     simp only[asRows]at hA2
     simp only[ret2,Option.some.injEq,Prod.mk.injEq]at hA2
     obtain ⟨rfl,rfl⟩:=hA2
     obtain ⟨ad1,e1,a1,a2,a3⟩:=hvx.of_ownX hob
     have hlt:id<St.length:=(List.getElem?_eq_some_iff.1 hob).1
     have hrr:RepRows P T S l cur.toList rows:=⟨by rw[show cur.toList.length=cur.size from Array.length_toList,q6];exact Nat.mul_le_mul_right _ q4,q7⟩
     refine ⟨id,_,by rw[ex];rfl,rfl, ?_⟩
     have hexec:∀{w':World},(Builtin.clear_ #[t] o.type #[a.eval x]).run P w= .ok (.tuple #[]) w'→(execOp a.eval o).run P w= .ok (.value (.tuple #[])) w':=by
      intro w' h
      unfold execOp
      simp only[ho,resolve,invoke,builtin,Sem.run_bind,Sem.run_pure,Result.andThen_ok,List.map_toArray,List.map_cons,List.map_nil,h]
     by_cases hm:len=0
     ·subst hm
      have he:rows.take off++List.replicate 0 z++rows.drop (off+0)=rows:=by simp
      rw[he]
      have hset:St.set id (.arr v l (.sl rows))=St:=by
       apply List.ext_getElem?
       intro j
       by_cases hj:j=id
       ·subst hj;rw[List.getElem?_set_self hlt,hob]
       ·rw[List.getElem?_set_ne (Ne.symm hj)]
      rw[hset]
      refine done_run (hexec (w':=w) ?_) (.same hs .undef)
      rw[e1]
      simp[Builtin.clear_,run_underlying hu]
     ·obtain rfl:=a3 (.inl hm)
      have hz2:=zeroCells_rows (P:=P) (T:=T) (S:=S) hzr hn len
      have hzl:(Builtin.zeroCells zv.cells len).toList.length=len*l.n:=by simp[size_zeroCells,hzs]
      have hmul1:=Nat.mul_le_mul_right l.n (show off+len≤pl.cap id by omega)
      have hmul2:(off+len)*l.n=off*l.n+len*l.n:=Nat.add_mul _ _ _
      have hone:∀u∈(Builtin.zeroCells zv.cells len).toList,u.oneCell'=true:=by
       intro u hu2
       obtain ⟨j,hj,rfl⟩:=List.getElem_of_mem hu2
       have hjl:j<len*l.n:=by omega
       have hd1:j/l.n<len:=Nat.div_lt_of_lt_mul (by rw[Nat.mul_comm];exact hjl)
       have hd2:j % l.n<l.n:=Nat.mod_lt _ hn
       have hdm:l.n*(j/l.n)+j % l.n=j:=Nat.div_add_mod j l.n
       have hrw:=hz2.row (j/l.n) _ (List.getElem?_eq_getElem (by simpa using hd1))
       refine hrw.oneCells _ ?_
       refine List.mem_iff_getElem?.2 ⟨j % l.n, ?_⟩
       rw[List.getElem?_take,if_pos hd2,List.getElem?_drop,show j/l.n*l.n+j % l.n=j by rw[Nat.mul_comm];exact hdm]
       exact List.getElem?_eq_getElem hj
      have hst:=run_storeCells_at P (pl.blk id) (off*l.n) e5 (Builtin.zeroCells zv.cells len).toList 0 cur w hh (by rw[hzl,q6];omega) hone
      simp only[Nat.add_zero]at hst
      have hzv:(zeroValue e).run P w= .ok zv w:=by simp[zeroValue,typeInfo,hi,hz]
      have hrun:(Builtin.clear_ #[t] o.type #[a.eval x]).run P w= .ok (.tuple #[]) (w.setRow (pl.blk id) (cur.toList.take (off*l.n)++(Builtin.zeroCells zv.cells len).toList++cur.toList.drop (off*l.n+(Builtin.zeroCells zv.cells len).toList.length)).toArray):=by
       rw[e1]
       obtain ⟨m,rfl⟩:∃m,len=m+1:=⟨len - 1,by omega⟩
       simp[Builtin.clear_,run_underlying hu,hzv,hst]
      refine done_run (hexec hrun) ?_
      have hspl:=hrr.splice (off:=off) hz2 (by rw[hzl];simp) (by simp;omega)
      have hlen3:(rows.take off++List.replicate len z++rows.drop (off+len)).length=rows.length:=by simp;omega
      refine set_post hs hob (by simp) rfl rfl hh (Keeps.set hob (fun _=>⟨by simp,fun _ _ h=>by simp at h,fun _ _ h=>by simp at h,fun v l c h=> ?_,fun _ _ _ _ h=>by simp at h,fun _ _ _ h=>by simp at h⟩)) (fun w' hw'=> ?_) .undef
      ·simp only[Obj.arr.injEq]at h
       obtain ⟨rfl,rfl,rfl⟩:=h
       exact ⟨_,_,rfl,Nat.le_refl _,fun _=>⟨fun h=>by simp at h,fun rs h=>⟨rows,rfl,by simp only[C.sl.injEq]at h;subst h;exact hlen3.symm⟩⟩⟩
      ·refine .inr ⟨_,_,_,i,rfl,hw',q1,q2,q3,by rw[hlen3];exact q4,q5, ?_,fun j r hj=> ?_⟩
       ·simp only[List.size_toArray,List.length_append,List.length_take,List.length_drop,hzl,Array.length_toList,q6]
        omega
       ·rw[List.length_replicate]at hspl
        simpa using hspl.row j r hj
   ·simp at h
  ·simp at hzb
 ·simp at hzb
end
end Go.Ev
namespace Go.Ev
variable {E:Env} {P:Program} {T:Nat→AFn} {S S':Stab} {pl pl':Pl} {St St':Ev.St} {F:Fr} {a:Act} {w w':World}
def BinOp.tag:BinOp→Nat
 | .add=>0 | .sub=>1 | .mul=>2 | .quo=>3 | .rem=>4 | .and=>5 | .or=>6 | .xor=>7 | .shl=>8 | .shr=>9 | .andNot=>10
 | .eql=>11 | .neq=>12 | .lss=>13 | .leq=>14 | .gtr=>15 | .geq=>16
def opB (a b:BinOp):Bool:=Nat.beq (BinOp.tag a) (BinOp.tag b)
theorem opB_eq {a b:BinOp} (h:opB a b=true):a=b:=by
 cases a<;>cases b<;>first |rfl |simp[opB,BinOp.tag]at h
def undB (P:Program) (t:TypeId) (d:TypeDesc→Bool):Bool:=match P.underlying t with |some x=>d x |none=>false
theorem undB_sound {t:TypeId} {d:TypeDesc→Bool} (h:undB P t d=true):∃x,P.underlying t=some x∧d x=true:=by
 unfold undB at h;split at h
 ·exact ⟨_,by assumption,h⟩
 ·simp at h
def isStr:TypeDesc→Bool | .string=>true |_=>false
def isBool:TypeDesc→Bool | .bool=>true |_=>false
def isU8:TypeDesc→Bool | .int .u8=>true |_=>false
def isIntK (k:IntKind):TypeDesc→Bool | .int k'=>Nat.beq (IntKind.tag k) (IntKind.tag k')|_=>false
def isSl:TypeDesc→Bool | .slice _=>true |_=>false
theorem isStr_eq {d:TypeDesc} (h:isStr d=true):d= .string:=by cases d<;>first |rfl |simp[isStr]at h
theorem isBool_eq {d:TypeDesc} (h:isBool d=true):d= .bool:=by cases d<;>first |rfl |simp[isBool]at h
theorem isU8_eq {d:TypeDesc} (h:isU8 d=true):d= .int .u8:=by unfold isU8 at h;split at h<;>first |rfl |simp at h
theorem isIntK_eq {k:IntKind} {d:TypeDesc} (h:isIntK k d=true):d= .int k:=by unfold isIntK at h;split at h<;>first |rw[tag_inj h]|simp at h
theorem isSl_eq {d:TypeDesc} (h:isSl d=true):∃e,d= .slice e:=by unfold isSl at h;split at h<;>first |exact ⟨_,rfl⟩|simp at h
theorem undB_eq {t:TypeId} {d:TypeDesc→Bool} {x:TypeDesc} (h:undB P t d=true) (he:∀y,d y=true→y=x):P.underlying t=some x:=by
 obtain ⟨y,h1,h2⟩:=undB_sound h;rw[h1,he y h2]
theorem undB_some {t:TypeId} {d:TypeDesc→Bool} (h:undB P t d=true):(P.underlying t).isSome=true:=by
 obtain ⟨y,h1,h2⟩:=undB_sound h;rw[h1];rfl
def zeroB (P:Program) (t:TypeId) (f:Value→Bool):Bool:=match P.info? t with |some i=>(match i.zero with |some zv=>f zv |none=>false)|none=>false
theorem zeroB_sound {t:TypeId} {f:Value→Bool} (h:zeroB P t f=true):∃i zv,P.info? t=some i∧i.zero=some zv∧f zv=true:=by
 unfold zeroB at h;split at h
 ·rename_i i hi;split at h
  ·rename_i zv hz;exact ⟨i,zv,hi,hz,h⟩
  ·simp at h
 ·simp at h
def isPtr:TypeDesc→Bool | .pointer _=>true |_=>false
theorem isPtr_eq {d:TypeDesc} (h:isPtr d=true):∃e,d= .pointer e:=by unfold isPtr at h;split at h<;>first |exact ⟨_,rfl⟩|simp at h
def isNilPt:Operand→Bool | .const (.pointer none)=>true |_=>false
theorem isNilPt_eq {x:Operand} (h:isNilPt x=true):x= .const (.pointer none):=by unfold isNilPt at h;split at h<;>first |rfl |simp at h
def isNilSl:Operand→Bool | .const (.slice none 0 0)=>true |_=>false
theorem isNilSl_eq {x:Operand} (h:isNilSl x=true):x= .const (.slice none 0 0):=by unfold isNilSl at h;split at h<;>first |rfl |simp at h
def isNilMp:Operand→Bool | .const (.map none)=>true |_=>false
theorem isNilMp_eq {x:Operand} (h:isNilMp x=true):x= .const (.map none):=by unfold isNilMp at h;split at h<;>first |rfl |simp at h
def negOp (op:BinOp) (neg:Bool):Bool:=opB op (if neg then .neq else .eql)
def fadB (P:Program) (t:TypeId) (f off n:Nat) (u:TypeId):Bool:=
 fieldB P t f off n u&&(match layOf P t,layOf P u with |some l',some l=>layB P t l'&&layB P u l&&Nat.beq l.n n&&ksBeq l.ks ((l'.ks.drop off).take l.n)|_,_=>false)
def lenOk (P:Program) (c:Call) (b:Builtin):Bool:=true
def isLen:Builtin→Bool | .len=>true |_=>false
def isClr:Builtin→Bool | .clear=>true |_=>false
theorem isClr_eq {b:Builtin} (h:isClr b=true):b= .clear:=by unfold isClr at h;split at h<;>first |rfl |simp at h
def isApp:Builtin→Bool | .append=>true |_=>false
def isMM (mx:Bool):Builtin→Bool | .max=>mx | .min=> !mx |_=>false
theorem isLen_eq {b:Builtin} (h:isLen b=true):b= .len:=by unfold isLen at h;split at h<;>first |rfl |simp at h
theorem isApp_eq {b:Builtin} (h:isApp b=true):b= .append:=by unfold isApp at h;split at h<;>first |rfl |simp at h
theorem isMM_eq {mx:Bool} {b:Builtin} (h:isMM mx b=true):b=(if mx then .max else .min):=by unfold isMM at h;split at h<;>simp_all
def isFnB (f:Nat):Operand→Bool | .func f'=>Nat.beq f' f |_=>false
def calleeB (P:Program) (T:Nat→AFn) (x:Operand) (f:Nat) (ax:Option Opd):Bool:=match ax with |none=>isFnB f x |some ay=>opdOk P T x ay
def okOp (P:Program) (T:Nat→AFn) (op:Op) (ao:AOp):Bool:=
 match ao with
 | .mov ax=>(match op with | .move x=>opdOk P T x ax | .assign x=>opdOk P T x ax |_=>false)
 | .nilM=>(match op with | .move x=>isNilMp x | .assign x=>isNilMp x |_=>false)
 | .nchk ax=>(match op with | .nilCheck x=>opdOk P T x ax |_=>false)
 | .cvS ax=>(match op with | .convert s t x=>undB P s isStr&&undB P t isStr&&opdOk P T x ax |_=>false)
 | .nilS _ _ _=>(match op with | .move x=>isNilSl x | .assign x=>isNilSl x |_=>false)
 | .nilO _ _=>(match op with | .move x=>isNilSl x | .assign x=>isNilSl x |_=>false)
 | .pick ac ax ay=>(match op with | .pick c x y=>opdOk P T c ac&&opdOk P T x ax&&opdOk P T y ay |_=>false)
 | .ibin bo ax ay=>(match op with | .binOp bo' _ x y _=>opB bo' bo&&opdOk P T x ax&&opdOk P T y ay |_=>false)
 | .idiv bo ax ay=>(match op with | .binOp bo' _ x y _=>opB bo' bo&&opdOk P T x ax&&opdOk P T y ay |_=>false)
 | .shf bo ax ay=>(match op with | .binOp bo' _ x y _=>opB bo' bo&&opdOk P T x ax&&opdOk P T y ay |_=>false)
 | .icmp bo ax ay=>(match op with | .binOp bo' _ x y _=>opB bo' bo&&opdOk P T x ax&&opdOk P T y ay |_=>false)
 | .scat ax ay=>(match op with | .binOp bo' _ x y _=>opB bo' .add&&opdOk P T x ax&&opdOk P T y ay |_=>false)
 | .scmp bo ax ay=>(match op with | .binOp bo' _ x y _=>opB bo' bo&&opdOk P T x ax&&opdOk P T y ay |_=>false)
 | .bcmp neg ax ay=>(match op with | .binOp bo' t x y _=>negOp bo' neg&&undB P t isBool&&opdOk P T x ax&&opdOk P T y ay |_=>false)
 | .nileq neg ax=>(match op with | .binOp bo' t x y _=>negOp bo' neg&&undB P t isSl&&((isNilSl y&&opdOk P T x ax)||(isNilSl x&&opdOk P T y ax))|_=>false)
 | .not ax=>(match op with | .unOp .not _ x=>opdOk P T x ax |_=>false)
 | .ineg ax=>(match op with | .unOp .neg _ x=>opdOk P T x ax |_=>false)
 | .icpl ax=>(match op with | .unOp .xor _ x=>opdOk P T x ax |_=>false)
 | .i2i k ax=>(match op with | .convert s t x=>undB P s (fun _=>true)&&undB P t (isIntK k)&&opdOk P T x ax |_=>false)
 | .s2b e ax=>(match op with | .convert s t x=>undB P s (fun _=>true)&&elemB P t e (.one (.int .u8))&&undB P e isU8&&opdOk P T x ax |_=>false)
 | .b2s e ax=>(match op with | .convert s t x=>elemB P s e (.one (.int .u8))&&undB P e isU8&&undB P t isStr&&opdOk P T x ax |_=>false)
 | .boxP l t ax=>(match op with | .box t' x=>Nat.beq t' t&&layB P t l&&opdOk P T x ax |_=>false)
 | .boxO _ _ ax=>(match op with | .box _ x=>opdOk P T x ax |_=>false)
 | .boxC _ ax=>(match op with | .box _ x=>opdOk P T x ax |_=>false)
 | .allocO _ l z=>(match op with | .alloc t=>zeroB P t (fun zv=>constOk l zv z)|_=>false)
 | .allocC _=>(match op with | .alloc t=>zeroB P t (fun zv=>Nat.beq zv.cells.size 1&&zsOk [none] zv.cells.toList)|_=>false)
 | .boxA _ ax=>(match op with | .box _ x=>opdOk P T x ax |_=>false)
 | .allocA _ zs=>(match op with | .alloc t=>zeroB P t (fun zv=>zsOk zs zv.cells.toList)|_=>false)
 | .ldA n ax=>(match op with | .load t x=>aggB P t n&&opdOk P T x ax |_=>false)
 | .stA n ax ay=>(match op with | .store t x y=>sizeB P t n&&opdOk P T x ax&&opdOk P T y ay |_=>false)
 | .ptrnil neg ax=>(match op with | .binOp bo' t x y _=>negOp bo' neg&&undB P t isPtr&&((isNilPt y&&opdOk P T x ax)||(isNilPt x&&opdOk P T y ax))|_=>false)
 | .ld l t ax=>(match op with | .load t' x=>Nat.beq t' t&&layB P t l&&Nat.blt 0 l.n&&opdOk P T x ax |_=>false)
 | .ldC ax=>(match op with | .load t x=>noAgg P t&&opdOk P T x ax |_=>false)
 | .st l ax ay=>(match op with | .store t x y=>sizeB P t l.n&&Nat.blt 0 l.n&&opdOk P T x ax&&opdOk P T y ay |_=>false)
 | .ldH h l ax=>(match op with | .load t x=>layB P t l&&Nat.blt 0 l.n&&(!h ||noAgg P t)&&opdOk P T x ax |_=>false)
 | .stF l ax ay=>(match op with | .store t x y=>sizeB P t l.n&&Nat.blt 0 l.n&&opdOk P T x ax&&opdOk P T y ay |_=>false)
 | .stH ax ay=>(match op with | .store t x y=>sizeB P t 1&&opdOk P T x ax&&opdOk P T y ay |_=>false)
 | .stC ax ay=>(match op with | .store t x y=>sizeB P t 1&&opdOk P T x ax&&opdOk P T y ay |_=>false)
 | .fad off n t u ax=>(match op with | .fieldAddr t' x f=>Nat.beq t' t&&fadB P t f off n u&&opdOk P T x ax |_=>false)
 | .fld off l ax=>(match op with | .field t x f=>fldB P t f off l&&opdOk P T x ax |_=>false)
 | .bld l z aparts=>(match op with | .build t parts=>(match l with | .agg _=>true | .one _=>false)&&bldB P T t l z parts.toList aparts |_=>false)
 | .bslO _ e l n z aparts=>(match op with | .buildSlice t n' parts=>Nat.beq n' n&&bslB P T t e l n z parts.toList aparts |_=>false)
 | .bslS _ e l n z aparts=>(match op with | .buildSlice t n' parts=>Nat.beq n' n&&bslB P T t e l n z parts.toList aparts |_=>false)
 | .bsl e l n z aparts=>(match op with | .buildSlice t n' parts=>Nat.beq n' n&&bslB P T t e l n z parts.toList aparts |_=>false)
 | .iad e l ax ai=>(match op with | .indexAddr t x i=>elemB P t e l&&Nat.blt 0 l.n&&opdOk P T x ax&&opdOk P T i ai |_=>false)
 | .idxS ax ai=>(match op with | .index t x i=>undB P t isStr&&opdOk P T x ax&&opdOk P T i ai |_=>false)
 | .lenS ax=>(match op with | .call ⟨.builtin b,⟨[x]⟩,⟨[t]⟩⟩=>isLen b&&undB P t isStr&&opdOk P T x ax |_=>false)
 | .lenL ax=>(match op with | .call ⟨.builtin b,⟨[x]⟩,⟨[t]⟩⟩=>isLen b&&undB P t isSl&&opdOk P T x ax |_=>false)
 | .imin mx axs=>(match op with | .call ⟨.builtin b,xs,_⟩=>isMM mx b&&opdsOk P T xs.toList axs |_=>false)
 | .app _ e l bytes ax ay=>(match op with | .call ⟨.builtin b,⟨[x,y]⟩,⟨[t,t']⟩⟩=>isApp b&&Nat.beq t t'&&appB P t e l bytes&&opdOk P T x ax&&opdOk P T y ay |_=>false)
 | .appW _ e l bytes ax ay=>(match op with | .call ⟨.builtin b,⟨[x,y]⟩,⟨[t,t']⟩⟩=>isApp b&&Nat.beq t t'&&appB P t e l bytes&&opdOk P T x ax&&opdOk P T y ay |_=>false)
 | .appS _ e ax ay=>(match op with | .call ⟨.builtin b,⟨[x,y]⟩,⟨[t,u]⟩⟩=>isApp b&&appSB P t u e&&opdOk P T x ax&&opdOk P T y ay |_=>false)
 | .mkS _ e l z bytes an ac=>(match op with | .makeSlice t n c=>mkB P T t e l z bytes&&opdOk P T n an&&opdOk P T c ac |_=>false)
 | .mk _ e l z bytes an ac=>(match op with | .makeSlice t n c=>mkB P T t e l z bytes&&opdOk P T n an&&opdOk P T c ac |_=>false)
 | .slc e l ax lo hi=>(match op with | .slice t x lo' hi' none=>elemB P t e l&&opdOk P T x ax&&optOk P T lo' lo&&optOk P T hi' hi |_=>false)
 | .slcS ax lo hi=>(match op with | .slice t x lo' hi' none=>undB P t isStr&&opdOk P T x ax&&optOk P T lo' lo&&optOk P T hi' hi |_=>false)
 | .call f ps rs axs=>(match op with | .call ⟨.value (.func f'),xs,_⟩=>Nat.beq f' f&&callB P T f ps rs&&opdsOk P T xs.toList axs |_=>false)
 | .callv t ps rs ax axs=>(match op with | .call ⟨.value x,xs,_⟩=>callvB P t ps rs&&opdOk P T x ax&&opdsOk P T xs.toList axs |_=>false)
 | .mkf f t ks acs=>(match op with | .makeFunc (.func f') ⟨[]⟩ cs=>Nat.beq f' f&&sigB P T t f ks&&opdsOk P T cs.toList acs |_=>false)
 | .mkfO f acs=>(match op with | .makeFunc (.func f') ⟨[]⟩ cs=>Nat.beq f' f&&opdsOk P T cs.toList acs |_=>false)
 | .ext i ax=>(match op with | .extract x i'=>Nat.beq i' i&&opdOk P T x ax |_=>false)
 | .ixbS f ax ay=>(match op with | .call ⟨.value (.func f'),⟨[x,y]⟩,_⟩=>Nat.beq f' f&&(match T f with | .ixb=>true |_=>false)&&opdOk P T x ax&&opdOk P T y ay |_=>false)
 | .cmpS f ax ay=>(match op with | .call ⟨.value (.func f'),⟨[x,y]⟩,_⟩=>Nat.beq f' f&&(match T f with | .cmp=>true |_=>false)&&opdOk P T x ax&&opdOk P T y ay |_=>false)
 | .idxA m l ax ai=>(match op with | .index t x i=>(match P.underlying t with |some (.array _ e)=>arrB P t e m l |_=>false)&&opdOk P T x ax&&opdOk P T i ai |_=>false)
 | .iadA m t e l ax ai=>(match op with | .indexAddr t' x i=>Nat.beq t' t&&arrB P t e m l&&opdOk P T x ax&&opdOk P T i ai |_=>false)
 | .aeq neg l ax ay=>(match op with | .binOp bo' t x y _=>negOp bo' neg&&(aeqB P t l ||aeqWB P t l)&&opdOk P T x ax&&opdOk P T y ay |_=>false)
 | .mkm _ kl vl=>(match op with | .makeMap t none=>mapB P t kl vl |_=>false)
 | .lk kl vl z ax ay ok=>(match op with | .lookup t x y ok'=>(ok'==ok)&&mapB P t kl vl&&(match P.underlying t with |some (.map _ et)=>zeroVB P et (fun zv=>constOk vl zv z)|_=>false)&&opdOk P T x ax&&opdOk P T y ay |_=>false)
 | .mup kl ax ay ac=>(match op with
   | .mapUpdate t x y c=>mapKB P t kl&&opdOk P T x ax&&opdOk P T y ay&&opdOk P T c ac
   | .insert t x y c=>mapKB P t kl&&opdOk P T x ax&&opdOk P T y ay&&opdOk P T c ac
   |_=>false)
 | .lenM ax=>(match op with | .call ⟨.builtin b,⟨[x]⟩,⟨[t]⟩⟩=>isLen b&&(match P.underlying t with |some d=>isMapT d |none=>false)&&opdOk P T x ax |_=>false)
 | .bldA zs aparts=>(match op with | .build t parts=>bldAB P T t zs parts.toList aparts |_=>false)
 | .fldA off n ax=>(match op with | .field t x f=>fldCB P t f off n&&opdOk P T x ax |_=>false)
 | .ent kl vl z ax ay=>(match op with | .mapEntry t x y=>mapB P t kl vl&&(match P.underlying t with |some (.map _ et)=>zeroVB P et (fun zv=>constOk vl zv z)|_=>false)&&opdOk P T x ax&&opdOk P T y ay |_=>false)
 | .est ax as_ ac=>(match op with | .entryStore _ x s c=>opdOk P T x ax&&opdOk P T s as_&&opdOk P T c ac |_=>false)
 | .slc3 e l ax lo hi mx=>(match op with | .slice t x (some a) (some b) (some c)=>elemB P t e l&&opdOk P T x ax&&opdOk P T a lo&&opdOk P T b hi&&opdOk P T c mx |_=>false)
 | .appM e l ax ay=>(match op with | .call ⟨.builtin b,⟨[x,y]⟩,⟨[t,t']⟩⟩=>isApp b&&Nat.beq t t'&&(match P.info? e with |some i=>appB P t e l i.bytes |none=>false)&&opdOk P T x ax&&opdOk P T y ay |_=>false)
 | .clr e l z ax=>(match op with | .call ⟨.builtin b,⟨[x]⟩,⟨[t]⟩⟩=>isClr b&&clrB P t e l z&&opdOk P T x ax |_=>false)
 | .movT ax=>(match op with | .move x=>opdOk P T x ax | .assign x=>opdOk P T x ax |_=>false)
 | .iadV m n ax ai=>(match op with | .indexAddr t x i=>arrVB P t m n&&opdOk P T x ax&&opdOk P T i ai |_=>false)
 | .bad=>true
 | .icall i f en ex _ _ ax axs=>(match op with
   | .call ⟨.value x,xs,_⟩=>(match T i with | .imp af=>Nat.beq af.fn f&&Shape.beq af.entry en&&Shape.beq af.exit ex |_=>false)&&opdsOk P T xs.toList axs&&
     calleeB P T x f ax
   |_=>false)
 |_=>false
def stOf (St:Ev.St) (t:Option Nat) (no:Option Obj):Ev.St:=match no with
 |none=>St
 |some o'=>(match t with |some j=>St.set j o' |none=>St)
section
variable {o:Oper} {x y c:Operand} {ax ay ac:Opd} {base:Nat}
variable (hs:Sim P T S pl St w) (hF:RelF P T S pl St F a.tmps)
include hs hF
theorem s_nchk {ob:Obj} {av:AV} {no:Option Obj} (ho:o.op= .nilCheck x) (hx:opdOk P T x ax=true) (hob:∀id,tgtV (ax.ev F)=some id→St[id]? =some ob)
 (h:opO E F St ob (.nchk ax) base ret2=some (av,no)):no=none∧Done P o a w (OpPost P T S pl St w St av):=by
 have hv:=opd_sound hs hx hF
 simp only[opO]at h
 split at h
 ·rename_i t r ex
  obtain ⟨hn,hA⟩:=ite_some h
  simp only[ret2,Option.some.injEq,Prod.mk.injEq]at hA
  obtain ⟨rfl,rfl⟩:=hA
  rw[ex]at hv
  refine ⟨rfl,done_run (v:=a.eval x) (w':=w) ?_ (.same hs hv)⟩
  obtain ⟨cc,rfl,hrep⟩:=hv.of_d
  have hat:at_ [cc] 0=cc:=rfl
  rw[hat]at hn
  generalize hvv:a.eval x=v at hrep
  cases hrep with
  |nilfn=>simp[C.isNilF]at hn
  |fn vs h1 h2 h3=>simp[execOp,ho,hvv]
 ·rename_i t r ex
  obtain ⟨hdp,h⟩:=ite_some h
  simp only[ret2,Option.some.injEq,Prod.mk.injEq]at h
  obtain ⟨rfl,rfl⟩:=h
  rw[ex]at hv
  refine ⟨rfl,done_run (v:=a.eval x) (w':=w) ?_ (.same hs hv)⟩
  obtain ⟨cc,rfl,hrep⟩:=hv.of_d
  have hat:at_ [cc] 0=cc:=rfl
  rw[hat]at hdp
  generalize hvv:a.eval x=v at hrep
  cases hrep with
  |ref f h1 h2 h3 h4 h5=>simp[execOp,ho,hvv]
  |nilp=>simp[C.isDp]at hdp
 ·rename_i f caps ex
  simp only[ret2,Option.some.injEq,Prod.mk.injEq]at h
  obtain ⟨rfl,rfl⟩:=h
  rw[ex]at hv
  refine ⟨rfl,done_run (v:=a.eval x) (w':=w) ?_ (.same hs hv)⟩
  generalize hvv:a.eval x=v at hv
  cases hv with
  |fn vs h=>simp[execOp,ho,hvv]
 ·rename_i id off ex
  have hob:=hob id (by rw[ex];rfl)
  rw[ex]at hv
  obtain ⟨hk2,hA⟩:=asHas_some h
  simp only[ret2,Option.some.injEq,Prod.mk.injEq]at hA
  obtain ⟨rfl,rfl⟩:=hA
  have e1:=hv.of_has hob hk2
  exact ⟨rfl,done_run (v:=a.eval x) (w':=w) (by simp[execOp,ho,e1]) (.same hs hv)⟩
 ·rename_i id v i off ex
  have hob:=hob id (by rw[ex];rfl)
  rw[ex]at hv
  obtain ⟨l0,c,rfl,hA⟩:=asArr_some h
  simp only[ret2,Option.some.injEq,Prod.mk.injEq]at hA
  obtain ⟨rfl,rfl⟩:=hA
  have e1:=hv.of_aptr hob
  exact ⟨rfl,done_run (v:=a.eval x) (w':=w) (by simp[execOp,ho,e1]) (.same hs hv)⟩
 ·simp at h
theorem s_cvS {s t:TypeId} {ob:Obj} {av:AV} {no:Option Obj} (ho:o.op= .convert s t x) (hs1:P.underlying s=some .string) (ht:P.underlying t=some .string) (hx:opdOk P T x ax=true)
 (h:opO E F St ob (.cvS ax) base ret2=some (av,no)):no=none∧Done P o a w (OpPost P T S pl St w St av):=by
 simp only[opO]at h
 obtain ⟨r1,e1,hA⟩:=asS_some h
 have g1:=opd_soundD hs hx hF;rw[e1]at g1;obtain ⟨b1,h1,q1⟩:=g1.of_str
 simp only[ret2,Option.some.injEq,Prod.mk.injEq]at hA
 obtain ⟨rfl,rfl⟩:=hA
 rw[←q1]
 refine ⟨rfl,done_run (v:= .string b1) (w':=w) ?_ (.same hs (relS _))⟩
 simp[execOp,ho,h1,convert,run_underlying hs1,run_underlying ht]
theorem op_none {ob:Obj} {ao:AOp} {av:AV} {no:Option Obj} (h:no=none∧Done P o a w (OpPost P T S pl St w St av)):Done P o a w (OpPost P T S pl St w (stOf St (tgt F ao base) no) av):=by
 obtain ⟨rfl,h⟩:=h;exact h
theorem op_new {ob:Obj} {ao:AOp} {i:Nat} {av:AV} {no:Option Obj} (ht:tgt F ao base=some i) (h:∃o',no=some o'∧Done P o a w (OpPost P T S pl St w (St.set i o') av)):Done P o a w (OpPost P T S pl St w (stOf St (tgt F ao base) no) av):=by
 obtain ⟨o',rfl,h⟩:=h;rw[ht];exact h
theorem op_turn {ob:Obj} {ao:AOp} {v:AV} {av:AV} {no:Option Obj} (ht:tgt F ao base=tgtV v) (h:∃id o',tgtV v=some id∧no=some o'∧Done P o a w (OpPost P T S pl St w (St.set id o') av)):Done P o a w (OpPost P T S pl St w (stOf St (tgt F ao base) no) av):=by
 obtain ⟨id,o',h1,rfl,h⟩:=h;rw[ht,h1];exact h
theorem op_sound {ao:AOp} {ob:Obj} {av:AV} {no:Option Obj} (hpc:PcOk P T E.pc) (hok:okOp P T o.op ao=true) (hob:∀j,tgt F ao base=some j→St[j]? =some ob)
 (h:opO E F St ob ao base ret2=some (av,no)):Done P o a w (OpPost P T S pl St w (stOf St (tgt F ao base) no) av):=by
 cases ao with
 |mov ax=>
  simp only[okOp]at hok
  simp only[opO,ret2,Option.some.injEq,Prod.mk.injEq]at h
  obtain ⟨rfl,rfl⟩:=h
  split at hok
  ·exact s_mov hs hF (.inl ‹_›) hok
  ·exact s_mov hs hF (.inr ‹_›) hok
  ·simp at hok
 |nilM=>
  simp only[okOp]at hok
  simp only[opO,ret2,Option.some.injEq,Prod.mk.injEq]at h
  obtain ⟨rfl,rfl⟩:=h
  split at hok
  ·refine done_run (v:= .map none) (w':=w) ?_ (.same hs .undef)
   simp[execOp,‹o.op=_›,isNilMp_eq hok,Act.eval]
  ·refine done_run (v:= .map none) (w':=w) ?_ (.same hs .undef)
   simp[execOp,‹o.op=_›,isNilMp_eq hok,Act.eval]
  ·simp at hok
 |nchk ax=>
  simp only[okOp]at hok
  split at hok
  ·exact op_none (ob:=ob) hs hF (s_nchk hs hF ‹_› hok hob h)
  ·simp at hok
 |cvS ax=>
  simp only[okOp]at hok
  split at hok
  ·simp only[Bool.and_eq_true]at hok
   exact op_none (ob:=ob) hs hF (s_cvS hs hF ‹_› (undB_eq hok.1.1 fun _=>isStr_eq) (undB_eq hok.1.2 fun _=>isStr_eq) hok.2 h)
  ·simp at hok
 |nilS id e l=>
  simp only[okOp]at hok
  split at hok
  ·exact op_new (ob:=ob) hs hF rfl (s_nilS hs hF (.inr (by rw[‹o.op=_›,isNilSl_eq hok])) (hob _ rfl) h)
  ·exact op_new (ob:=ob) hs hF rfl (s_nilS hs hF (.inl (by rw[‹o.op=_›,isNilSl_eq hok])) (hob _ rfl) h)
  ·simp at hok
 |nilO id l=>
  simp only[okOp]at hok
  split at hok
  ·exact op_new (ob:=ob) hs hF rfl (s_nilO hs hF (.inr (by rw[‹o.op=_›,isNilSl_eq hok])) (hob _ rfl) h)
  ·exact op_new (ob:=ob) hs hF rfl (s_nilO hs hF (.inl (by rw[‹o.op=_›,isNilSl_eq hok])) (hob _ rfl) h)
  ·simp at hok
 |pick ac ax ay=>
  simp only[okOp]at hok
  split at hok
  ·simp only[Bool.and_eq_true]at hok
   exact op_none (ob:=ob) hs hF (s_pick hs hF ‹_› hok.1.1 hok.1.2 hok.2 h)
  ·simp at hok
 |ibin bo ax ay=>
  simp only[okOp]at hok
  split at hok
  ·simp only[Bool.and_eq_true]at hok
   obtain rfl:=opB_eq hok.1.1
   exact op_none (ob:=ob) hs hF (s_arith hs hF ‹_› hok.1.2 hok.2 h)
  ·simp at hok
 |idiv bo ax ay=>
  simp only[okOp]at hok
  split at hok
  ·simp only[Bool.and_eq_true]at hok
   obtain rfl:=opB_eq hok.1.1
   exact op_none (ob:=ob) hs hF (s_idiv hs hF ‹_› hok.1.2 hok.2 h)
  ·simp at hok
 |shf bo ax ay=>
  simp only[okOp]at hok
  split at hok
  ·simp only[Bool.and_eq_true]at hok
   obtain rfl:=opB_eq hok.1.1
   exact op_none (ob:=ob) hs hF (s_shf hs hF ‹_› hok.1.2 hok.2 h)
  ·simp at hok
 |icmp bo ax ay=>
  simp only[okOp]at hok
  split at hok
  ·simp only[Bool.and_eq_true]at hok
   obtain rfl:=opB_eq hok.1.1
   exact op_none (ob:=ob) hs hF (s_icmp hs hF ‹_› hok.1.2 hok.2 h)
  ·simp at hok
 |scat ax ay=>
  simp only[okOp]at hok
  split at hok
  ·simp only[Bool.and_eq_true]at hok
   obtain rfl:=opB_eq hok.1.1
   exact op_none (ob:=ob) hs hF (s_scat hs hF ‹_› hok.1.2 hok.2 h)
  ·simp at hok
 |scmp bo ax ay=>
  simp only[okOp]at hok
  split at hok
  ·simp only[Bool.and_eq_true]at hok
   obtain rfl:=opB_eq hok.1.1
   exact op_none (ob:=ob) hs hF (s_scmp hs hF ‹_› hok.1.2 hok.2 h)
  ·simp at hok
 |bcmp neg ax ay=>
  simp only[okOp]at hok
  split at hok
  ·simp only[Bool.and_eq_true]at hok
   exact op_none (ob:=ob) hs hF (s_bcmp hs hF ‹_› (opB_eq hok.1.1.1) (undB_eq hok.1.1.2 fun _=>isBool_eq) hok.1.2 hok.2 h)
  ·simp at hok
 |nileq neg ax=>
  simp only[okOp]at hok
  split at hok
  ·simp only[Bool.and_eq_true,Bool.or_eq_true]at hok
   obtain ⟨⟨h1,h2⟩,h3⟩:=hok
   obtain ⟨d,hd,hsl⟩:=undB_sound h2
   obtain ⟨e,rfl⟩:=isSl_eq hsl
   rcases h3 with ⟨h3,h4⟩|⟨h3,h4⟩
   ·exact op_none (ob:=ob) hs hF (s_nileq hs hF (opB_eq h1) hd (.inl (by rw[‹o.op=_›,isNilSl_eq h3])) h4 hob h)
   ·exact op_none (ob:=ob) hs hF (s_nileq hs hF (opB_eq h1) hd (.inr (by rw[‹o.op=_›,isNilSl_eq h3])) h4 hob h)
  ·simp at hok
 |not ax=>
  simp only[okOp]at hok
  split at hok
  ·exact op_none (ob:=ob) hs hF (s_not hs hF ‹_› hok h)
  ·simp at hok
 |ineg ax=>
  simp only[okOp]at hok
  split at hok
  ·exact op_none (ob:=ob) hs hF (s_ineg hs hF ‹_› hok h)
  ·simp at hok
 |icpl ax=>
  simp only[okOp]at hok
  split at hok
  ·exact op_none (ob:=ob) hs hF (s_icpl hs hF ‹_› hok h)
  ·simp at hok
 |i2i k ax=>
  simp only[okOp]at hok
  split at hok
  ·simp only[Bool.and_eq_true]at hok
   exact op_none (ob:=ob) hs hF (s_i2i hs hF ‹_› (undB_eq hok.1.2 fun _=>isIntK_eq) (undB_some hok.1.1) hok.2 h)
  ·simp at hok
 |s2b e ax=>
  simp only[okOp]at hok
  split at hok
  ·simp only[Bool.and_eq_true]at hok
   exact op_none (ob:=ob) hs hF (s_s2b hs hF ‹_› (undB_some hok.1.1.1) hok.1.1.2 (undB_eq hok.1.2 fun _=>isU8_eq) hok.2 h)
  ·simp at hok
 |b2s e ax=>
  simp only[okOp]at hok
  split at hok
  ·simp only[Bool.and_eq_true]at hok
   exact op_none (ob:=ob) hs hF (s_b2s hs hF ‹_› hok.1.1.1 (undB_eq hok.1.1.2 fun _=>isU8_eq) (undB_eq hok.1.2 fun _=>isStr_eq) hok.2 hob h)
  ·simp at hok
 |boxP l t ax=>
  simp only[okOp]at hok
  split at hok
  ·simp only[Bool.and_eq_true]at hok
   obtain rfl:=Nat.eq_of_beq_eq_true hok.1.1
   exact op_none (ob:=ob) hs hF (s_boxP hs hF ‹_› hok.1.2 hok.2 h)
  ·simp at hok
 |boxO id l ax=>
  simp only[okOp]at hok
  split at hok
  ·exact op_new (ob:=ob) hs hF rfl (s_boxO hs hF ‹_› hok (hob _ rfl) h)
  ·simp at hok
 |boxC id ax=>
  simp only[okOp]at hok
  split at hok
  ·exact op_new (ob:=ob) hs hF rfl (s_boxC hs hF ‹_› hok (hob _ rfl) h)
  ·simp at hok
 |allocO id l z=>
  simp only[okOp]at hok
  split at hok
  ·obtain ⟨i,zv,h1,h2,h3⟩:=zeroB_sound hok
   exact op_new (ob:=ob) hs hF rfl (s_allocO hs hF ‹_› h1 h2 h3 (hob _ rfl) h)
  ·simp at hok
 |allocC id=>
  simp only[okOp]at hok
  split at hok
  ·obtain ⟨i,zv,h1,h2,h3⟩:=zeroB_sound hok
   simp only[Bool.and_eq_true]at h3
   have h1':=(zsOk_sound (P:=P) (T:=T) (S:=S) (pl:=pl) (St:=St) h3.2).2.2
   exact op_new (ob:=ob) hs hF rfl (s_allocC hs hF ‹_› h1 h2 (Nat.eq_of_beq_eq_true h3.1) (fun i hi=>by simpa[List.getD_eq_getElem?_getD]using h1' i (by simpa using hi)) (hob _ rfl) h)
  ·simp at hok
 |boxA id ax=>
  simp only[okOp]at hok
  split at hok
  ·exact op_new (ob:=ob) hs hF rfl (s_boxA hs hF ‹_› hok (hob _ rfl) h)
  ·simp at hok
 |allocA id zs=>
  simp only[okOp]at hok
  split at hok
  ·obtain ⟨i,zv,h1,h2,h3⟩:=zeroB_sound hok
   exact op_new (ob:=ob) hs hF rfl (s_allocA hs hF ‹_› h1 h2 h3 (hob _ rfl) h)
  ·simp at hok
 |ldA n ax=>
  simp only[okOp]at hok
  split at hok
  ·simp only[Bool.and_eq_true]at hok
   exact op_none (ob:=ob) hs hF (s_ldA hs hF ‹_› hok.1 hok.2 hob h)
  ·simp at hok
 |stA n ax ay=>
  simp only[okOp]at hok
  split at hok
  ·simp only[Bool.and_eq_true]at hok
   exact op_turn (ob:=ob) hs hF rfl (s_stA hs hF ‹_› hok.1.1 hok.1.2 hok.2 hob h)
  ·simp at hok
 |ptrnil neg ax=>
  simp only[okOp]at hok
  split at hok
  ·simp only[Bool.and_eq_true,Bool.or_eq_true]at hok
   obtain ⟨⟨h1,h2⟩,h3⟩:=hok
   obtain ⟨d,hd,hsl⟩:=undB_sound h2
   obtain ⟨e,rfl⟩:=isPtr_eq hsl
   rcases h3 with ⟨h3,h4⟩|⟨h3,h4⟩
   ·exact op_none (ob:=ob) hs hF (s_ptrnil hs hF (opB_eq h1) hd (.inl (by rw[‹o.op=_›,isNilPt_eq h3])) h4 hob h)
   ·exact op_none (ob:=ob) hs hF (s_ptrnil hs hF (opB_eq h1) hd (.inr (by rw[‹o.op=_›,isNilPt_eq h3])) h4 hob h)
  ·simp at hok
 |ld l t ax=>
  simp only[okOp]at hok
  split at hok
  ·simp only[Bool.and_eq_true]at hok
   obtain rfl:=Nat.eq_of_beq_eq_true hok.1.1.1
   exact op_none (ob:=ob) hs hF (s_ld hs hF ‹_› hok.1.1.2 hok.1.2 hok.2 hob h)
  ·simp at hok
 |ldC ax=>
  simp only[okOp]at hok
  split at hok
  ·simp only[Bool.and_eq_true]at hok
   exact op_none (ob:=ob) hs hF (s_ldC hs hF ‹_› hok.1 hok.2 hob h)
  ·simp at hok
 |st l ax ay=>
  simp only[okOp]at hok
  split at hok
  ·simp only[Bool.and_eq_true]at hok
   exact op_turn (ob:=ob) hs hF rfl (s_st hs hF ‹_› hok.1.1.1 hok.1.1.2 hok.1.2 hok.2 hob h)
  ·simp at hok
 |stC ax ay=>
  simp only[okOp]at hok
  split at hok
  ·simp only[Bool.and_eq_true]at hok
   exact op_turn (ob:=ob) hs hF rfl (s_stC hs hF ‹_› hok.1.1 hok.1.2 hok.2 hob h)
  ·simp at hok
 |fad off n t u ax=>
  simp only[okOp]at hok
  split at hok
  ·simp only[Bool.and_eq_true,fadB]at hok
   obtain ⟨⟨h1,h2,h3⟩,h4⟩:=hok
   obtain rfl:=Nat.eq_of_beq_eq_true h1
   split at h3
   ·simp only[Bool.and_eq_true]at h3
    exact op_none (ob:=ob) hs hF (s_fad hs hF ‹_› h2 h3.1.1.1 h3.1.1.2 h3.1.2 h3.2 h4 hob h)
   ·simp at h3
  ·simp at hok
 |fld off l ax=>
  simp only[okOp]at hok
  split at hok
  ·simp only[Bool.and_eq_true]at hok
   exact op_none (ob:=ob) hs hF (s_fld hs hF ‹_› hok.1 hok.2 h)
  ·simp at hok
 |bld l z aparts=>
  simp only[okOp]at hok
  split at hok
  ·simp only[Bool.and_eq_true]at hok
   exact op_none (ob:=ob) hs hF (s_bld hs hF ‹_› hok.1 hok.2 h)
  ·simp at hok
 |bslO id e l n z aparts=>
  simp only[okOp]at hok
  split at hok
  ·simp only[Bool.and_eq_true]at hok
   obtain rfl:=Nat.eq_of_beq_eq_true hok.1
   exact op_new (ob:=ob) hs hF rfl (s_bslO hs hF ‹_› hok.2 (hob _ rfl) h)
  ·simp at hok
 |bslS id e l n z aparts=>
  simp only[okOp]at hok
  split at hok
  ·simp only[Bool.and_eq_true]at hok
   obtain rfl:=Nat.eq_of_beq_eq_true hok.1
   exact op_new (ob:=ob) hs hF rfl (s_bslS hs hF ‹_› hok.2 (hob _ rfl) h)
  ·simp at hok
 |bsl e l n z aparts=>
  simp only[okOp]at hok
  split at hok
  ·simp only[Bool.and_eq_true]at hok
   obtain rfl:=Nat.eq_of_beq_eq_true hok.1
   exact op_none (ob:=ob) hs hF (s_bsl hs hF ‹_› hok.2 h)
  ·simp at hok
 |ldH hh l ax=>
  simp only[okOp]at hok
  split at hok
  ·simp only[Bool.and_eq_true]at hok
   exact op_none (ob:=ob) hs hF (s_ldH hs hF ‹_› hok.1.1.1 hok.1.1.2 (fun hh=>by have:=hok.1.2;rw[hh]at this;simpa using this) hok.2 hob h)
  ·simp at hok
 |stF l ax ay=>
  simp only[okOp]at hok
  split at hok
  ·simp only[Bool.and_eq_true]at hok
   exact op_turn (ob:=ob) hs hF rfl (s_stF hs hF ‹_› hok.1.1.1 hok.1.1.2 hok.1.2 hok.2 hob h)
  ·simp at hok
 |stH ax ay=>
  simp only[okOp]at hok
  split at hok
  ·simp only[Bool.and_eq_true]at hok
   exact op_turn (ob:=ob) hs hF rfl (s_stH hs hF ‹_› hok.1.1 hok.1.2 hok.2 hob h)
  ·simp at hok
 |iad e l ax ai=>
  simp only[okOp]at hok
  split at hok
  ·simp only[Bool.and_eq_true]at hok
   exact op_none (ob:=ob) hs hF (s_iad hs hF ‹_› hok.1.1.1 hok.1.1.2 hok.1.2 hok.2 hob h)
  ·simp at hok
 |idxS ax ai=>
  simp only[okOp]at hok
  split at hok
  ·simp only[Bool.and_eq_true]at hok
   exact op_none (ob:=ob) hs hF (s_idxS hs hF ‹_› (undB_eq hok.1.1 fun _=>isStr_eq) hok.1.2 hok.2 h)
  ·simp at hok
 |lenS ax=>
  simp only[okOp]at hok
  split at hok
  ·simp only[Bool.and_eq_true]at hok
   obtain rfl:=isLen_eq hok.1.1
   exact op_none (ob:=ob) hs hF (s_lenS (ty:=0) hs hF ‹_› (undB_eq hok.1.2 fun _=>isStr_eq) hok.2 h)
  ·simp at hok
 |lenL ax=>
  simp only[okOp]at hok
  split at hok
  ·simp only[Bool.and_eq_true]at hok
   obtain rfl:=isLen_eq hok.1.1
   obtain ⟨d,hd,hsl⟩:=undB_sound hok.1.2
   obtain ⟨e,rfl⟩:=isSl_eq hsl
   exact op_none (ob:=ob) hs hF (s_lenL hs hF ‹_› hd hok.2 hob h)
  ·simp at hok
 |imin mx axs=>
  simp only[okOp]at hok
  split at hok
  ·simp only[Bool.and_eq_true]at hok
   obtain rfl:=isMM_eq hok.1
   exact op_none (ob:=ob) hs hF (s_imin hs hF ‹_› hok.2 h)
  ·simp at hok
 |app id e l bytes ax ay=>
  simp only[okOp]at hok
  split at hok
  ·simp only[Bool.and_eq_true]at hok
   obtain rfl:=isApp_eq hok.1.1.1.1
   obtain rfl:=Nat.eq_of_beq_eq_true hok.1.1.1.2
   obtain ⟨j,o',h1,rfl,h2⟩:=s_app hs hF ‹_› hok.1.1.2 hok.1.2 hok.2 hob h
   rw[h1];exact h2
  ·simp at hok
 |appW id e l bytes ax ay=>
  simp only[okOp]at hok
  split at hok
  ·simp only[Bool.and_eq_true]at hok
   obtain rfl:=isApp_eq hok.1.1.1.1
   obtain rfl:=Nat.eq_of_beq_eq_true hok.1.1.1.2
   obtain ⟨j,o',h1,rfl,h2⟩:=s_appW hs hF ‹_› hok.1.1.2 hok.1.2 hok.2 hob h
   rw[h1];exact h2
  ·simp at hok
 |appS id e ax ay=>
  simp only[okOp]at hok
  split at hok
  ·simp only[Bool.and_eq_true]at hok
   obtain rfl:=isApp_eq hok.1.1.1
   obtain ⟨j,o',h1,rfl,h2⟩:=s_appS hs hF ‹_› hok.1.1.2 hok.1.2 hok.2 hob h
   rw[h1];exact h2
  ·simp at hok
 |mkS id e l z bytes an ac=>
  simp only[okOp]at hok
  split at hok
  ·simp only[Bool.and_eq_true]at hok
   exact op_new (ob:=ob) hs hF rfl (s_mkS hs hF ‹_› hok.1.1 hok.1.2 hok.2 (hob _ rfl) h)
  ·simp at hok
 |mk id e l z bytes an ac=>
  simp only[okOp]at hok
  split at hok
  ·simp only[Bool.and_eq_true]at hok
   exact op_new (ob:=ob) hs hF rfl (s_mk hs hF ‹_› hok.1.1 hok.1.2 hok.2 (hob _ rfl) h)
  ·simp at hok
 |slc e l ax lo hi=>
  simp only[okOp]at hok
  split at hok
  ·simp only[Bool.and_eq_true]at hok
   exact op_none (ob:=ob) hs hF (s_slc hs hF ‹_› hok.1.1.1 hok.1.1.2 hok.1.2 hok.2 hob h)
  ·simp at hok
 |slcS ax lo hi=>
  simp only[okOp]at hok
  split at hok
  ·simp only[Bool.and_eq_true]at hok
   exact op_none (ob:=ob) hs hF (s_slcS hs hF ‹_› (undB_eq hok.1.1.1 fun _=>isStr_eq) hok.1.1.2 hok.1.2 hok.2 h)
  ·simp at hok
 |call f ps rs axs=>
  simp only[okOp]at hok
  split at hok
  ·simp only[Bool.and_eq_true]at hok
   obtain rfl:=Nat.eq_of_beq_eq_true hok.1.1
   exact op_none (ob:=ob) hs hF (s_call hs hF hpc ‹_› hok.2 hok.1.2 h)
  ·simp at hok
 |callv t ps rs ax axs=>
  simp only[okOp]at hok
  split at hok
  ·simp only[Bool.and_eq_true]at hok
   exact op_none (ob:=ob) hs hF (s_callv hs hF hpc ‹_› hok.1.2 hok.2 hok.1.1 h)
  ·simp at hok
 |mkf f t ks acs=>
  simp only[okOp]at hok
  split at hok
  ·simp only[Bool.and_eq_true]at hok
   obtain rfl:=Nat.eq_of_beq_eq_true hok.1.1
   exact op_none (ob:=ob) hs hF (s_mkf hs hF ‹_› hok.2 hok.1.2 h)
  ·simp at hok
 |mkfO f acs=>
  simp only[okOp]at hok
  split at hok
  ·simp only[Bool.and_eq_true]at hok
   obtain rfl:=Nat.eq_of_beq_eq_true hok.1
   exact op_none (ob:=ob) hs hF (s_mkfO hs hF ‹_› hok.2 h)
  ·simp at hok
 |ext i ax=>
  simp only[okOp]at hok
  split at hok
  ·simp only[Bool.and_eq_true]at hok
   obtain rfl:=Nat.eq_of_beq_eq_true hok.1
   exact op_none (ob:=ob) hs hF (s_ext hs hF ‹_› hok.2 h)
  ·simp at hok
 |ixbS f ax ay=>
  simp only[okOp]at hok
  split at hok
  ·simp only[Bool.and_eq_true]at hok
   obtain ⟨⟨⟨h1,h2⟩,h3⟩,h4⟩:=hok
   obtain rfl:=Nat.eq_of_beq_eq_true h1
   split at h2
   ·exact op_none (ob:=ob) hs hF (s_ixbS hs hF (hpc.1.2 _ ‹_›) ‹o.op=_› h3 h4 h)
   ·simp at h2
  ·simp at hok
 |cmpS f ax ay=>
  simp only[okOp]at hok
  split at hok
  ·simp only[Bool.and_eq_true]at hok
   obtain ⟨⟨⟨h1,h2⟩,h3⟩,h4⟩:=hok
   obtain rfl:=Nat.eq_of_beq_eq_true h1
   split at h2
   ·exact op_none (ob:=ob) hs hF (s_cmpS hs hF (hpc.1.1 _ ‹_›) ‹o.op=_› h3 h4 h)
   ·simp at h2
  ·simp at hok
 |idxA m l ax ai=>
  simp only[okOp]at hok
  split at hok
  ·simp only[Bool.and_eq_true]at hok
   obtain ⟨⟨h1,h2⟩,h3⟩:=hok
   split at h1
   ·exact op_none (ob:=ob) hs hF (s_idxA hs hF ‹_› h1 h2 h3 h)
   ·simp at h1
  ·simp at hok
 |iadA m t e l ax ai=>
  simp only[okOp]at hok
  split at hok
  ·simp only[Bool.and_eq_true]at hok
   obtain ⟨⟨⟨h1,h2⟩,h3⟩,h4⟩:=hok
   obtain rfl:=Nat.eq_of_beq_eq_true h1
   exact op_none (ob:=ob) hs hF (s_iadA hs hF ‹_› h2 h3 h4 hob h)
  ·simp at hok
 |aeq neg l ax ay=>
  simp only[okOp]at hok
  split at hok
  ·simp only[Bool.and_eq_true]at hok
   rcases Bool.or_eq_true _ _▸hok.1.1.2 with hq |hq
   ·exact op_none (ob:=ob) hs hF (s_aeq hs hF ‹_› (opB_eq hok.1.1.1) hq hok.1.2 hok.2 h)
   ·exact op_none (ob:=ob) hs hF (s_aeqW hs hF ‹_› (opB_eq hok.1.1.1) hq hok.1.2 hok.2 h)
  ·simp at hok
 |mkm id kl vl=>
  simp only[okOp]at hok
  split at hok
  ·exact op_new (ob:=ob) hs hF rfl (s_mkm hs hF ‹_› (hob _ rfl) h)
  ·simp at hok
 |lk kl vl z ax ay ok=>
  simp only[okOp]at hok
  split at hok
  ·simp only[Bool.and_eq_true,beq_iff_eq]at hok
   obtain ⟨⟨⟨⟨rfl,h2⟩,h3⟩,h4⟩,h5⟩:=hok
   exact op_none (ob:=ob) hs hF (s_lk hs hF ‹_› h2 h3 h4 h5 hob h)
  ·simp at hok
 |mup kl ax ay ac=>
  simp only[okOp]at hok
  split at hok
  ·simp only[Bool.and_eq_true]at hok
   exact op_turn (ob:=ob) hs hF rfl (s_mup hs hF (.inl ‹_›) hok.1.1.1 hok.1.1.2 hok.1.2 hok.2 hob h)
  ·simp only[Bool.and_eq_true]at hok
   exact op_turn (ob:=ob) hs hF rfl (s_mup hs hF (.inr ‹_›) hok.1.1.1 hok.1.1.2 hok.1.2 hok.2 hob h)
  ·simp at hok
 |lenM ax=>
  simp only[okOp]at hok
  split at hok
  ·simp only[Bool.and_eq_true]at hok
   obtain rfl:=isLen_eq hok.1.1
   exact op_none (ob:=ob) hs hF (s_lenM hs hF ‹_› hok.1.2 hok.2 hob h)
  ·simp at hok
 |iadV m n ax ai=>
  simp only[okOp]at hok
  split at hok
  ·simp only[Bool.and_eq_true]at hok
   exact op_none (ob:=ob) hs hF (s_iadV hs hF ‹_› hok.1.1 hok.1.2 hok.2 hob h)
  ·simp at hok
 |bldA zs aparts=>
  simp only[okOp]at hok
  split at hok
  ·exact op_none (ob:=ob) hs hF (s_bldA hs hF ‹_› hok h)
  ·simp at hok
 |fldA off n ax=>
  simp only[okOp]at hok
  split at hok
  ·simp only[Bool.and_eq_true]at hok
   exact op_none (ob:=ob) hs hF (s_fldA hs hF ‹_› hok.1 hok.2 h)
  ·simp at hok
 |ent kl vl z ax ay=>
  simp only[okOp]at hok
  split at hok
  ·simp only[Bool.and_eq_true]at hok
   exact op_turn (ob:=ob) hs hF rfl (s_ent hs hF ‹_› hok.1.1.1 hok.1.1.2 hok.1.2 hok.2 hob h)
  ·simp at hok
 |est ax as_ ac=>
  simp only[okOp]at hok
  split at hok
  ·simp only[Bool.and_eq_true]at hok
   exact op_turn (ob:=ob) hs hF rfl (s_est hs hF ‹_› hok.1.1 hok.1.2 hok.2 hob h)
  ·simp at hok
 |slc3 e l ax lo hi mx=>
  simp only[okOp]at hok
  split at hok
  ·simp only[Bool.and_eq_true]at hok
   exact op_none (ob:=ob) hs hF (s_slc3 hs hF ‹_› hok.1.1.1.1 hok.1.1.1.2 hok.1.1.2 hok.1.2 hok.2 hob h)
  ·simp at hok
 |appM e l ax ay=>
  simp only[okOp]at hok
  split at hok
  ·simp only[Bool.and_eq_true]at hok
   obtain rfl:=isApp_eq hok.1.1.1.1
   obtain rfl:=Nat.eq_of_beq_eq_true hok.1.1.1.2
   have hap:=hok.1.1.2
   split at hap
   ·exact op_turn (ob:=ob) hs hF rfl (s_appM hs hF ‹_› hap hok.1.2 hok.2 hob h)
   ·simp at hap
  ·simp at hok
 |clr e l z ax=>
  simp only[okOp]at hok
  split at hok
  ·simp only[Bool.and_eq_true]at hok
   obtain rfl:=isClr_eq hok.1.1
   exact op_turn (ob:=ob) hs hF rfl (s_clr hs hF ‹_› hok.1.2 hok.2 hob h)
  ·simp at hok
 |movT ax=>
  simp only[okOp]at hok
  split at hok
  ·exact op_turn (ob:=ob) hs hF rfl (s_movT hs hF (.inl ‹_›) hok hob h)
  ·exact op_turn (ob:=ob) hs hF rfl (s_movT hs hF (.inr ‹_›) hok hob h)
  ·simp at hok
 |bad=>simp[opO]at h
 |icall=>simp[opO]at h
 |_=>simp[okOp]at hok
end
end Go.Ev
