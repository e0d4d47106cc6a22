/-
  Maps with plain keys: the operations on maps of one's own.
-/
import Derived.Test.YtfonaepdedbhhaaGreatDoorEvMa
import Derived.Test.YtfonaepdedbhhaaGreatDoorEvMk
import Derived.MapKept
import Derived.Laws.CopyRow
set_option linter.all false
set_option maxRecDepth 100000
namespace Go.Ev
variable {E:Env} {P:Program} {T:Nat→gG} {S S':fB} {pl jE:Pl} {St eD:Ev.St} {F:Fr} {a:Act} {w w':World}
def aQL (P:Program) (kt:TypeId) (kl:L):Bool:=match P.underlying kt,kl with
 |some (.int k), .one (.int k')=>Nat.beq (IntKind.tag k) (IntKind.tag k')
 |some .string, .one .str=>true
 |some .bool, .one .bool=>true
 |_,_=>false
theorem aYM {kt:TypeId} {kl:L} {d:TypeDesc} (hB:aQL P kt kl=true) (hd:P.underlying kt=some d) {u v:Value} {r s:Row} (hu:sG P T S kl u r) (hv:sG P T S kl v s):
 Instr.sameNow d u v=some (ceq kl.ks r s)∧(ceq kl.ks r s=true→u=v∧r=s):=by
 unfold aQL at hB
 rw[hd]at hB
 cases d<;>cases kl<;>(try simp only[Bool.false_eq_true]at hB)
 all_goals (rename_i k;cases k<;>(try simp only[Bool.false_eq_true]at hB))
 all_goals
  obtain ⟨c1,rfl,h1⟩:=hu
  obtain ⟨c2,rfl,h2⟩:=hv
  cases h1
  cases h2
  simp only[Instr.sameNow,L.ks,ceq,at_,List.getD_cons_zero,C.vA,C.lK,C.mD,Bool.and_true,if_true]
 ·refine ⟨by first |rfl |trivial,fun h=> ?_⟩
  simp_all
 ·refine ⟨by first |rfl |trivial,fun h=> ?_⟩
  simp_all
 ·rename_i b1 b2
  have e:(b1==b2)=(b1.data.toList==b2.data.toList):=by
   rw[Bool.eq_iff_iff,MapKept.bytes_beq,beq_iff_eq]
   constructor
   ·intro h;rw[h]
   ·intro h
    cases b1;cases b2
    simp only[ByteArray.mk.injEq]
    exact Array.toList_inj.1 h
  refine ⟨by rw[e],fun h=> ?_⟩
  rw[←e,MapKept.bytes_beq]at h
  subst h
  exact ⟨rfl,rfl⟩
theorem a2N {kt:TypeId} {kl:L} {d:TypeDesc} (hB:aQL P kt kl=true) (hd:P.underlying kt=some d) {u:Value} {r:Row} (hu:sG P T S kl u r):MapKept.IsKey d u:=by
 unfold aQL at hB
 rw[hd]at hB
 cases d<;>cases kl<;>(try simp only[Bool.false_eq_true]at hB)
 all_goals (rename_i k;cases k<;>(try simp only[Bool.false_eq_true]at hB))
 all_goals
  obtain ⟨c1,rfl,h1⟩:=hu
  cases h1
  simp only[MapKept.IsKey]
 exact (aD3 hB).symm
def aAc (P:Program) (T:Nat→gG) (S:fB) (kl vl:L) (es:List (Row×Row)) (oW:List MapEntry):Prop:=
 oW.length=es.length∧∀(i:Nat) (k v:Row),es[i]? =some (k,v)→∃en:MapEntry,oW[i]? =some en∧sG P T S kl en.key k∧sG P T S vl en.val v
theorem aAc.tail {kl vl:L} {e:Row×Row} {es:List (Row×Row)} {en:MapEntry} {oW:List MapEntry} (h:aAc P T S kl vl (e::es) (en::oW)):aAc P T S kl vl es oW:=
 ⟨by simpa using h.1,fun i k v hi=>by simpa using h.2 (i+1) k v (by simpa using hi)⟩
theorem aAc.head {kl vl:L} {k v:Row} {es:List (Row×Row)} {en:MapEntry} {oW:List MapEntry} (h:aAc P T S kl vl ((k,v)::es) (en::oW)):sG P T S kl en.key k∧sG P T S vl en.val v:=by
 obtain ⟨en',h1,h2,h3⟩:=h.2 0 k v rfl
 simp only[List.getElem?_cons_zero,Option.some.injEq]at h1
 subst h1
 exact ⟨h2,h3⟩
theorem aTQ {kt:TypeId} {kl vl:L} {d:TypeDesc} (hB:aQL P kt kl=true) (hd:P.underlying kt=some d) {kv:Value} {kr:Row} (hk:sG P T S kl kv kr):
 ∀(es:List (Row×Row)) (oW:List MapEntry) (i0:Nat),aAc P T S kl vl es oW→
  (sI kl kr es=none∧Instr.findNow d kv oW i0=some none∧(∀vr,tQ kl kr vr es=es++[(kr,vr)])∧aLC kl kr es=es.length)∨
  ∃j en v,oW[j]? =some en∧sI kl kr es=some v∧Instr.findNow d kv oW i0=some (some (i0+j,en.val))∧sG P T S vl en.val v∧en.key=kv∧
   (∀vr,tQ kl kr vr es=es.set j (kr,vr))∧aLC kl kr es=j
 |[],[],i0,h=> .inl ⟨rfl,rfl,fun _=>rfl,rfl⟩
 |[],_::_,_,h=>by have:=h.1;simp at this
 |_::_,[],_,h=>by have:=h.1;simp at this
 |(k,v)::es,en::oW,i0,h=>by
  obtain ⟨hk1,hv1⟩:=h.head
  obtain ⟨s1,s2⟩:=aYM hB hd hk hk1
  cases hc:ceq kl.ks kr k with
  |true=>
   obtain ⟨e1,e2⟩:=s2 hc
   refine .inr ⟨0,en,v,rfl,by simp[sI,hc], ?_,hv1,e1.symm,fun vr=>by rw[show tQ kl kr vr ((k,v)::es)=(k,vr)::es by simp[tQ,hc],e2];rfl,by simp[aLC,hc]⟩
   simp[Instr.findNow,s1,hc]
  |false=>
   rcases aTQ hB hd hk es oW (i0+1) h.tail with ⟨f1,f2,f3,f4⟩|⟨j,en',v',f1,f2,f3,f4,f5,f6,f7⟩
   ·refine .inl ⟨by simp[sI,hc,f1],by simp[Instr.findNow,s1,hc,f2],fun vr=>by simp[tQ,hc,f3],by simp[aLC,hc,f4]⟩
   ·refine .inr ⟨j+1,en',v',by simpa using f1,by simp[sI,hc,f2], ?_,f4,f5,fun vr=>by simp[tQ,hc,f6],by simp[aLC,hc,f7]⟩
    simp only[Instr.findNow,s1,hc,f3,Option.some.injEq,Prod.mk.injEq,and_true]
    omega
def aPE (P:Program) (kt:TypeId) (kl:L):Bool:=aQL P kt kl ||aEQ P kt kl
theorem aWh {kt:TypeId} {kl:L} (hB:aQL P kt kl=true):∃d,P.underlying kt=some d:=by
 unfold aQL at hB
 cases hd:P.underlying kt with
 |none=>simp[hd]at hB
 |some d=>exact ⟨d,rfl⟩
theorem aRL {kt:TypeId} {kl:L} {u:Value} {r:Row} (hB:aPE P kt kl=true) (hu:sG P T S kl u r) (em:Bool):(Instr.checkKey em 10000 kt u).run P w= .ok () w:=by
 rcases Bool.or_eq_true _ _▸hB with h |h
 ·obtain ⟨d,hd⟩:=aWh h
  exact MapKept.run_checkKey (P:=P) (w:=w) hd (a2N h hd hu) em 9999
 ·exact aVl em h hu
theorem aTR {kt:TypeId} {kl vl:L} (hB:aEQ P kt kl=true) {kv:Value} {kr:Row} (hk:sG P T S kl kv kr):
 ∀(es:List (Row×Row)) (oW:List MapEntry) (i0:Nat),aAc P T S kl vl es oW→
  (sI kl kr es=none∧(Instr.findAsking kt kv oW i0).run P w= .ok none w∧(∀vr,tQ kl kr vr es=es++[(kr,vr)])∧aLC kl kr es=es.length)∨
  ∃j en v,oW[j]? =some en∧sI kl kr es=some v∧(Instr.findAsking kt kv oW i0).run P w= .ok (some (i0+j,en.val)) w∧sG P T S vl en.val v∧en.key=kv∧
   (∀vr,tQ kl kr vr es=es.set j (kr,vr))∧aLC kl kr es=j
 |[],[],i0,h=> .inl ⟨rfl,by simp[Instr.findAsking],fun _=>rfl,rfl⟩
 |[],_::_,_,h=>by have:=h.1;simp at this
 |_::_,[],_,h=>by have:=h.1;simp at this
 |(k,v)::es,en::oW,i0,h=>by
  obtain ⟨hk1,hv1⟩:=h.head
  have s1:(Op.equal kt kv en.key).run P w= .ok (ceq kl.ks kr k) w:=aPD hB hk hk1
  cases hc:ceq kl.ks kr k with
  |true=>
   have e12:kv=en.key∧kr=k:=by
    have hpl:=aPB hB
    have:(∃ks,kl= .agg ks):=by
     unfold aEQ at hB
     split at hB
     ·exact ⟨_,rfl⟩
     ·exact ⟨_,rfl⟩
     ·simp at hB
    obtain ⟨ks,rfl⟩:=this
    obtain ⟨cs,rfl,g1⟩:=hk
    obtain ⟨ds,e,g2⟩:=hk1
    obtain ⟨q1,q2⟩:=aXk hpl g1 g2 hc
    rw[e]
    exact ⟨by rw[Array.toList_inj.1 q1],q2⟩
   obtain ⟨e1,e2⟩:=e12
   refine .inr ⟨0,en,v,rfl,by simp[sI,hc], ?_,hv1,e1.symm,fun vr=>by rw[show tQ kl kr vr ((k,v)::es)=(k,vr)::es by simp[tQ,hc],e2];rfl,by simp[aLC,hc]⟩
   simp[Instr.findAsking,s1,hc]
  |false=>
   rcases aTR hB hk es oW (i0+1) h.tail with ⟨f1,f2,f3,f4⟩|⟨j,en',v',f1,f2,f3,f4,f5,f6,f7⟩
   ·refine .inl ⟨by simp[sI,hc,f1],by simp[Instr.findAsking,s1,hc,f2],fun vr=>by simp[tQ,hc,f3],by simp[aLC,hc,f4]⟩
   ·refine .inr ⟨j+1,en',v',by simpa using f1,by simp[sI,hc,f2], ?_,f4,f5,fun vr=>by simp[tQ,hc,f6],by simp[aLC,hc,f7]⟩
    simp only[Instr.findAsking,Sem.run_bind,s1,hc,Result.andThen_ok,Bool.false_eq_true,if_false,f3,Result.ok.injEq,Option.some.injEq,Prod.mk.injEq,and_true]
    omega
theorem aTS {kt:TypeId} {kl vl:L} (hB:aPE P kt kl=true) {kv:Value} {kr:Row} (hk:sG P T S kl kv kr) (es:List (Row×Row)) (oW:List MapEntry) (h:aAc P T S kl vl es oW):
 (sI kl kr es=none∧(Instr.findKey kt kv oW).run P w= .ok none w∧(∀vr,tQ kl kr vr es=es++[(kr,vr)])∧aLC kl kr es=es.length)∨
 ∃j en v,oW[j]? =some en∧sI kl kr es=some v∧(Instr.findKey kt kv oW).run P w= .ok (some (j,en.val)) w∧sG P T S vl en.val v∧en.key=kv∧
  (∀vr,tQ kl kr vr es=es.set j (kr,vr))∧aLC kl kr es=j:=by
 rcases Bool.or_eq_true _ _▸hB with hp |hw
 ·obtain ⟨d,hd⟩:=aWh hp
  rcases aTQ hp hd hk es oW 0 h with ⟨f1,f2,f3,f4⟩|⟨j,en,v,f1,f2,f3,f4,f5,f6,f7⟩
  ·exact .inl ⟨f1,MapKept.run_findKey (P:=P) (w:=w) (kt:=kt) hd f2,f3,f4⟩
  ·refine .inr ⟨j,en,v,f1,f2, ?_,f4,f5,f6,f7⟩
   have:=MapKept.run_findKey (P:=P) (w:=w) (kt:=kt) hd f3
   rwa[Nat.zero_add]at this
 ·rcases aTR (w:=w) hw hk es oW 0 h with ⟨f1,f2,f3,f4⟩|⟨j,en,v,f1,f2,f3,f4,f5,f6,f7⟩
  ·exact .inl ⟨f1,by rw[run_findKey_eq w (aRK hw)];exact f2,f3,f4⟩
  ·refine .inr ⟨j,en,v,f1,f2, ?_,f4,f5,f6,f7⟩
   rw[run_findKey_eq w (aRK hw)]
   rwa[Nat.zero_add]at f3
theorem Bo.push {oW:Array MapEntry} {clock:Nat} {en:MapEntry} (h:Bo oW clock) (he:en.born=clock):Bo (oW.push en) (clock+1):=by
 obtain ⟨h1,h2⟩:=h
 refine ⟨by simp[h1],fun i e hi=> ?_⟩
 rw[Array.getElem?_push]at hi
 split at hi
 ·rename_i hq;cases hi;omega
 ·exact h2 i e hi
theorem Bo.modify {oW:Array MapEntry} {clock:Nat} {j:Nat} {f:MapEntry→MapEntry} (h:Bo oW clock) (hf:∀e,(f e).born=e.born):Bo (oW.modify j f) clock:=by
 obtain ⟨h1,h2⟩:=h
 refine ⟨by simp[h1],fun i e hi=> ?_⟩
 rw[Array.getElem?_modify]at hi
 split at hi
 ·cases hq:oW[i]? with
  |none=>simp[hq]at hi
  |some x=>simp[hq]at hi;rw[←hi,hf];exact h2 i x hq
 ·exact h2 i e hi
theorem aRM {id:Nat} {kl vl:L} {es es':List (Row×Row)} {oW aYN:Array MapEntry} {clock clock':Nat} {av:AV} {v:Value} (hs:kW P T S pl St w) (kB:St[id]? =some (.map kl vl es))
 (hh:w.heap[pl.blk id]? =some (.map oW clock)) (aKc:aAc P T S kl vl es' aYN.toList) (hbo:Bo aYN clock')
 (hv:eB P T S pl (St.set id (.map kl vl es')) av v):aB P T S pl St w (St.set id (.map kl vl es')) av v {w with heap:=w.heap.setIfInBounds (pl.blk id) (.map aYN clock')}:=by
 have hlt:id<St.length:=(List.getElem?_eq_some_iff.1 kB).1
 obtain ⟨hnew,aKQ⟩:=MapKept.heap_set (w:=w) (o':= .map aYN clock') hh
 have hk:kD pl St pl (St.set id (.map kl vl es')):=kD.set kB fun _=>⟨by simp,by simp,by simp,by simp,by simp,fun a b c e=>by
  cases e;exact ⟨_,_,_,rfl⟩⟩
 refine ⟨S,pl, ?_,⟨rfl,rfl,rfl,by simp,fun b hb hn=> ?_,S.le_refl,fun _ _ _ _=>rfl⟩,hv,fun _ _ h=>h.keep hk S.le_refl, ?_⟩
 ·refine hs.upd hlt hk S.le_refl (fun j _=>⟨rfl,rfl⟩) (fun j o hj h ho=> ?_) (fun b o v h=> ?_) ?_ (fun _ off _=>hs.apart id _ kB rfl off (by simp[Obj.sn])) (fun j o _ h ho=>hs.apart j o h ho)
   (fun _ j o hj h ho hb=>hj (hs.inj j id o _ h kB ho rfl hb)) (fun g _ ha=>⟨aKQ g (fun e=>ha id _ kB rfl e.symm),fun _=>ha id _ kB rfl⟩)
  ·exact aKQ _ (fun hb=>hj (hs.inj j id o _ h kB ho rfl hb))
  ·have hne:b≠pl.blk id:=fun hb=>by
    have:=hs.apart id _ kB rfl o (by simp[Obj.sn])
    rw[←hb]at this;rw[this]at h;cases h
   rw[World.cell?_of_block (w:=w) (aKQ _ hne)]
   exact hs.aCk _ _ _ h
  ·exact ⟨aYN,clock',hnew,⟨by simpa using aKc.1,hbo⟩,fun i k v hi=>by
    obtain ⟨en,h1,h2⟩:=aKc.2 i k v hi
    exact ⟨en,by simpa using h1,h2⟩⟩
 ·exact aKQ _ (fun hb=>hn ⟨id,_,kB,rfl,rfl,hb.symm⟩)
 ·rintro b ⟨j,o,h,ho,hb⟩
  by_cases hj:j=id
  ·subst hj;exact .inl ⟨j,_,kB,rfl,rfl,hb.2⟩
  ·rw[List.getElem?_set_ne (Ne.symm hj)]at h;exact .inl ⟨j,o,h,ho,hb⟩
theorem eB.of_map {id:Nat} {kl vl:L} {es:List (Row×Row)} {v:Value} (h:eB P T S pl St (.map id) v) (kB:St[id]? =some (.map kl vl es)):v= .map (some (pl.blk id)):=by
 cases h with
 |map h1 h2 h3 h4=>
  rw[kB]at h2
  cases h2
  exact h4 _ _ _ rfl
def aSM (P:Program) (t:TypeId) (f:Value→Bool):Bool:=match P.info? t with |some i=>(match i.zero with |some zv=>f zv |none=>false)|none=>false
theorem aSN {t:TypeId} {f:Value→Bool} (h:aSM P t f=true):∃i zv,P.info? t=some i∧i.zero=some zv∧f zv=true:=by
 unfold aSM at h;split at h
 ·rename_i i hi;split at h
  ·rename_i zv hz;exact ⟨i,zv,hi,hz,h⟩
  ·simp at h
 ·simp at h
theorem aXm {t:TypeId} {i:TypeInfo} {zv:Value} (hi:P.info? t=some i) (hz:i.zero=some zv) (w:World):(zeroValue t).run P w= .ok zv w:=by
 simp[zeroValue,run_typeInfo _ hi,Result.andThen,hz]
def a0G (P:Program) (t:TypeId) (kl vl:L):Bool:=match P.underlying t with
 |some (.map kt et)=>aPE P kt kl&&aDI P et vl
 |_=>false
section
variable {o:Oper} {x y c:Operand} {ax ay ac:zC} {base:Nat}
variable (hs:kW P T S pl St w) (hF:wX P T S pl St F a.tmps)
include hs hF
theorem a5w {t:TypeId} {kl vl:L} {id:Nat} {ob:Obj} {av:AV} {no:Option Obj} (ho:o.op= .makeMap t none) (kB:St[base+id]? =some ob)
 (h:bH E F St ob (.mkm id kl vl) base bB=some (av,no)):∃o',no=some o'∧qE P o a w (aB P T S pl St w (St.set (base+id) o') av):=by
 simp only[bH,zD]at h
 split at h
 ·simp only[bB,Option.some.injEq,Prod.mk.injEq]at h
  obtain ⟨rfl,rfl⟩:=h
  have hlt:base+id<St.length:=(List.getElem?_eq_some_iff.1 kB).1
  refine ⟨_,rfl,mA (v:= .map (some w.heap.size)) (w':=w.alloc (.map #[] 0)) ?_ (aLG (cap:=0) hs kB ?_ ?_)⟩
  ·simp only[execOp,ho]
   exact vY rfl
  ·refine ⟨#[],0, ?_,⟨rfl,rfl,fun i en h=>by simp at h⟩,fun i k v h=>by simp at h⟩
   rw[Pl.sD]
   exact (MapKept.heap_alloc w _).1
  ·refine .map (o:= .map kl vl []) rfl (List.getElem?_set_self hlt) (by simp) (fun _ _ _ _=> ?_)
   rw[Pl.sD]
 ·simp at h
theorem a8J {t:TypeId} {kl vl:L} {z:Row} {ok:Bool} {ob:Obj} {av:AV} {no:Option Obj} (ho:o.op= .lookup t x y ok) (hB:a0G P t kl vl=true)
 (hz:(match P.underlying t with |some (.map _ et)=>aSM P et (fun zv=>j5 vl zv z)|_=>false)=true) (hx:nA P T x ax=true) (hy:nA P T y ay=true)
 (kB:∀id,mG (ax.ev F)=some id→St[id]? =some ob)
 (h:bH E F St ob (.lk kl vl z ax ay ok) base bB=some (av,no)):no=none∧qE P o a w (aB P T S pl St w St av):=by
 have hv:=nC hs hx hF
 have hk:=qA hs hy hF
 simp only[bH]at h
 obtain ⟨l,kr,e1,hA0⟩:=mP h
 obtain ⟨b1,hA⟩:=iA hA0
 clear hA0 h
 obtain rfl:=L.beq_eq b1
 rw[e1]at hk
 have hk':sG P T S kl (a.eval y) kr:=by cases hk;assumption
 unfold a0G at hB
 cases hu:P.underlying t with
 |none=>simp[hu]at hB
 |some dd=>
  cases dd<;>simp only[hu,Bool.false_eq_true]at hB hz
  rename_i kt et
  simp only[Bool.and_eq_true]at hB
  obtain ⟨i,zv,hi,hzv,hzc⟩:=aSN hz
  have hzr:=iN (P:=P) (T:=T) (S:=S) hzc
  split at hA
  ·rename_i id ex
   have kB:=kB id (by rw[ex];rfl)
   rw[ex]at hv
   unfold aKm at hA
   split at hA
   ·rename_i kl' vl' es _
    obtain ⟨b2,hA1⟩:=iA hA
    clear hA
    have hA:=hA1
    clear hA1
    simp only[Bool.and_eq_true]at b2
    obtain rfl:=L.beq_eq b2.1
    obtain rfl:=L.beq_eq b2.2
    have ev:=hv.of_map kB
    obtain ⟨oW,clock,hh,⟨hsz,hbo⟩,hen⟩:=hs.objs _ _ kB
    have hE:aAc P T S kl vl es oW.toList:=⟨by simpa using hsz,fun i k v hi=>by simpa using hen i k v hi⟩
    have hrun:∃u,sG P T S vl u ((sI kl kr es).getD z)∧(execOp a.eval o).run P w= .ok (.value (if ok then .tuple #[u, .bool (sI kl kr es).isSome]else u)) w:=by
     have aKR:=MapKept.run_getObj_map (P:=P) hh
     have hck:=aRL (w:=w) hB.1 hk' oW.isEmpty
     rcases aTS (w:=w) hB.1 hk' es oW.toList hE with ⟨f1,f2,_,_⟩|⟨j,en,v,f1,f2,f3,f4,_,_,_⟩
     ·refine ⟨zv,by rw[f1];exact hzr, ?_⟩
      have hfk:=f2
      simp only[execOp,ho]
      refine vY ?_
      rw[ev]
      simp[Instr.lookup,run_underlying hu,Sem.run_bind,Result.andThen,aKR,hck,hfk,aXm hi hzv,f1]
     ·refine ⟨en.val,by rw[f2];exact f4, ?_⟩
      have hfk:=f3
      simp only[execOp,ho]
      refine vY ?_
      rw[ev]
      simp[Instr.lookup,run_underlying hu,Sem.run_bind,Result.andThen,aKR,hck,hfk,f2]
    obtain ⟨u,hu1,hu2⟩:=hrun
    cases ok with
    |false=>
     simp only[bB,Option.some.injEq,Prod.mk.injEq]at hA
     obtain ⟨rfl,rfl⟩:=hA
     rw[hu1.nrm]
     exact ⟨rfl,mA hu2 (.same hs (.d hu1))⟩
    |true=>
     simp only[bB,Option.some.injEq,Prod.mk.injEq]at hA
     obtain ⟨rfl,rfl⟩:=hA
     rw[hu1.nrm]
     refine ⟨rfl,mA hu2 (.same hs ?_)⟩
     have:=eB.tup (P:=P) (T:=T) (S:=S) (pl:=pl) (St:=St) (sL:=[.d vl ((sI kl kr es).getD z),vB (sI kl kr es).isSome]) (fun i=>#[u, .bool (sI kl kr es).isSome].getD i undef) (fun i av hi=>by
      match i,hi with
      |0,hi=>simp at hi;subst hi;exact .d hu1
      |1,hi=>simp at hi;subst hi;exact .d ⟨_,rfl, .bool⟩)
     exact this
   ·simp at hA
  ·simp at hA
omit hs hF in
theorem aXn {kt:TypeId} {kl:L} (hB:aQL P kt kl=true) {u:Value} {r:Row} (hu:sG P T S kl u r) (n:Nat):Instr.sameBits n u u=true:=by
 unfold aQL at hB
 cases hd:P.underlying kt with
 |none=>simp[hd]at hB
 |some d=>
  rw[hd]at hB
  cases d<;>cases kl<;>(try simp only[Bool.false_eq_true]at hB)
  all_goals (rename_i k;cases k<;>(try simp only[Bool.false_eq_true]at hB))
  all_goals
   obtain ⟨c1,rfl,h1⟩:=hu
   cases h1
   cases n<;>simp[Instr.sameBits,MapKept.bytes_beq]
omit hs hF in
theorem aYP {kt:TypeId} {kl:L} (hB:aPE P kt kl=true) {u:Value} {r:Row} (hu:sG P T S kl u r):Instr.sameBits 10000 u u=true:=by
 rcases Bool.or_eq_true _ _▸hB with h |h
 ·exact aXn h hu 10000
 ·exact aXl h hu
omit hs hF in
theorem aYQ {kl vl:L} {es:List (Row×Row)} {oW:Array MapEntry} {j:Nat} {kv vv:Value} {kr vr:Row} (h:aAc P T S kl vl es oW.toList) (hk:sG P T S kl kv kr) (hv:sG P T S vl vv vr):
 aAc P T S kl vl (es.set j (kr,vr)) (oW.modify j fun e=>{e with key:=kv,val:=vv}).toList:=by
 refine ⟨by simpa using h.1,fun i k v hi=> ?_⟩
 have aKR:(oW.modify j fun e=>{e with key:=kv,val:=vv}).toList[i]? =(oW.toList[i]?).map fun e=>if j=i then {e with key:=kv,val:=vv}else e:=by
  rw[Array.getElem?_toList,Array.getElem?_modify,Array.getElem?_toList]
  by_cases hji:j=i
  ·simp[hji]
  ·simp[hji]
 rw[aKR]
 by_cases hji:j=i
 ·subst hji
  rw[List.getElem?_set]at hi
  simp only[if_true]at hi
  split at hi
  ·rename_i hlt
   simp only[Option.some.injEq,Prod.mk.injEq]at hi
   obtain ⟨rfl,rfl⟩:=hi
   have hl:j<oW.toList.length:=by rw[h.1];exact hlt
   exact ⟨_,by rw[List.getElem?_eq_getElem hl];rfl,by simp[hk],by simp[hv]⟩
  ·simp at hi
 ·rw[List.getElem?_set_ne hji]at hi
  obtain ⟨en,h1,h2,h3⟩:=h.2 i k v hi
  exact ⟨en,by rw[h1];simp[hji],h2,h3⟩
omit hs hF in
theorem aXo {kl vl:L} {es:List (Row×Row)} {oW:Array MapEntry} {en:MapEntry} {kr vr:Row} (h:aAc P T S kl vl es oW.toList) (hk:sG P T S kl en.key kr) (hv:sG P T S vl en.val vr):
 aAc P T S kl vl (es++[(kr,vr)]) (oW.push en).toList:=by
 refine ⟨by simpa using h.1,fun i k v hi=> ?_⟩
 rw[Array.toList_push]
 have hl:=h.1
 rcases Nat.lt_or_ge i es.length with hlt |hge
 ·rw[List.getElem?_append_left hlt]at hi
  obtain ⟨en',h1,h2⟩:=h.2 i k v hi
  exact ⟨en',by rw[List.getElem?_append_left (by omega)];exact h1,h2⟩
 ·rw[List.getElem?_append_right hge]at hi
  have:i - es.length=0:=by
   rcases Nat.eq_zero_or_pos (i - es.length)with h0 |h0
   ·exact h0
   ·rw[List.getElem?_eq_none (by simp;omega)]at hi;cases hi
  rw[this]at hi
  simp only[List.getElem?_cons_zero,Option.some.injEq,Prod.mk.injEq]at hi
  obtain ⟨rfl,rfl⟩:=hi
  exact ⟨en,by rw[List.getElem?_append_right (by omega),show i - oW.toList.length=0 by omega];rfl,hk,hv⟩
def aWi (P:Program) (t:TypeId) (kl:L):Bool:=match P.underlying t with
 |some (.map kt _)=>aPE P kt kl
 |_=>false
theorem a1E {t:TypeId} {kl:L} {ob:Obj} {av:AV} {no:Option Obj} (ho:o.op= .mapUpdate t x y c∨o.op= .insert t x y c) (hB:aWi P t kl=true)
 (hx:nA P T x ax=true) (hy:nA P T y ay=true) (hc:nA P T c ac=true)
 (kB:∀id,mG (ax.ev F)=some id→St[id]? =some ob)
 (h:bH E F St ob (.mup kl ax ay ac) base bB=some (av,no)):∃id o',mG (ax.ev F)=some id∧no=some o'∧qE P o a w (aB P T S pl St w (St.set id o') av):=by
 have hv:=nC hs hx hF
 have hk:=qA hs hy hF
 have hu:=qA hs hc hF
 simp only[bH]at h
 obtain ⟨l,kr,e1,hA0⟩:=mP h
 obtain ⟨lv,vr,e2,hA⟩:=mP hA0
 clear hA0 h
 rw[e1]at hk
 rw[e2]at hu
 have hk':sG P T S l (a.eval y) kr:=by cases hk;assumption
 have hu':sG P T S lv (a.eval c) vr:=by cases hu;assumption
 unfold aWi at hB
 cases hut:P.underlying t with
 |none=>simp[hut]at hB
 |some dd=>
  cases dd<;>simp only[hut,Bool.false_eq_true]at hB
  rename_i kt et
  split at hA
  ·rename_i id ex
   have kB:=kB id (by rw[ex];rfl)
   rw[ex]at hv
   unfold aKm at hA
   split at hA
   ·rename_i kl' vl' es _
    obtain ⟨b2,hA1⟩:=iA hA
    clear hA
    simp only[Bool.and_eq_true]at b2
    obtain rfl:=L.beq_eq b2.1.1
    obtain rfl:=L.beq_eq b2.1.2
    obtain rfl:=L.beq_eq b2.2
    simp only[bB,Option.some.injEq,Prod.mk.injEq]at hA1
    obtain ⟨rfl,rfl⟩:=hA1
    have ev:=hv.of_map kB
    obtain ⟨oW,clock,hh,⟨hsz,hbo⟩,hen⟩:=hs.objs _ _ kB
    have hE:aAc P T S kl vl' es oW.toList:=⟨by simpa using hsz,fun i k v hi=>by simpa using hen i k v hi⟩
    refine ⟨id,_,by rw[ex];rfl,rfl, ?_⟩
    have aKR:=MapKept.run_getObj_map (P:=P) hh
    have hck:=aRL (w:=w) hB hk' false
    have hex:∀{w'},(Instr.mapUpdate t (.map (some (pl.blk id))) (a.eval y) (a.eval c)).run P w= .ok () w'→(execOp a.eval o).run P w= .ok .skip w':=by
     intro w' hr
     rcases ho with ho |ho<;>simp only[execOp,ho]<;>refine a1u ?_<;>rw[ev]<;>exact hr
    rcases aTS (w:=w) hB hk' es oW.toList hE with ⟨f1,f2,f3,_⟩|⟨j,en,v,f1,f2,f3,f4,f5,f6,_⟩
    ·have hfk:=f2
     rw[f3]
     refine aEH (hex (w':={w with heap:=w.heap.setIfInBounds (pl.blk id) (.map (oW.push {key:=a.eval y,val:=a.eval c,born:=clock}) (clock+1))}) ?_) (aRM hs kB hh (aXo hE hk' hu') (hbo.push rfl) .und)
     simp[Instr.mapUpdate,run_underlying hut,Sem.run_bind,Result.andThen,aKR,hck,hfk,MapKept.run_setObj_map (P:=P) _ hh]
    ·have hfk:=f3
     rw[f6]
     refine aEH (hex (w':={w with heap:=w.heap.setIfInBounds (pl.blk id) (.map (oW.modify j fun e=>{e with key:=a.eval y,val:=a.eval c}) clock)}) ?_) (aRM hs kB hh (aYQ hE hk' hu') (hbo.modify fun _=>rfl) .und)
     have hj:oW[j]? =some en:=by simpa using f1
     simp[Instr.mapUpdate,run_underlying hut,Sem.run_bind,Result.andThen,aKR,hck,hfk,Instr.keyThatStays,hj,f5,aYP hB hk',MapKept.run_setObj_map (P:=P) _ hh]
   ·simp at hA
  ·simp at hA
def aYR (P:Program) (t:TypeId) (m n:Nat):Bool:=match P.underlying t with
 |some (.array m' e)=>Nat.beq m' m&&aKs P e n
 |_=>false
omit hs hF in
theorem aN0 {A:Type} {j:Int} {k:Nat→Option A} {r:A}:∀(i m:Nat),aI9 j i m k=some r→∃q:Nat,i≤q∧q<i+m∧j=(q:Int)∧k q=some r
 |i,0,h=>by simp[aI9]at h
 |i,m+1,h=>by
  simp only[aI9]at h
  split at h
  ·rename_i e;exact ⟨i,Nat.le_refl _,by omega,e,h⟩
  ·obtain ⟨q,h1,h2,h3,h4⟩:=aN0 (i+1) m h
   exact ⟨q,by omega,by omega,h3,h4⟩
theorem a2Q {m n:Nat} {t:TypeId} {ob:Obj} {av:AV} {no:Option Obj} (ho:o.op= .indexAddr t x y) (hB:aYR P t m n=true) (hx:nA P T x ax=true) (hy:nA P T y ay=true)
 (kB:∀id,mG (ax.ev F)=some id→St[id]? =some ob)
 (h:bH E F St ob (.aTv m n ax ay) base bB=some (av,no)):no=none∧qE P o a w (aB P T S pl St w St av):=by
 have hv:=nC hs hx hF
 have hi:=qA hs hy hF
 simp only[bH]at h
 obtain ⟨kd,ri,ei,hA⟩:=fF h
 rw[ei]at hi
 have hi:=hi.of_int
 generalize (at_ ri 0).vA=j at*
 unfold aYR at hB
 cases hu:P.underlying t with
 |none=>simp[hu]at hB
 |some dd=>
  cases dd<;>simp only[hu,Bool.false_eq_true]at hB
  rename_i m' e
  simp only[Bool.and_eq_true]at hB
  obtain rfl:=Nat.eq_of_beq_eq_true hB.1
  have key:∀(b p q:Nat),q<m'→j=(q:Int)→(Instr.indexAt t (.pointer (some ⟨b,p,none⟩)) (.int kd j)).run P w= .ok (.pointer (some ⟨b,p+q*n,none⟩)) w:=by
   intro b p q hq hj
   subst hj
   have h0:(0:Int)≤(q:Int):=by omega
   have h1:(q:Int)<(m':Int):=by omega
   simp[Instr.indexAt,Instr.sureAddr,run_underlying hu,asIntOf,h0,h1,aAw hB.2 w,add_eq,hq]
  split at hA
  ·rename_i id p ex
   have kB:=kB id (by rw[ex];rfl)
   rw[ex]at hv
   obtain ⟨hk2,hC⟩:=aHO hA
   obtain ⟨q,_,hq,hj,hD⟩:=aN0 _ _ hC
   simp only[bB,Option.some.injEq,Prod.mk.injEq]at hD
   obtain ⟨rfl,rfl⟩:=hD
   have e1:=hv.aPw kB hk2
   refine ⟨rfl,mA (w':=w) (uJ ho ?_) (.same hs (.aVc kB hk2))⟩
   rw[e1,hi];exact key _ _ q (by omega) hj
  ·simp at hA
end
end Go.Ev
namespace Go.Ev
variable {E:Env} {P:Program} {T:Nat→gG} {S S':fB} {pl jE:Pl} {St eD:Ev.St} {F:Fr} {a:Act} {w w':World}
def aTT (P:Program) (T:Nat→gG) (S:fB) (pl:Pl) (St:Ev.St) (cells:Array Value) (z:List AV):Prop:=
 cells.size=z.length∧(∀i u,z[i]? =some u→eB P T S pl St u (cells.getD i undef))∧∀i,i<cells.size→(cells.getD i undef).oneCell'=true
theorem aTT.put {cells:Array Value} {z vs:List AV} {v:Value} {off:Nat} (h:aTT P T S pl St cells z) (hv:aTT P T S pl St v.cells vs) (hle:off+vs.length≤z.length):
 aTT P T S pl St (cells.toList.take off++v.cells.toList++cells.toList.drop (off+vs.length)).toArray (aU6 off vs z):=by
 obtain ⟨a1,a2,a3⟩:=h
 obtain ⟨b1,b2,b3⟩:=hv
 have hlen:(cells.toList.take off++v.cells.toList++cells.toList.drop (off+vs.length)).length=z.length:=by simp;omega
 have aKR:∀i,(cells.toList.take off++v.cells.toList++cells.toList.drop (off+vs.length)).toArray.getD i undef=if i<off then cells.getD i undef else if i<off+vs.length then v.cells.getD (i - off) undef else cells.getD i undef:=fun i=>by
  have:=rW cells.toList v.cells.toList off vs.length i (by simpa using b1) (by simp;omega)
  simp only[List.getD_eq_getElem?_getD,Array.getD_eq_getD_getElem?,List.getElem?_toArray,this]
  split
  ·simp
  ·split<;>simp
 refine ⟨by rw[aNY hle];simpa using hlen,fun i u hi=> ?_,fun i hi=> ?_⟩
 ·rw[aTN hle]at hi
  rw[aKR]
  split at hi
  ·rename_i h1;rw[if_pos h1];exact a2 i u hi
  ·rename_i h1
   rw[if_neg h1]
   split at hi
   ·rename_i h2;rw[if_pos h2];exact b2 _ u hi
   ·rename_i h2;rw[if_neg h2];exact a2 i u hi
 ·rw[aKR]
  have hi':i<cells.size:=by simp at hi;omega
  by_cases h1:i<off
  ·rw[if_pos h1];exact a3 i hi'
  ·rw[if_neg h1]
   by_cases h2:i<off+vs.length
   ·rw[if_pos h2];exact b3 _ (by omega)
   ·rw[if_neg h2];exact a3 i hi'
theorem aN1 {A:Type} {place:Nat→Option (Nat×Nat)} {k:List AV→Option A} {res:A} (hs:kW P T S pl St w) (hF:wX P T S pl St F a.tmps):
 ∀(parts:List (Nat×Operand)) (jC:List (Nat×Nat×zC)) (cells:Array Value) (z:List AV),zS P T place parts jC=true→aTT P T S pl St cells z→
  aKk F jC z k=some res→∃cells' z',Instr.fill place cells (parts.map fun p=>(p.1,a.eval p.2))=some cells'∧aTT P T S pl St cells' z'∧k z'=some res
 |[],[],cells,z,_,hr,h=>⟨cells,z,rfl,hr,h⟩
 |[],_::_,_,_,h,_,_=>by simp[zS]at h
 |_::_,[],_,_,h,_,_=>by simp[zS]at h
 |(i,x)::r,(off,m,ax)::r',cells,z,hp,hr,h=>by
  simp only[zS,Bool.and_eq_true]at hp
  obtain ⟨⟨hp1,hp2⟩,hp3⟩:=hp
  split at hp1
  ·rename_i off' m' hpl
   simp only[Bool.and_eq_true]at hp1
   obtain rfl:=Nat.eq_of_beq_eq_true hp1.1
   obtain rfl:=Nat.eq_of_beq_eq_true hp1.2
   simp only[aKk]at h
   split at h
   ·rename_i vs hcv
    obtain ⟨hb,hB⟩:=iA h
    simp only[Bool.and_eq_true]at hb
    have hm:=Nat.eq_of_beq_eq_true hb.1
    have hle:off+m≤z.length:=by simpa using hb.2
    subst hm
    have hv:=nC hs hp2 hF
    obtain ⟨c1,c2,c3⟩:=hv.aA0 hcv
    have hput:=hr.put (v:=a.eval x) (off:=off) ⟨c1,c2,c3⟩ hle
    have hst:=aM5 (cells:=cells) (rest:=r.map fun p=>(p.1,a.eval p.2)) hpl c1 (by rw[hr.1];exact hle)
    obtain ⟨cells',z',g1,g2,g3⟩:=aN1 hs hF r r' _ _ hp3 hput hB
    exact ⟨cells',z',by rw[List.map_cons,hst];exact g1,g2,g3⟩
   ·simp at h
  ·simp at hp1
def aYS (P:Program) (T:Nat→gG) (t:TypeId) (zs:List (Option (K×C))) (parts:List (Nat×Operand)) (jC:List (Nat×Nat×zC)):Bool:=
 match P.info? t,P.underlying t with
 |some it,some (.array _ e)=>(match it.zero,P.info? e with
  |some zv,some ie=>aMZ zs zv.cells.toList&&zS P T (fun i=>some (i*ie.size,ie.size)) parts jC
  |_,_=>false)
 |some it,some (.struct fields)=>(match it.zero,fields.toList.mapM (fun f=>(P.info? f.type).map fun i=>(f.offset,i.size))with
  |some zv,some places=>aMZ zs zv.cells.toList&&zS P T (places.toArray[·]?) parts jC
  |_,_=>false)
 |_,_=>false
section
variable {o:Oper} {x y c:Operand} {ax ay ac:zC} {base:Nat}
variable (hs:kW P T S pl St w) (hF:wX P T S pl St F a.tmps)
include hs hF
theorem a2R {t:TypeId} {zs:List (Option (K×C))} {parts:Array (Nat×Operand)} {jC:List (Nat×Nat×zC)} {ob:Obj} {av:AV} {no:Option Obj} (ho:o.op= .build t parts)
 (hb:aYS P T t zs parts.toList jC=true)
 (h:bH E F St ob (.bldA zs jC) base bB=some (av,no)):no=none∧qE P o a w (aB P T S pl St w St av):=by
 simp only[bH]at h
 have fin:∀(place:Nat→Option (Nat×Nat)) (zv:Value),aMZ zs zv.cells.toList=true→zS P T place parts.toList jC=true→
  ∃cells z',Instr.fill place zv.cells (parts.toList.map fun p=>(p.1,a.eval p.2))=some cells∧aTT P T S pl St cells z'∧bB (.agg z') none=some (av,no):=by
  intro place zv hc hp
  obtain ⟨c1,c2,c3⟩:=aHG (P:=P) (T:=T) (S:=S) (pl:=pl) (St:=St) hc
  refine aN1 hs hF _ _ zv.cells (zsV zs) hp ⟨by rw[aHF,←c1];simp,fun i u hi=> ?_,fun i hi=> ?_⟩ h
  ·simpa[List.getD_eq_getElem?_getD]using c2 i u hi
  ·simpa[List.getD_eq_getElem?_getD]using c3 i (by simpa using hi)
 have done:∀(cells:Array Value) (z':List AV),P.built t (parts.toList.map fun p=>(p.1,a.eval p.2))=some cells→aTT P T S pl St cells z'→bB (.agg z') none=some (av,no)→
  no=none∧qE P o a w (aB P T S pl St w St av):=by
  intro cells z' hbu hr he
  simp only[bB,Option.some.injEq,Prod.mk.injEq]at he
  obtain ⟨rfl,rfl⟩:=he
  obtain ⟨r1,r2,r3⟩:=hr
  refine ⟨rfl,mA (v:= .agg cells) (w':=w) ?_ (.same hs (.aPA r1 r3 r2))⟩
  simp only[execOp,ho]
  refine vY (run_build w t _ cells ?_)
  simpa using hbu
 unfold aYS at hb
 split at hb
 ·rename_i it e hi hu
  split at hb
  ·rename_i zv ie hz hie
   simp only[Bool.and_eq_true]at hb
   obtain ⟨cells,row,g1,g2,g3⟩:=fin _ _ hb.1 hb.2
   exact done cells row (by simp[Program.built,hi,hu,hz,hie];simpa using g1) g2 g3
  ·simp at hb
 ·rename_i it fields hi hu
  split at hb
  ·rename_i zv places hz hpl
   simp only[Bool.and_eq_true]at hb
   obtain ⟨cells,row,g1,g2,g3⟩:=fin _ _ hb.1 hb.2
   exact done cells row (by simp only[Program.built,hi,hu,hz,hpl];simpa using g1) g2 g3
  ·simp at hb
 ·simp at hb
def aYT (P:Program) (t:TypeId) (l:L):Bool:=aEQ P t l&& !P.eqGuardType P.depth t
theorem a2S {neg:Bool} {op:BinOp} {t u:TypeId} {l:L} {ob:Obj} {av:AV} {no:Option Obj} (ho:o.op= .binOp op t x y u) (hop:op=(if neg then .neq else .eql)) (hB:aYT P t l=true)
 (hx:nA P T x ax=true) (hy:nA P T y ay=true)
 (h:bH E F St ob (.aeq neg l ax ay) base bB=some (av,no)):no=none∧qE P o a w (aB P T S pl St w St av):=by
 simp only[aYT,Bool.and_eq_true,Bool.not_eq_true']at hB
 obtain ⟨hf,hg⟩:=hB
 obtain ⟨ks,hks⟩:∃ks,l= .agg ks:=by
  unfold aEQ at hf
  split at hf
  ·exact ⟨_,rfl⟩
  ·exact ⟨_,rfl⟩
  ·simp at hf
 simp only[bH]at h
 obtain ⟨l1,rx,e1,hA⟩:=mP h
 obtain ⟨l2,ry,e2,hC⟩:=mP hA
 obtain ⟨hb,hD⟩:=iA hC
 simp only[Bool.and_eq_true]at hb
 obtain rfl:=L.beq_eq hb.1
 obtain rfl:=L.beq_eq hb.2
 simp only[bB,Option.some.injEq,Prod.mk.injEq]at hD
 obtain ⟨rfl,rfl⟩:=hD
 have hvx:=qA hs hx hF;rw[e1]at hvx
 have hvy:=qA hs hy hF;rw[e2]at hvy
 have hrx:=hvx.aA3
 have hry:=hvy.aA3
 have hrun:(Op.equalIn 10000 t (a.eval x) (a.eval y)).run P w= .ok (ceq l.ks rx ry) w:=aPD hf hrx hry
 subst hks
 obtain ⟨xs,hxs,_⟩:=hrx
 obtain ⟨ys,hys,_⟩:=hry
 rw[hxs,hys]at hrun
 refine ⟨rfl,mA (v:= .bool (aSs neg (ceq (L.agg ks).ks rx ry))) (w':=w) ?_ (.same hs (aXd _))⟩
 unfold execOp
 simp only[ho,hxs,hys]
 refine vY ?_
 rw[Sem.run_bind,run_eqGuard_agg w op t x y xs ys hg]
 simp only[Result.andThen_ok]
 cases neg
 ·simp at hop;subst hop
  rw[run_eql_struct,hrun];rfl
 ·simp at hop;subst hop
  rw[run_neq_struct,hrun];rfl
end
end Go.Ev
namespace Go.Ev
variable {E:Env} {P:Program} {T:Nat→gG} {S S':fB} {pl jE:Pl} {St eD:Ev.St} {F:Fr} {a:Act} {w w':World}
section
variable {o:Oper} {x y c:Operand} {ax ay ac:zC} {base:Nat}
variable (hs:kW P T S pl St w) (hF:wX P T S pl St F a.tmps)
include hs hF
end
end Go.Ev
namespace Go.Ev
variable {E:Env} {P:Program} {T:Nat→gG} {S S':fB} {pl jE:Pl} {St eD:Ev.St} {F:Fr} {a:Act} {w w':World}
def BinOp.tag:BinOp→Nat
 | .add=>0 | .sub=>1 | .mul=>2 | .quo=>3 | .rem=>4 | .and=>5 | .or=>6 | .xor=>7 | .shl=>8 | .shr=>9 | .andNot=>10
 | .eql=>11 | .neq=>12 | .lss=>13 | .leq=>14 | .gtr=>15 | .geq=>16
def opB (a b:BinOp):Bool:=Nat.beq (BinOp.tag a) (BinOp.tag b)
theorem aJk {a b:BinOp} (h:opB a b=true):a=b:=by
 cases a<;>cases b<;>first |rfl |simp[opB,BinOp.tag]at h
def aLV (P:Program) (t:TypeId) (d:TypeDesc→Bool):Bool:=match P.underlying t with |some x=>d x |none=>false
theorem aKS {t:TypeId} {d:TypeDesc→Bool} (h:aLV P t d=true):∃x,P.underlying t=some x∧d x=true:=by
 unfold aLV at h;split at h
 ·exact ⟨_,by assumption,h⟩
 ·simp at h
def isStr:TypeDesc→Bool | .string=>true |_=>false
def a0J:TypeDesc→Bool | .int .u8=>true |_=>false
def aVm (k:IntKind):TypeDesc→Bool | .int k'=>Nat.beq (IntKind.tag k) (IntKind.tag k')|_=>false
def a2T:TypeDesc→Bool | .slice _=>true |_=>false
theorem isStr_eq {d:TypeDesc} (h:isStr d=true):d= .string:=by cases d<;>first |rfl |simp[isStr]at h
theorem aWj {d:TypeDesc} (h:a0J d=true):d= .int .u8:=by unfold a0J at h;split at h<;>first |rfl |simp at h
theorem aXp {k:IntKind} {d:TypeDesc} (h:aVm k d=true):d= .int k:=by unfold aVm at h;split at h<;>first |rw[aD3 h]|simp at h
theorem a0K {d:TypeDesc} (h:a2T d=true):∃e,d= .slice e:=by unfold a2T at h;split at h<;>first |exact ⟨_,rfl⟩|simp at h
theorem aHT {t:TypeId} {d:TypeDesc→Bool} {x:TypeDesc} (h:aLV P t d=true) (he:∀y,d y=true→y=x):P.underlying t=some x:=by
 obtain ⟨y,h1,h2⟩:=aKS h;rw[h1,he y h2]
theorem aRN {t:TypeId} {d:TypeDesc→Bool} (h:aLV P t d=true):(P.underlying t).isSome=true:=by
 obtain ⟨y,h1,h2⟩:=aKS h;rw[h1];rfl
def aWk (P:Program) (t:TypeId) (f:Value→Bool):Bool:=match P.info? t with |some i=>(match i.zero with |some zv=>f zv |none=>false)|none=>false
theorem aN2 {t:TypeId} {f:Value→Bool} (h:aWk P t f=true):∃i zv,P.info? t=some i∧i.zero=some zv∧f zv=true:=by
 unfold aWk at h;split at h
 ·rename_i i hi;split at h
  ·rename_i zv hz;exact ⟨i,zv,hi,hz,h⟩
  ·simp at h
 ·simp at h
def aO5:Operand→Bool | .const (.slice none 0 0)=>true |_=>false
theorem aPF {x:Operand} (h:aO5 x=true):x= .const (.slice none 0 0):=by unfold aO5 at h;split at h<;>first |rfl |simp at h
def a5y (op:BinOp) (neg:Bool):Bool:=opB op (if neg then .neq else .eql)
def a5z (P:Program) (t:TypeId) (f off n:Nat) (u:TypeId):Bool:=
 aPv P t f off n u&&(match aFx P t,aFx P u with |some l',some l=>aDI P t l'&&aDI P u l&&Nat.beq l.n n&&aB7 l.ks ((l'.ks.drop off).take l.n)|_,_=>false)
def isLen:Builtin→Bool | .len=>true |_=>false
def isApp:Builtin→Bool | .append=>true |_=>false
def a2U (mx:Bool):Builtin→Bool | .max=>mx | .min=> !mx |_=>false
theorem aTU {b:Builtin} (h:isLen b=true):b= .len:=by unfold isLen at h;split at h<;>first |rfl |simp at h
theorem aPG {b:Builtin} (h:isApp b=true):b= .append:=by unfold isApp at h;split at h<;>first |rfl |simp at h
theorem a0L {mx:Bool} {b:Builtin} (h:a2U mx b=true):b=(if mx then .max else .min):=by unfold a2U at h;split at h<;>simp_all
def a1F (f:Nat):Operand→Bool | .func f'=>Nat.beq f' f |_=>false
def aO6 (P:Program) (T:Nat→gG) (x:Operand) (f:Nat) (ax:Option zC):Bool:=match ax with |none=>a1F f x |some ay=>nA P T x ay
def oG (P:Program) (T:Nat→gG) (op:Op) (ao:AOp):Bool:=
 match ao with
 | .mov ax=>(match op with | .move x=>nA P T x ax | .assign x=>nA P T x ax |_=>false)
 | .eC ax=>(match op with | .nilCheck x=>nA P T x ax |_=>false)
 | .aQC _ _ _=>(match op with | .move x=>aO5 x | .assign x=>aO5 x |_=>false)
 | .pick ac ax ay=>(match op with | .pick c x y=>nA P T c ac&&nA P T x ax&&nA P T y ay |_=>false)
 | .tB bo ax ay=>(match op with | .binOp bo' _ x y _=>opB bo' bo&&nA P T x ax&&nA P T y ay |_=>false)
 | .idiv bo ax ay=>(match op with | .binOp bo' _ x y _=>opB bo' bo&&nA P T x ax&&nA P T y ay |_=>false)
 | .shf bo ax ay=>(match op with | .binOp bo' _ x y _=>opB bo' bo&&nA P T x ax&&nA P T y ay |_=>false)
 | .dA bo ax ay=>(match op with | .binOp bo' _ x y _=>opB bo' bo&&nA P T x ax&&nA P T y ay |_=>false)
 | .aU0 ax ay=>(match op with | .binOp bo' _ x y _=>opB bo' .add&&nA P T x ax&&nA P T y ay |_=>false)
 | .aEK bo ax ay=>(match op with | .binOp bo' _ x y _=>opB bo' bo&&nA P T x ax&&nA P T y ay |_=>false)
 | .not ax=>(match op with | .unOp .not _ x=>nA P T x ax |_=>false)
 | .aSp ax=>(match op with | .unOp .neg _ x=>nA P T x ax |_=>false)
 | .aW8 ax=>(match op with | .unOp .xor _ x=>nA P T x ax |_=>false)
 | .i2i k ax=>(match op with | .convert s t x=>aLV P s (fun _=>true)&&aLV P t (aVm k)&&nA P T x ax |_=>false)
 | .s2b e ax=>(match op with | .convert s t x=>aLV P s (fun _=>true)&&aGQ P t e (.one (.int .u8))&&aLV P e a0J&&nA P T x ax |_=>false)
 | .b2s e ax=>(match op with | .convert s t x=>aGQ P s e (.one (.int .u8))&&aLV P e a0J&&aLV P t isStr&&nA P T x ax |_=>false)
 | .vL l t ax=>(match op with | .box t' x=>Nat.beq t' t&&aDI P t l&&nA P T x ax |_=>false)
 | .oB _ l z=>(match op with | .alloc t=>aWk P t (fun zv=>j5 l zv z)|_=>false)
 | .aU2 _ ax=>(match op with | .box _ x=>nA P T x ax |_=>false)
 | .aHA _ zs=>(match op with | .alloc t=>aWk P t (fun zv=>aMZ zs zv.cells.toList)|_=>false)
 | .ldA n ax=>(match op with | .load t x=>aYG P t n&&nA P T x ax |_=>false)
 | .stA n ax ay=>(match op with | .store t x y=>aKs P t n&&nA P T x ax&&nA P T y ay |_=>false)
 | .ld l t ax=>(match op with | .load t' x=>Nat.beq t' t&&aDI P t l&&Nat.blt 0 l.n&&nA P T x ax |_=>false)
 | .n3 ax=>(match op with | .load t x=>aTD P t&&nA P T x ax |_=>false)
 | .st l ax ay=>(match op with | .store t x y=>aKs P t l.n&&Nat.blt 0 l.n&&nA P T x ax&&nA P T y ay |_=>false)
 | .stC ax ay=>(match op with | .store t x y=>aKs P t 1&&nA P T x ax&&nA P T y ay |_=>false)
 | .xA off n t u ax=>(match op with | .fieldAddr t' x f=>Nat.beq t' t&&a5z P t f off n u&&nA P T x ax |_=>false)
 | .bld l z jC=>(match op with | .build t parts=>(match l with | .agg _=>true | .one _=>false)&&a2B P T t l z parts.toList jC |_=>false)
 | .bslO _ e l n z jC=>(match op with | .buildSlice t n' parts=>Nat.beq n' n&&aSG P T t e l n z parts.toList jC |_=>false)
 | .bslS _ e l n z jC=>(match op with | .buildSlice t n' parts=>Nat.beq n' n&&aSG P T t e l n z parts.toList jC |_=>false)
 | .bsl e l n z jC=>(match op with | .buildSlice t n' parts=>Nat.beq n' n&&aSG P T t e l n z parts.toList jC |_=>false)
 | .iad e l ax ai=>(match op with | .indexAddr t x i=>aGQ P t e l&&Nat.blt 0 l.n&&nA P T x ax&&nA P T i ai |_=>false)
 | .aB2 ax ai=>(match op with | .index t x i=>aLV P t isStr&&nA P T x ax&&nA P T i ai |_=>false)
 | .aB3 ax=>(match op with | .call ⟨.builtin b,⟨[x]⟩,⟨[t]⟩⟩=>isLen b&&aLV P t isStr&&nA P T x ax |_=>false)
 | .gE ax=>(match op with | .call ⟨.builtin b,⟨[x]⟩,⟨[t]⟩⟩=>isLen b&&aLV P t a2T&&nA P T x ax |_=>false)
 | .imin mx axs=>(match op with | .call ⟨.builtin b,xs,_⟩=>a2U mx b&&nG P T xs.toList axs |_=>false)
 | .app _ e l bytes ax ay=>(match op with | .call ⟨.builtin b,⟨[x,y]⟩,⟨[t,t']⟩⟩=>isApp b&&Nat.beq t t'&&aQH P t e l bytes&&nA P T x ax&&nA P T y ay |_=>false)
 | .eU _ e l bytes ax ay=>(match op with | .call ⟨.builtin b,⟨[x,y]⟩,⟨[t,t']⟩⟩=>isApp b&&Nat.beq t t'&&aQH P t e l bytes&&nA P T x ax&&nA P T y ay |_=>false)
 | .aPj _ e ax ay=>(match op with | .call ⟨.builtin b,⟨[x,y]⟩,⟨[t,u]⟩⟩=>isApp b&&aYI P t u e&&nA P T x ax&&nA P T y ay |_=>false)
 | .mk _ e l z bytes an ac=>(match op with | .makeSlice t n c=>mkB P T t e l z bytes&&nA P T n an&&nA P T c ac |_=>false)
 | .slc e l ax lo hi=>(match op with | .slice t x lo' hi' none=>aGQ P t e l&&nA P T x ax&&aJi P T lo' lo&&aJi P T hi' hi |_=>false)
 | .slcS ax lo hi=>(match op with | .slice t x lo' hi' none=>aLV P t isStr&&nA P T x ax&&aJi P T lo' lo&&aJi P T hi' hi |_=>false)
 | .call f ps rs axs=>(match op with | .call ⟨.value (.func f'),xs,_⟩=>Nat.beq f' f&&aWf P T f ps rs&&nG P T xs.toList axs |_=>false)
 | .callv t ps rs ax axs=>(match op with | .call ⟨.value x,xs,_⟩=>aVh P t ps rs&&nA P T x ax&&nG P T xs.toList axs |_=>false)
 | .mkf f t ks acs=>(match op with | .makeFunc (.func f') ⟨[]⟩ cs=>Nat.beq f' f&&aYm P T t f ks&&nG P T cs.toList acs |_=>false)
 | .ext i ax=>(match op with | .extract x i'=>Nat.beq i' i&&nA P T x ax |_=>false)
 | .aW9 f ax ay=>(match op with | .call ⟨.value (.func f'),⟨[x,y]⟩,_⟩=>Nat.beq f' f&&(match T f with | .ixb=>true |_=>false)&&nA P T x ax&&nA P T y ay |_=>false)
 | .aXa f ax ay=>(match op with | .call ⟨.value (.func f'),⟨[x,y]⟩,_⟩=>Nat.beq f' f&&(match T f with | .cmp=>true |_=>false)&&nA P T x ax&&nA P T y ay |_=>false)
 | .aSq m l ax ai=>(match op with | .index t x i=>(match P.underlying t with |some (.array _ e)=>aTV P t e m l |_=>false)&&nA P T x ax&&nA P T i ai |_=>false)
 | .qF m t e l ax ai=>(match op with | .indexAddr t' x i=>Nat.beq t' t&&aTV P t e m l&&nA P T x ax&&nA P T i ai |_=>false)
 | .aeq neg l ax ay=>(match op with | .binOp bo' t x y _=>a5y bo' neg&&(a2V P t l ||aYT P t l)&&nA P T x ax&&nA P T y ay |_=>false)
 | .mkm _ kl vl=>(match op with | .makeMap t none=>a0G P t kl vl |_=>false)
 | .lk kl vl z ax ay ok=>(match op with | .lookup t x y ok'=>(ok'==ok)&&a0G P t kl vl&&(match P.underlying t with |some (.map _ et)=>aSM P et (fun zv=>j5 vl zv z)|_=>false)&&nA P T x ax&&nA P T y ay |_=>false)
 | .mup kl ax ay ac=>(match op with
   | .mapUpdate t x y c=>aWi P t kl&&nA P T x ax&&nA P T y ay&&nA P T c ac
   | .insert t x y c=>aWi P t kl&&nA P T x ax&&nA P T y ay&&nA P T c ac
   |_=>false)
 | .bldA zs jC=>(match op with | .build t parts=>aYS P T t zs parts.toList jC |_=>false)
 | .aSr m t e l ax alo=>(match op with | .slice t' x (some lo) none none=>Nat.beq t' t&&aTV P t e m l&&Nat.beq l.n 1&&nA P T x ax&&nA P T lo alo |_=>false)
 | .aTv m n ax ai=>(match op with | .indexAddr t x i=>aYR P t m n&&nA P T x ax&&nA P T i ai |_=>false)
 | .bad=>true
 | .nB i f en ex _ _ ax axs=>(match op with
   | .call ⟨.value x,xs,_⟩=>(match T i with | .imp af=>Nat.beq af.fn f&&Shape.beq af.entry en&&Shape.beq af.exit ex |_=>false)&&nG P T xs.toList axs&&
     aO6 P T x f ax
   |_=>false)
 |_=>false
def a0M (St:Ev.St) (t:Option Nat) (no:Option Obj):Ev.St:=match no with
 |none=>St
 |some o'=>(match t with |some j=>St.set j o' |none=>St)
section
variable {o:Oper} {x y c:Operand} {ax ay ac:zC} {base:Nat}
variable (hs:kW P T S pl St w) (hF:wX P T S pl St F a.tmps)
include hs hF
theorem a2W {ob:Obj} {av:AV} {no:Option Obj} (ho:o.op= .nilCheck x) (hx:nA P T x ax=true) (kB:∀id,mG (ax.ev F)=some id→St[id]? =some ob)
 (h:bH E F St ob (.eC ax) base bB=some (av,no)):no=none∧qE P o a w (aB P T S pl St w St av):=by
 have hv:=nC hs hx hF
 simp only[bH]at h
 split at h
 ·rename_i t r ex
  obtain ⟨hn,hA⟩:=bD h
  simp only[bB,Option.some.injEq,Prod.mk.injEq]at hA
  obtain ⟨rfl,rfl⟩:=hA
  rw[ex]at hv
  refine ⟨rfl,mA (v:=a.eval x) (w':=w) ?_ (.same hs hv)⟩
  obtain ⟨cc,rfl,aD6⟩:=hv.aA3
  have hat:at_ [cc] 0=cc:=rfl
  rw[hat]at hn
  generalize hvv:a.eval x=v at aD6
  cases aD6 with
  |aLA=>simp[C.aYe]at hn
  |fn vs h1 h2 h3=>simp[execOp,ho,hvv]
 ·rename_i t r ex
  obtain ⟨hdp,h⟩:=bD h
  simp only[bB,Option.some.injEq,Prod.mk.injEq]at h
  obtain ⟨rfl,rfl⟩:=h
  rw[ex]at hv
  refine ⟨rfl,mA (v:=a.eval x) (w':=w) ?_ (.same hs hv)⟩
  obtain ⟨cc,rfl,aD6⟩:=hv.aA3
  have hat:at_ [cc] 0=cc:=rfl
  rw[hat]at hdp
  generalize hvv:a.eval x=v at aD6
  cases aD6 with
  |ref f h1 h2 h3 h4 h5=>simp[execOp,ho,hvv]
  |aPi=>simp[C.jB]at hdp
 ·rename_i f caps ex
  simp only[bB,Option.some.injEq,Prod.mk.injEq]at h
  obtain ⟨rfl,rfl⟩:=h
  rw[ex]at hv
  refine ⟨rfl,mA (v:=a.eval x) (w':=w) ?_ (.same hs hv)⟩
  generalize hvv:a.eval x=v at hv
  cases hv with
  |fn vs h=>simp[execOp,ho,hvv]
 ·rename_i id off ex
  have kB:=kB id (by rw[ex];rfl)
  rw[ex]at hv
  obtain ⟨hk2,hA⟩:=aHO h
  simp only[bB,Option.some.injEq,Prod.mk.injEq]at hA
  obtain ⟨rfl,rfl⟩:=hA
  have e1:=hv.aPw kB hk2
  exact ⟨rfl,mA (v:=a.eval x) (w':=w) (by simp[execOp,ho,e1]) (.same hs hv)⟩
 ·rename_i id v i off ex
  have kB:=kB id (by rw[ex];rfl)
  rw[ex]at hv
  obtain ⟨l0,c,rfl,hA⟩:=gF h
  simp only[bB,Option.some.injEq,Prod.mk.injEq]at hA
  obtain ⟨rfl,rfl⟩:=hA
  have e1:=hv.aLH kB
  exact ⟨rfl,mA (v:=a.eval x) (w':=w) (by simp[execOp,ho,e1]) (.same hs hv)⟩
 ·simp at h
theorem mC {ob:Obj} {ao:AOp} {av:AV} {no:Option Obj} (h:no=none∧qE P o a w (aB P T S pl St w St av)):qE P o a w (aB P T S pl St w (a0M St (tgt F ao base) no) av):=by
 obtain ⟨rfl,h⟩:=h;exact h
theorem aHU {ob:Obj} {ao:AOp} {i:Nat} {av:AV} {no:Option Obj} (ht:tgt F ao base=some i) (h:∃o',no=some o'∧qE P o a w (aB P T S pl St w (St.set i o') av)):qE P o a w (aB P T S pl St w (a0M St (tgt F ao base) no) av):=by
 obtain ⟨o',rfl,h⟩:=h;rw[ht];exact h
theorem aLW {ob:Obj} {ao:AOp} {v:AV} {av:AV} {no:Option Obj} (ht:tgt F ao base=mG v) (h:∃id o',mG v=some id∧no=some o'∧qE P o a w (aB P T S pl St w (St.set id o') av)):qE P o a w (aB P T S pl St w (a0M St (tgt F ao base) no) av):=by
 obtain ⟨id,o',h1,rfl,h⟩:=h;rw[ht,h1];exact h
theorem aTW {ao:AOp} {ob:Obj} {av:AV} {no:Option Obj} (hpc:aYE P T E.pc) (hok:oG P T o.op ao=true) (kB:∀j,tgt F ao base=some j→St[j]? =some ob)
 (h:bH E F St ob ao base bB=some (av,no)):qE P o a w (aB P T S pl St w (a0M St (tgt F ao base) no) av):=by
 cases ao with
 |mov ax=>
  simp only[oG]at hok
  simp only[bH,bB,Option.some.injEq,Prod.mk.injEq]at h
  obtain ⟨rfl,rfl⟩:=h
  split at hok
  ·exact a1s hs hF (.inl ‹_›) hok
  ·exact a1s hs hF (.inr ‹_›) hok
  ·simp at hok
 |eC ax=>
  simp only[oG]at hok
  split at hok
  ·exact mC (ob:=ob) hs hF (a2W hs hF ‹_› hok kB h)
  ·simp at hok
 |aQC id e l=>
  simp only[oG]at hok
  split at hok
  ·exact aHU (ob:=ob) hs hF rfl (aYH hs hF (.inr (by rw[‹o.op=_›,aPF hok])) (kB _ rfl) h)
  ·exact aHU (ob:=ob) hs hF rfl (aYH hs hF (.inl (by rw[‹o.op=_›,aPF hok])) (kB _ rfl) h)
  ·simp at hok
 |pick ac ax ay=>
  simp only[oG]at hok
  split at hok
  ·simp only[Bool.and_eq_true]at hok
   exact mC (ob:=ob) hs hF (a2h hs hF ‹_› hok.1.1 hok.1.2 hok.2 h)
  ·simp at hok
 |tB bo ax ay=>
  simp only[oG]at hok
  split at hok
  ·simp only[Bool.and_eq_true]at hok
   obtain rfl:=aJk hok.1.1
   exact mC (ob:=ob) hs hF (a0x hs hF ‹_› hok.1.2 hok.2 h)
  ·simp at hok
 |idiv bo ax ay=>
  simp only[oG]at hok
  split at hok
  ·simp only[Bool.and_eq_true]at hok
   obtain rfl:=aJk hok.1.1
   exact mC (ob:=ob) hs hF (a2j hs hF ‹_› hok.1.2 hok.2 h)
  ·simp at hok
 |shf bo ax ay=>
  simp only[oG]at hok
  split at hok
  ·simp only[Bool.and_eq_true]at hok
   obtain rfl:=aJk hok.1.1
   exact mC (ob:=ob) hs hF (a4M hs hF ‹_› hok.1.2 hok.2 h)
  ·simp at hok
 |dA bo ax ay=>
  simp only[oG]at hok
  split at hok
  ·simp only[Bool.and_eq_true]at hok
   obtain rfl:=aJk hok.1.1
   exact mC (ob:=ob) hs hF (a2i hs hF ‹_› hok.1.2 hok.2 h)
  ·simp at hok
 |aU0 ax ay=>
  simp only[oG]at hok
  split at hok
  ·simp only[Bool.and_eq_true]at hok
   obtain rfl:=aJk hok.1.1
   exact mC (ob:=ob) hs hF (a2k hs hF ‹_› hok.1.2 hok.2 h)
  ·simp at hok
 |aEK bo ax ay=>
  simp only[oG]at hok
  split at hok
  ·simp only[Bool.and_eq_true]at hok
   obtain rfl:=aJk hok.1.1
   exact mC (ob:=ob) hs hF (a2l hs hF ‹_› hok.1.2 hok.2 h)
  ·simp at hok
 |not ax=>
  simp only[oG]at hok
  split at hok
  ·exact mC (ob:=ob) hs hF (a4N hs hF ‹_› hok h)
  ·simp at hok
 |aSp ax=>
  simp only[oG]at hok
  split at hok
  ·exact mC (ob:=ob) hs hF (a2m hs hF ‹_› hok h)
  ·simp at hok
 |aW8 ax=>
  simp only[oG]at hok
  split at hok
  ·exact mC (ob:=ob) hs hF (a2n hs hF ‹_› hok h)
  ·simp at hok
 |i2i k ax=>
  simp only[oG]at hok
  split at hok
  ·simp only[Bool.and_eq_true]at hok
   exact mC (ob:=ob) hs hF (a4O hs hF ‹_› (aHT hok.1.2 fun _=>aXp) (aRN hok.1.1) hok.2 h)
  ·simp at hok
 |s2b e ax=>
  simp only[oG]at hok
  split at hok
  ·simp only[Bool.and_eq_true]at hok
   exact mC (ob:=ob) hs hF (a5l hs hF ‹_› (aRN hok.1.1.1) hok.1.1.2 (aHT hok.1.2 fun _=>aWj) hok.2 h)
  ·simp at hok
 |b2s e ax=>
  simp only[oG]at hok
  split at hok
  ·simp only[Bool.and_eq_true]at hok
   exact mC (ob:=ob) hs hF (a5m hs hF ‹_› hok.1.1.1 (aHT hok.1.1.2 fun _=>aWj) (aHT hok.1.2 fun _=>isStr_eq) hok.2 kB h)
  ·simp at hok
 |vL l t ax=>
  simp only[oG]at hok
  split at hok
  ·simp only[Bool.and_eq_true]at hok
   obtain rfl:=Nat.eq_of_beq_eq_true hok.1.1
   exact mC (ob:=ob) hs hF (a2p hs hF ‹_› hok.1.2 hok.2 h)
  ·simp at hok
 |oB id l z=>
  simp only[oG]at hok
  split at hok
  ·obtain ⟨i,zv,h1,h2,h3⟩:=aN2 hok
   exact aHU (ob:=ob) hs hF rfl (aYo hs hF ‹_› h1 h2 h3 (kB _ rfl) h)
  ·simp at hok
 |aU2 id ax=>
  simp only[oG]at hok
  split at hok
  ·exact aHU (ob:=ob) hs hF rfl (a2q hs hF ‹_› hok (kB _ rfl) h)
  ·simp at hok
 |aHA id zs=>
  simp only[oG]at hok
  split at hok
  ·obtain ⟨i,zv,h1,h2,h3⟩:=aN2 hok
   exact aHU (ob:=ob) hs hF rfl (aYp hs hF ‹_› h1 h2 h3 (kB _ rfl) h)
  ·simp at hok
 |ldA n ax=>
  simp only[oG]at hok
  split at hok
  ·simp only[Bool.and_eq_true]at hok
   exact mC (ob:=ob) hs hF (a5s hs hF ‹_› hok.1 hok.2 kB h)
  ·simp at hok
 |stA n ax ay=>
  simp only[oG]at hok
  split at hok
  ·simp only[Bool.and_eq_true]at hok
   exact aLW (ob:=ob) hs hF rfl (a5t hs hF ‹_› hok.1.1 hok.1.2 hok.2 kB h)
  ·simp at hok
 |ld l t ax=>
  simp only[oG]at hok
  split at hok
  ·simp only[Bool.and_eq_true]at hok
   obtain rfl:=Nat.eq_of_beq_eq_true hok.1.1.1
   exact mC (ob:=ob) hs hF (a8q hs hF ‹_› hok.1.1.2 hok.1.2 hok.2 kB h)
  ·simp at hok
 |n3 ax=>
  simp only[oG]at hok
  split at hok
  ·simp only[Bool.and_eq_true]at hok
   exact mC (ob:=ob) hs hF (a44 hs hF ‹_› hok.1 hok.2 kB h)
  ·simp at hok
 |st l ax ay=>
  simp only[oG]at hok
  split at hok
  ·simp only[Bool.and_eq_true]at hok
   exact aLW (ob:=ob) hs hF rfl (a8v hs hF ‹_› hok.1.1.1 hok.1.1.2 hok.1.2 hok.2 kB h)
  ·simp at hok
 |stC ax ay=>
  simp only[oG]at hok
  split at hok
  ·simp only[Bool.and_eq_true]at hok
   exact aLW (ob:=ob) hs hF rfl (a45 hs hF ‹_› hok.1.1 hok.1.2 hok.2 kB h)
  ·simp at hok
 |xA off n t u ax=>
  simp only[oG]at hok
  split at hok
  ·simp only[Bool.and_eq_true,a5z]at hok
   obtain ⟨⟨h1,h2,h3⟩,h4⟩:=hok
   obtain rfl:=Nat.eq_of_beq_eq_true h1
   split at h3
   ·simp only[Bool.and_eq_true]at h3
    exact mC (ob:=ob) hs hF (a47 hs hF ‹_› h2 h3.1.1.1 h3.1.1.2 h3.1.2 h3.2 h4 kB h)
   ·simp at h3
  ·simp at hok
 |bld l z jC=>
  simp only[oG]at hok
  split at hok
  ·simp only[Bool.and_eq_true]at hok
   exact mC (ob:=ob) hs hF (a5b hs hF ‹_› hok.1 hok.2 h)
  ·simp at hok
 |bslO id e l n z jC=>
  simp only[oG]at hok
  split at hok
  ·simp only[Bool.and_eq_true]at hok
   obtain rfl:=Nat.eq_of_beq_eq_true hok.1
   exact aHU (ob:=ob) hs hF rfl (a2K hs hF ‹_› hok.2 (kB _ rfl) h)
  ·simp at hok
 |bslS id e l n z jC=>
  simp only[oG]at hok
  split at hok
  ·simp only[Bool.and_eq_true]at hok
   obtain rfl:=Nat.eq_of_beq_eq_true hok.1
   exact aHU (ob:=ob) hs hF rfl (a2J hs hF ‹_› hok.2 (kB _ rfl) h)
  ·simp at hok
 |bsl e l n z jC=>
  simp only[oG]at hok
  split at hok
  ·simp only[Bool.and_eq_true]at hok
   obtain rfl:=Nat.eq_of_beq_eq_true hok.1
   exact mC (ob:=ob) hs hF (a5c hs hF ‹_› hok.2 h)
  ·simp at hok
 |iad e l ax ai=>
  simp only[oG]at hok
  split at hok
  ·simp only[Bool.and_eq_true]at hok
   exact mC (ob:=ob) hs hF (a48 hs hF ‹_› hok.1.1.1 hok.1.1.2 hok.1.2 hok.2 kB h)
  ·simp at hok
 |aB2 ax ai=>
  simp only[oG]at hok
  split at hok
  ·simp only[Bool.and_eq_true]at hok
   exact mC (ob:=ob) hs hF (a2z hs hF ‹_› (aHT hok.1.1 fun _=>isStr_eq) hok.1.2 hok.2 h)
  ·simp at hok
 |aB3 ax=>
  simp only[oG]at hok
  split at hok
  ·simp only[Bool.and_eq_true]at hok
   obtain rfl:=aTU hok.1.1
   exact mC (ob:=ob) hs hF (a2o (ty:=0) hs hF ‹_› (aHT hok.1.2 fun _=>isStr_eq) hok.2 h)
  ·simp at hok
 |gE ax=>
  simp only[oG]at hok
  split at hok
  ·simp only[Bool.and_eq_true]at hok
   obtain rfl:=aTU hok.1.1
   obtain ⟨d,hd,hsl⟩:=aKS hok.1.2
   obtain ⟨e,rfl⟩:=a0K hsl
   exact mC (ob:=ob) hs hF (a2y hs hF ‹_› hd hok.2 kB h)
  ·simp at hok
 |imin mx axs=>
  simp only[oG]at hok
  split at hok
  ·simp only[Bool.and_eq_true]at hok
   obtain rfl:=a0L hok.1
   exact mC (ob:=ob) hs hF (a2C hs hF ‹_› hok.2 h)
  ·simp at hok
 |app id e l bytes ax ay=>
  simp only[oG]at hok
  split at hok
  ·simp only[Bool.and_eq_true]at hok
   obtain rfl:=aPG hok.1.1.1.1
   obtain rfl:=Nat.eq_of_beq_eq_true hok.1.1.1.2
   obtain ⟨j,o',h1,rfl,h2⟩:=a5i hs hF ‹_› hok.1.1.2 hok.1.2 hok.2 kB h
   rw[h1];exact h2
  ·simp at hok
 |eU id e l bytes ax ay=>
  simp only[oG]at hok
  split at hok
  ·simp only[Bool.and_eq_true]at hok
   obtain rfl:=aPG hok.1.1.1.1
   obtain rfl:=Nat.eq_of_beq_eq_true hok.1.1.1.2
   obtain ⟨j,o',h1,rfl,h2⟩:=a2L hs hF ‹_› hok.1.1.2 hok.1.2 hok.2 kB h
   rw[h1];exact h2
  ·simp at hok
 |aPj id e ax ay=>
  simp only[oG]at hok
  split at hok
  ·simp only[Bool.and_eq_true]at hok
   obtain rfl:=aPG hok.1.1.1
   obtain ⟨j,o',h1,rfl,h2⟩:=a2M hs hF ‹_› hok.1.1.2 hok.1.2 hok.2 kB h
   rw[h1];exact h2
  ·simp at hok
 |mk id e l z bytes an ac=>
  simp only[oG]at hok
  split at hok
  ·simp only[Bool.and_eq_true]at hok
   exact aHU (ob:=ob) hs hF rfl (a8B hs hF ‹_› hok.1.1 hok.1.2 hok.2 (kB _ rfl) h)
  ·simp at hok
 |slc e l ax lo hi=>
  simp only[oG]at hok
  split at hok
  ·simp only[Bool.and_eq_true]at hok
   exact mC (ob:=ob) hs hF (a5g hs hF ‹_› hok.1.1.1 hok.1.1.2 hok.1.2 hok.2 kB h)
  ·simp at hok
 |slcS ax lo hi=>
  simp only[oG]at hok
  split at hok
  ·simp only[Bool.and_eq_true]at hok
   exact mC (ob:=ob) hs hF (a2D hs hF ‹_› (aHT hok.1.1.1 fun _=>isStr_eq) hok.1.1.2 hok.1.2 hok.2 h)
  ·simp at hok
 |call f ps rs axs=>
  simp only[oG]at hok
  split at hok
  ·simp only[Bool.and_eq_true]at hok
   obtain rfl:=Nat.eq_of_beq_eq_true hok.1.1
   exact mC (ob:=ob) hs hF (a2G hs hF hpc ‹_› hok.2 hok.1.2 h)
  ·simp at hok
 |callv t ps rs ax axs=>
  simp only[oG]at hok
  split at hok
  ·simp only[Bool.and_eq_true]at hok
   exact mC (ob:=ob) hs hF (a0D hs hF hpc ‹_› hok.1.2 hok.2 hok.1.1 h)
  ·simp at hok
 |mkf f t ks acs=>
  simp only[oG]at hok
  split at hok
  ·simp only[Bool.and_eq_true]at hok
   obtain rfl:=Nat.eq_of_beq_eq_true hok.1.1
   exact mC (ob:=ob) hs hF (a5e hs hF ‹_› hok.2 hok.1.2 h)
  ·simp at hok
 |ext i ax=>
  simp only[oG]at hok
  split at hok
  ·simp only[Bool.and_eq_true]at hok
   obtain rfl:=Nat.eq_of_beq_eq_true hok.1
   exact mC (ob:=ob) hs hF (a5d hs hF ‹_› hok.2 h)
  ·simp at hok
 |aW9 f ax ay=>
  simp only[oG]at hok
  split at hok
  ·simp only[Bool.and_eq_true]at hok
   obtain ⟨⟨⟨h1,h2⟩,h3⟩,h4⟩:=hok
   obtain rfl:=Nat.eq_of_beq_eq_true h1
   split at h2
   ·exact mC (ob:=ob) hs hF (a2X hs hF (hpc.1.2 _ ‹_›) ‹o.op=_› h3 h4 h)
   ·simp at h2
  ·simp at hok
 |aXa f ax ay=>
  simp only[oG]at hok
  split at hok
  ·simp only[Bool.and_eq_true]at hok
   obtain ⟨⟨⟨h1,h2⟩,h3⟩,h4⟩:=hok
   obtain rfl:=Nat.eq_of_beq_eq_true h1
   split at h2
   ·exact mC (ob:=ob) hs hF (a2Y hs hF (hpc.1.1 _ ‹_›) ‹o.op=_› h3 h4 h)
   ·simp at h2
  ·simp at hok
 |aSq m l ax ai=>
  simp only[oG]at hok
  split at hok
  ·simp only[Bool.and_eq_true]at hok
   obtain ⟨⟨h1,h2⟩,h3⟩:=hok
   split at h1
   ·exact mC (ob:=ob) hs hF (a2Z hs hF ‹_› h1 h2 h3 h)
   ·simp at h1
  ·simp at hok
 |qF m t e l ax ai=>
  simp only[oG]at hok
  split at hok
  ·simp only[Bool.and_eq_true]at hok
   obtain ⟨⟨⟨h1,h2⟩,h3⟩,h4⟩:=hok
   obtain rfl:=Nat.eq_of_beq_eq_true h1
   exact mC (ob:=ob) hs hF (a22 hs hF ‹_› h2 h3 h4 kB h)
  ·simp at hok
 |aeq neg l ax ay=>
  simp only[oG]at hok
  split at hok
  ·simp only[Bool.and_eq_true]at hok
   rcases Bool.or_eq_true _ _▸hok.1.1.2 with hq |hq
   ·exact mC (ob:=ob) hs hF (a5A hs hF ‹_› (aJk hok.1.1.1) hq hok.1.2 hok.2 h)
   ·exact mC (ob:=ob) hs hF (a2S hs hF ‹_› (aJk hok.1.1.1) hq hok.1.2 hok.2 h)
  ·simp at hok
 |mkm id kl vl=>
  simp only[oG]at hok
  split at hok
  ·exact aHU (ob:=ob) hs hF rfl (a5w hs hF ‹_› (kB _ rfl) h)
  ·simp at hok
 |lk kl vl z ax ay ok=>
  simp only[oG]at hok
  split at hok
  ·simp only[Bool.and_eq_true,beq_iff_eq]at hok
   obtain ⟨⟨⟨⟨rfl,h2⟩,h3⟩,h4⟩,h5⟩:=hok
   exact mC (ob:=ob) hs hF (a8J hs hF ‹_› h2 h3 h4 h5 kB h)
  ·simp at hok
 |mup kl ax ay ac=>
  simp only[oG]at hok
  split at hok
  ·simp only[Bool.and_eq_true]at hok
   exact aLW (ob:=ob) hs hF rfl (a1E hs hF (.inl ‹_›) hok.1.1.1 hok.1.1.2 hok.1.2 hok.2 kB h)
  ·simp only[Bool.and_eq_true]at hok
   exact aLW (ob:=ob) hs hF rfl (a1E hs hF (.inr ‹_›) hok.1.1.1 hok.1.1.2 hok.1.2 hok.2 kB h)
  ·simp at hok
 |aTv m n ax ai=>
  simp only[oG]at hok
  split at hok
  ·simp only[Bool.and_eq_true]at hok
   exact mC (ob:=ob) hs hF (a2Q hs hF ‹_› hok.1.1 hok.1.2 hok.2 kB h)
  ·simp at hok
 |bldA zs jC=>
  simp only[oG]at hok
  split at hok
  ·exact mC (ob:=ob) hs hF (a2R hs hF ‹_› hok h)
  ·simp at hok
 |aSr m t e l ax alo=>
  simp only[oG]at hok
  split at hok
  ·simp only[Bool.and_eq_true]at hok
   obtain ⟨⟨⟨⟨h1,h2⟩,h3⟩,h4⟩,h5⟩:=hok
   obtain rfl:=Nat.eq_of_beq_eq_true h1
   exact mC (ob:=ob) hs hF (a23 hs hF ‹_› h2 h3 h4 h5 h)
  ·simp at hok
 |bad=>simp[bH]at h
 |nB=>simp[bH]at h
 |_=>simp[oG]at hok
end
end Go.Ev
