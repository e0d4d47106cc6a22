/-
  Maps with plain keys: the operations on maps of one's own.
-/
import Derived.Test.YtdhebofenihjmaaGreatDoorEvMa
import Derived.Test.YtdhebofenihjmaaGreatDoorEvMk
import Derived.MapKept
import Derived.Laws.CopyRow
set_option linter.all false
set_option maxRecDepth 100000
namespace Go.Ev
variable {E:Env} {P:Program} {T:Nat→yF} {S S':yA} {pl wD:Pl} {St dD:Ev.St} {F:Fr} {a:Act} {w w':World}
def aWl (P:Program) (kt:TypeId) (kl:L):Bool:=match P.underlying kt,kl with
 |some (.int k),.one (.int k')=>Nat.beq (IntKind.tag k) (IntKind.tag k')
 |some .string,.one .str=>true
 |some .bool,.one .bool=>true
 |_,_=>false
theorem a6K {kt:TypeId} {kl:L} {d:TypeDesc} (hB:aWl P kt kl=true) (hd:P.underlying kt=some d) {u v:Value} {r s:Row} (hu:cF P T S kl u r) (hv:cF P T S kl v s):
 Instr.sameNow d u v=some (ceq kl.ks r s)∧(ceq kl.ks r s=true→u=v∧r=s):=by
 unfold aWl at hB
 rw[hd]at hB
 cases d<;>cases kl<;>(try simp only[Bool.false_eq_true]at hB)
 all_goals (rename_i k;cases k<;>(try simp only[Bool.false_eq_true]at hB))
 all_goals
  obtain ⟨c1,rfl,h1⟩:=hu
  obtain ⟨c2,rfl,h2⟩:=hv
  cases h1
  cases h2
  simp only[Instr.sameNow,L.ks,ceq,at_,List.getD_cons_zero,C.uA,C.rJ,C.qE,Bool.and_true,if_true]
 ·refine ⟨by first |rfl |trivial,fun h=> ?_⟩
  simp_all
 ·refine ⟨by first |rfl |trivial,fun h=> ?_⟩
  simp_all
 ·rename_i b1 b2
  have e:(b1==b2)=(b1.data.toList==b2.data.toList):=by
   rw[Bool.eq_iff_iff,MapKept.bytes_beq,beq_iff_eq]
   constructor
   ·intro h;rw[h]
   ·intro h
    cases b1;cases b2
    simp only[ByteArray.mk.injEq]
    exact Array.toList_inj.1 h
  refine ⟨by rw[e],fun h=> ?_⟩
  rw[←e,MapKept.bytes_beq]at h
  subst h
  exact ⟨rfl,rfl⟩
theorem bDI {kt:TypeId} {kl:L} {d:TypeDesc} (hB:aWl P kt kl=true) (hd:P.underlying kt=some d) {u:Value} {r:Row} (hu:cF P T S kl u r):MapKept.IsKey d u:=by
 unfold aWl at hB
 rw[hd]at hB
 cases d<;>cases kl<;>(try simp only[Bool.false_eq_true]at hB)
 all_goals (rename_i k;cases k<;>(try simp only[Bool.false_eq_true]at hB))
 all_goals
  obtain ⟨c1,rfl,h1⟩:=hu
  cases h1
  simp only[MapKept.IsKey]
 exact (aF4 hB).symm
def aA4 (P:Program) (T:Nat→yF) (S:yA) (kl vl:L) (es:List (Row×Row)) (oW:List MapEntry):Prop:=
 oW.length=es.length∧∀(i:Nat) (k v:Row),es[i]? =some (k,v)→∃en:MapEntry,oW[i]? =some en∧cF P T S kl en.key k∧cF P T S vl en.val v
theorem aA4.tail {kl vl:L} {e:Row×Row} {es:List (Row×Row)} {en:MapEntry} {oW:List MapEntry} (h:aA4 P T S kl vl (e::es) (en::oW)):aA4 P T S kl vl es oW:=
 ⟨by simpa using h.1,fun i k v hi=>by simpa using h.2 (i+1) k v (by simpa using hi)⟩
theorem aA4.head {kl vl:L} {k v:Row} {es:List (Row×Row)} {en:MapEntry} {oW:List MapEntry} (h:aA4 P T S kl vl ((k,v)::es) (en::oW)):cF P T S kl en.key k∧cF P T S vl en.val v:=by
 obtain ⟨en',h1,h2,h3⟩:=h.2 0 k v rfl
 simp only[List.getElem?_cons_zero,Option.some.injEq]at h1
 subst h1
 exact ⟨h2,h3⟩
theorem a0n {kt:TypeId} {kl vl:L} {d:TypeDesc} (hB:aWl P kt kl=true) (hd:P.underlying kt=some d) {kv:Value} {kr:Row} (hk:cF P T S kl kv kr):
 ∀(es:List (Row×Row)) (oW:List MapEntry) (i0:Nat),aA4 P T S kl vl es oW→
  (sJ kl kr es=none∧Instr.findNow d kv oW i0=some none∧(∀vr,aQ kl kr vr es=es++[(kr,vr)])∧aRs kl kr es=es.length)∨
  ∃j en v,oW[j]? =some en∧sJ kl kr es=some v∧Instr.findNow d kv oW i0=some (some (i0+j,en.val))∧cF P T S vl en.val v∧en.key=kv∧
   (∀vr,aQ kl kr vr es=es.set j (kr,vr))∧aRs kl kr es=j
 |[],[],i0,h=> .inl ⟨rfl,rfl,fun _=>rfl,rfl⟩
 |[],_::_,_,h=>by have:=h.1;simp at this
 |_::_,[],_,h=>by have:=h.1;simp at this
 |(k,v)::es,en::oW,i0,h=>by
  obtain ⟨hk1,hv1⟩:=h.head
  obtain ⟨s1,s2⟩:=a6K hB hd hk hk1
  cases hc:ceq kl.ks kr k with
  |true=>
   obtain ⟨e1,e2⟩:=s2 hc
   refine .inr ⟨0,en,v,rfl,by simp[sJ,hc], ?_,hv1,e1.symm,fun vr=>by rw[show aQ kl kr vr ((k,v)::es)=(k,vr)::es by simp[aQ,hc],e2];rfl,by simp[aRs,hc]⟩
   simp[Instr.findNow,s1,hc]
  |false=>
   rcases a0n hB hd hk es oW (i0+1) h.tail with ⟨f1,f2,f3,f4⟩|⟨j,en',v',f1,f2,f3,f4,f5,f6,f7⟩
   ·refine .inl ⟨by simp[sJ,hc,f1],by simp[Instr.findNow,s1,hc,f2],fun vr=>by simp[aQ,hc,f3],by simp[aRs,hc,f4]⟩
   ·refine .inr ⟨j+1,en',v',by simpa using f1,by simp[sJ,hc,f2], ?_,f4,f5,fun vr=>by simp[aQ,hc,f6],by simp[aRs,hc,f7]⟩
    simp only[Instr.findNow,s1,hc,f3,Option.some.injEq,Prod.mk.injEq,and_true]
    omega
def aUP (P:Program) (kt:TypeId) (kl:L):Bool:=aWl P kt kl ||aHg P kt kl
theorem a3B {kt:TypeId} {kl:L} (hB:aWl P kt kl=true):∃d,P.underlying kt=some d:=by
 unfold aWl at hB
 cases hd:P.underlying kt with
 |none=>simp[hd]at hB
 |some d=>exact ⟨d,rfl⟩
theorem aXv {kt:TypeId} {kl:L} {u:Value} {r:Row} (hB:aUP P kt kl=true) (hu:cF P T S kl u r) (em:Bool):(Instr.checkKey em 10000 kt u).run P w= .ok () w:=by
 rcases Bool.or_eq_true _ _▸hB with h |h
 ·obtain ⟨d,hd⟩:=a3B h
  exact MapKept.run_checkKey (P:=P) (w:=w) hd (bDI h hd hu) em 9999
 ·exact a2t em h hu
theorem a0o {kt:TypeId} {kl vl:L} (hB:aHg P kt kl=true) {kv:Value} {kr:Row} (hk:cF P T S kl kv kr):
 ∀(es:List (Row×Row)) (oW:List MapEntry) (i0:Nat),aA4 P T S kl vl es oW→
  (sJ kl kr es=none∧(Instr.findAsking kt kv oW i0).run P w= .ok none w∧(∀vr,aQ kl kr vr es=es++[(kr,vr)])∧aRs kl kr es=es.length)∨
  ∃j en v,oW[j]? =some en∧sJ kl kr es=some v∧(Instr.findAsking kt kv oW i0).run P w= .ok (some (i0+j,en.val)) w∧cF P T S vl en.val v∧en.key=kv∧
   (∀vr,aQ kl kr vr es=es.set j (kr,vr))∧aRs kl kr es=j
 |[],[],i0,h=> .inl ⟨rfl,by simp[Instr.findAsking],fun _=>rfl,rfl⟩
 |[],_::_,_,h=>by have:=h.1;simp at this
 |_::_,[],_,h=>by have:=h.1;simp at this
 |(k,v)::es,en::oW,i0,h=>by
  obtain ⟨hk1,hv1⟩:=h.head
  have s1:(Op.equal kt kv en.key).run P w= .ok (ceq kl.ks kr k) w:=aUO hB hk hk1
  cases hc:ceq kl.ks kr k with
  |true=>
   have e12:kv=en.key∧kr=k:=by
    have hpl:=aUM hB
    have:(∃ks,kl= .agg ks):=by
     unfold aHg at hB
     split at hB
     ·exact ⟨_,rfl⟩
     ·exact ⟨_,rfl⟩
     ·simp at hB
    obtain ⟨ks,rfl⟩:=this
    obtain ⟨cs,rfl,g1⟩:=hk
    obtain ⟨ds,e,g2⟩:=hk1
    obtain ⟨q1,q2⟩:=a4Y hpl g1 g2 hc
    rw[e]
    exact ⟨by rw[Array.toList_inj.1 q1],q2⟩
   obtain ⟨e1,e2⟩:=e12
   refine .inr ⟨0,en,v,rfl,by simp[sJ,hc], ?_,hv1,e1.symm,fun vr=>by rw[show aQ kl kr vr ((k,v)::es)=(k,vr)::es by simp[aQ,hc],e2];rfl,by simp[aRs,hc]⟩
   simp[Instr.findAsking,s1,hc]
  |false=>
   rcases a0o hB hk es oW (i0+1) h.tail with ⟨f1,f2,f3,f4⟩|⟨j,en',v',f1,f2,f3,f4,f5,f6,f7⟩
   ·refine .inl ⟨by simp[sJ,hc,f1],by simp[Instr.findAsking,s1,hc,f2],fun vr=>by simp[aQ,hc,f3],by simp[aRs,hc,f4]⟩
   ·refine .inr ⟨j+1,en',v',by simpa using f1,by simp[sJ,hc,f2], ?_,f4,f5,fun vr=>by simp[aQ,hc,f6],by simp[aRs,hc,f7]⟩
    simp only[Instr.findAsking,Sem.run_bind,s1,hc,Result.andThen_ok,Bool.false_eq_true,if_false,f3,Result.ok.injEq,Option.some.injEq,Prod.mk.injEq,and_true]
    omega
theorem a0p {kt:TypeId} {kl vl:L} (hB:aUP P kt kl=true) {kv:Value} {kr:Row} (hk:cF P T S kl kv kr) (es:List (Row×Row)) (oW:List MapEntry) (h:aA4 P T S kl vl es oW):
 (sJ kl kr es=none∧(Instr.findKey kt kv oW).run P w= .ok none w∧(∀vr,aQ kl kr vr es=es++[(kr,vr)])∧aRs kl kr es=es.length)∨
 ∃j en v,oW[j]? =some en∧sJ kl kr es=some v∧(Instr.findKey kt kv oW).run P w= .ok (some (j,en.val)) w∧cF P T S vl en.val v∧en.key=kv∧
  (∀vr,aQ kl kr vr es=es.set j (kr,vr))∧aRs kl kr es=j:=by
 rcases Bool.or_eq_true _ _▸hB with hp |hw
 ·obtain ⟨d,hd⟩:=a3B hp
  rcases a0n hp hd hk es oW 0 h with ⟨f1,f2,f3,f4⟩|⟨j,en,v,f1,f2,f3,f4,f5,f6,f7⟩
  ·exact .inl ⟨f1,MapKept.run_findKey (P:=P) (w:=w) (kt:=kt) hd f2,f3,f4⟩
  ·refine .inr ⟨j,en,v,f1,f2, ?_,f4,f5,f6,f7⟩
   have:=MapKept.run_findKey (P:=P) (w:=w) (kt:=kt) hd f3
   rwa[Nat.zero_add]at this
 ·rcases a0o (w:=w) hw hk es oW 0 h with ⟨f1,f2,f3,f4⟩|⟨j,en,v,f1,f2,f3,f4,f5,f6,f7⟩
  ·exact .inl ⟨f1,by rw[run_findKey_eq w (aXu hw)];exact f2,f3,f4⟩
  ·refine .inr ⟨j,en,v,f1,f2, ?_,f4,f5,f6,f7⟩
   rw[run_findKey_eq w (aXu hw)]
   rwa[Nat.zero_add]at f3
theorem Bo.push {oW:Array MapEntry} {clock:Nat} {en:MapEntry} (h:Bo oW clock) (he:en.born=clock):Bo (oW.push en) (clock+1):=by
 obtain ⟨h1,h2⟩:=h
 refine ⟨by simp[h1],fun i e hi=> ?_⟩
 rw[Array.getElem?_push]at hi
 split at hi
 ·rename_i hq;cases hi;omega
 ·exact h2 i e hi
theorem Bo.modify {oW:Array MapEntry} {clock:Nat} {j:Nat} {f:MapEntry→MapEntry} (h:Bo oW clock) (hf:∀e,(f e).born=e.born):Bo (oW.modify j f) clock:=by
 obtain ⟨h1,h2⟩:=h
 refine ⟨by simp[h1],fun i e hi=> ?_⟩
 rw[Array.getElem?_modify]at hi
 split at hi
 ·cases hq:oW[i]? with
  |none=>simp[hq]at hi
  |some x=>simp[hq]at hi;rw[←hi,hf];exact h2 i x hq
 ·exact h2 i e hi
theorem aXw {id:Nat} {kl vl:L} {es es':List (Row×Row)} {oW a6L:Array MapEntry} {clock clock':Nat} {av:AV} {v:Value} (hs:mW P T S pl St w) (oB:St[id]? =some (.map kl vl es))
 (hh:w.heap[pl.blk id]? =some (.map oW clock)) (aOu:aA4 P T S kl vl es' a6L.toList) (hbo:Bo a6L clock')
 (hv:iB P T S pl (St.set id (.map kl vl es')) av v):bB P T S pl St w (St.set id (.map kl vl es')) av v {w with heap:=w.heap.setIfInBounds (pl.blk id) (.map a6L clock')}:=by
 have hlt:id<St.length:=(List.getElem?_eq_some_iff.1 oB).1
 obtain ⟨hnew,aPg⟩:=MapKept.heap_set (w:=w) (o':= .map a6L clock') hh
 have hk:kD pl St pl (St.set id (.map kl vl es')):=kD.set oB fun _=>⟨by simp,by simp,by simp,by simp,by simp,fun a b c e=>by
  cases e;exact ⟨_,_,_,rfl⟩⟩
 refine ⟨S,pl, ?_,⟨rfl,rfl,rfl,by simp,fun b hb hn=> ?_,S.le_refl,fun _ _ _ _=>rfl⟩,hv,fun _ _ h=>h.keep hk S.le_refl, ?_⟩
 ·refine hs.upd hlt hk S.le_refl (fun j _=>⟨rfl,rfl⟩) (fun j o hj h ho=> ?_) (fun b o v h=> ?_) ?_ (fun _ off _=>hs.apart id _ oB rfl off (by simp[Obj.sn])) (fun j o _ h ho=>hs.apart j o h ho)
   (fun _ j o hj h ho hb=>hj (hs.inj j id o _ h oB ho rfl hb)) (fun g _ ha=>⟨aPg g (fun e=>ha id _ oB rfl e.symm),fun _=>ha id _ oB rfl⟩)
  ·exact aPg _ (fun hb=>hj (hs.inj j id o _ h oB ho rfl hb))
  ·have hne:b≠pl.blk id:=fun hb=>by
    have:=hs.apart id _ oB rfl o (by simp[Obj.sn])
    rw[←hb]at this;rw[this]at h;cases h
   rw[World.cell?_of_block (w:=w) (aPg _ hne)]
   exact hs.yM _ _ _ h
  ·exact ⟨a6L,clock',hnew,⟨by simpa using aOu.1,hbo⟩,fun i k v hi=>by
    obtain ⟨en,h1,h2⟩:=aOu.2 i k v hi
    exact ⟨en,by simpa using h1,h2⟩⟩
 ·exact aPg _ (fun hb=>hn ⟨id,_,oB,rfl,rfl,hb.symm⟩)
 ·rintro b ⟨j,o,h,ho,hb⟩
  by_cases hj:j=id
  ·subst hj;exact .inl ⟨j,_,oB,rfl,rfl,hb.2⟩
  ·rw[List.getElem?_set_ne (Ne.symm hj)]at h;exact .inl ⟨j,o,h,ho,hb⟩
theorem iB.of_map {id:Nat} {kl vl:L} {es:List (Row×Row)} {v:Value} (h:iB P T S pl St (.map id) v) (oB:St[id]? =some (.map kl vl es)):v= .map (some (pl.blk id)):=by
 cases h with
 |map h1 h2 h3 h4=>
  rw[oB]at h2
  cases h2
  exact h4 _ _ _ rfl
def aYP (P:Program) (t:TypeId) (f:Value→Bool):Bool:=match P.info? t with |some i=>(match i.zero with |some zv=>f zv |none=>false)|none=>false
theorem aYQ {t:TypeId} {f:Value→Bool} (h:aYP P t f=true):∃i zv,P.info? t=some i∧i.zero=some zv∧f zv=true:=by
 unfold aYP at h;split at h
 ·rename_i i hi;split at h
  ·rename_i zv hz;exact ⟨i,zv,hi,hz,h⟩
  ·simp at h
 ·simp at h
theorem a41 {t:TypeId} {i:TypeInfo} {zv:Value} (hi:P.info? t=some i) (hz:i.zero=some zv) (w:World):(zeroValue t).run P w= .ok zv w:=by
 simp[zeroValue,run_typeInfo _ hi,Result.andThen,hz]
def a9J (P:Program) (t:TypeId) (kl vl:L):Bool:=match P.underlying t with
 |some (.map kt et)=>aUP P kt kl&&aF5 P et vl
 |_=>false
section
variable {o:Oper} {x y c:Operand} {ax ay ac:rD} {base:Nat}
variable (hs:mW P T S pl St w) (hF:wX P T S pl St F a.tmps)
include hs hF
theorem bGh {t:TypeId} {kl vl:L} {id:Nat} {ob:Obj} {av:AV} {no:Option Obj} (ho:o.op= .makeMap t none) (oB:St[base+id]? =some ob)
 (h:rG E F St ob (.mkm id kl vl) base cB=some (av,no)):∃o',no=some o'∧cE P o a w (bB P T S pl St w (St.set (base+id) o') av):=by
 simp only[rG,uD]at h
 split at h
 ·simp only[cB,Option.some.injEq,Prod.mk.injEq]at h
  obtain ⟨rfl,rfl⟩:=h
  have hlt:base+id<St.length:=(List.getElem?_eq_some_iff.1 oB).1
  refine ⟨_,rfl,mA (v:= .map (some w.heap.size)) (w':=w.alloc (.map #[] 0)) ?_ (aNb (cap:=0) hs oB ?_ ?_)⟩
  ·simp only[execOp,ho]
   exact qW rfl
  ·refine ⟨#[],0, ?_,⟨rfl,rfl,fun i en h=>by simp at h⟩,fun i k v h=>by simp at h⟩
   rw[Pl.lD]
   exact (MapKept.heap_alloc w _).1
  ·refine .map (o:= .map kl vl []) rfl (List.getElem?_set_self hlt) (by simp) (fun _ _ _ _=> ?_)
   rw[Pl.lD]
 ·simp at h
theorem bI3 {t:TypeId} {kl vl:L} {z:Row} {ok:Bool} {ob:Obj} {av:AV} {no:Option Obj} (ho:o.op= .lookup t x y ok) (hB:a9J P t kl vl=true)
 (hz:(match P.underlying t with |some (.map _ et)=>aYP P et (fun zv=>aAt vl zv z)|_=>false)=true) (hx:oA P T x ax=true) (hy:oA P T y ay=true)
 (oB:∀id,tJ (ax.ev F)=some id→St[id]? =some ob)
 (h:rG E F St ob (.lk kl vl z ax ay ok) base cB=some (av,no)):no=none∧cE P o a w (bB P T S pl St w St av):=by
 have hv:=sC hs hx hF
 have hk:=qA hs hy hF
 simp only[rG]at h
 obtain ⟨l,kr,e1,hA0⟩:=zM h
 obtain ⟨b1,hA⟩:=lA hA0
 clear hA0 h
 obtain rfl:=L.beq_eq b1
 rw[e1]at hk
 have hk':cF P T S kl (a.eval y) kr:=by cases hk;assumption
 unfold a9J at hB
 cases hu:P.underlying t with
 |none=>simp[hu]at hB
 |some dd=>
  cases dd<;>simp only[hu,Bool.false_eq_true]at hB hz
  rename_i kt et
  simp only[Bool.and_eq_true]at hB
  obtain ⟨i,zv,hi,hzv,hzc⟩:=aYQ hz
  have hzr:=pM (P:=P) (T:=T) (S:=S) hzc
  split at hA
  ·rename_i id ex
   have oB:=oB id (by rw[ex];rfl)
   rw[ex]at hv
   unfold aUw at hA
   split at hA
   ·rename_i kl' vl' es _
    obtain ⟨b2,hA1⟩:=lA hA
    clear hA
    have hA:=hA1
    clear hA1
    simp only[Bool.and_eq_true]at b2
    obtain rfl:=L.beq_eq b2.1
    obtain rfl:=L.beq_eq b2.2
    have ev:=hv.of_map oB
    obtain ⟨oW,clock,hh,⟨hsz,hbo⟩,hen⟩:=hs.objs _ _ oB
    have hE:aA4 P T S kl vl es oW.toList:=⟨by simpa using hsz,fun i k v hi=>by simpa using hen i k v hi⟩
    have hrun:∃u,cF P T S vl u ((sJ kl kr es).getD z)∧(execOp a.eval o).run P w= .ok (.value (if ok then .tuple #[u,.bool (sJ kl kr es).isSome]else u)) w:=by
     have aMZ:=MapKept.run_getObj_map (P:=P) hh
     have hck:=aXv (w:=w) hB.1 hk' oW.isEmpty
     rcases a0p (w:=w) hB.1 hk' es oW.toList hE with ⟨f1,f2,_,_⟩|⟨j,en,v,f1,f2,f3,f4,_,_,_⟩
     ·refine ⟨zv,by rw[f1];exact hzr, ?_⟩
      have hfk:=f2
      simp only[execOp,ho]
      refine qW ?_
      rw[ev]
      simp[Instr.lookup,run_underlying hu,Sem.run_bind,Result.andThen,aMZ,hck,hfk,a41 hi hzv,f1]
     ·refine ⟨en.val,by rw[f2];exact f4, ?_⟩
      have hfk:=f3
      simp only[execOp,ho]
      refine qW ?_
      rw[ev]
      simp[Instr.lookup,run_underlying hu,Sem.run_bind,Result.andThen,aMZ,hck,hfk,f2]
    obtain ⟨u,hu1,hu2⟩:=hrun
    cases ok with
    |false=>
     simp only[cB,Option.some.injEq,Prod.mk.injEq]at hA
     obtain ⟨rfl,rfl⟩:=hA
     rw[hu1.nrm]
     exact ⟨rfl,mA hu2 (.same hs (.d hu1))⟩
    |true=>
     simp only[cB,Option.some.injEq,Prod.mk.injEq]at hA
     obtain ⟨rfl,rfl⟩:=hA
     rw[hu1.nrm]
     refine ⟨rfl,mA hu2 (.same hs ?_)⟩
     have:=iB.tup (P:=P) (T:=T) (S:=S) (pl:=pl) (St:=St) (yL:=[.d vl ((sJ kl kr es).getD z),vB (sJ kl kr es).isSome]) (fun i=>#[u,.bool (sJ kl kr es).isSome].getD i undef) (fun i av hi=>by
      match i,hi with
      |0,hi=>simp at hi;subst hi;exact .d hu1
      |1,hi=>simp at hi;subst hi;exact .d ⟨_,rfl,.bool⟩)
     exact this
   ·simp at hA
  ·simp at hA
omit hs hF in
theorem a42 {kt:TypeId} {kl:L} (hB:aWl P kt kl=true) {u:Value} {r:Row} (hu:cF P T S kl u r) (n:Nat):Instr.sameBits n u u=true:=by
 unfold aWl at hB
 cases hd:P.underlying kt with
 |none=>simp[hd]at hB
 |some d=>
  rw[hd]at hB
  cases d<;>cases kl<;>(try simp only[Bool.false_eq_true]at hB)
  all_goals (rename_i k;cases k<;>(try simp only[Bool.false_eq_true]at hB))
  all_goals
   obtain ⟨c1,rfl,h1⟩:=hu
   cases h1
   cases n<;>simp[Instr.sameBits,MapKept.bytes_beq]
omit hs hF in
theorem a6N {kt:TypeId} {kl:L} (hB:aUP P kt kl=true) {u:Value} {r:Row} (hu:cF P T S kl u r):Instr.sameBits 10000 u u=true:=by
 rcases Bool.or_eq_true _ _▸hB with h |h
 ·exact a42 h hu 10000
 ·exact a4Z h hu
omit hs hF in
theorem a6O {kl vl:L} {es:List (Row×Row)} {oW:Array MapEntry} {j:Nat} {kv vv:Value} {kr vr:Row} (h:aA4 P T S kl vl es oW.toList) (hk:cF P T S kl kv kr) (hv:cF P T S vl vv vr):
 aA4 P T S kl vl (es.set j (kr,vr)) (oW.modify j fun e=>{e with key:=kv,val:=vv}).toList:=by
 refine ⟨by simpa using h.1,fun i k v hi=> ?_⟩
 have aMZ:(oW.modify j fun e=>{e with key:=kv,val:=vv}).toList[i]? =(oW.toList[i]?).map fun e=>if j=i then {e with key:=kv,val:=vv}else e:=by
  rw[Array.getElem?_toList,Array.getElem?_modify,Array.getElem?_toList]
  by_cases hji:j=i
  ·simp[hji]
  ·simp[hji]
 rw[aMZ]
 by_cases hji:j=i
 ·subst hji
  rw[List.getElem?_set]at hi
  simp only[if_true]at hi
  split at hi
  ·rename_i hlt
   simp only[Option.some.injEq,Prod.mk.injEq]at hi
   obtain ⟨rfl,rfl⟩:=hi
   have hl:j<oW.toList.length:=by rw[h.1];exact hlt
   exact ⟨_,by rw[List.getElem?_eq_getElem hl];rfl,by simp[hk],by simp[hv]⟩
  ·simp at hi
 ·rw[List.getElem?_set_ne hji]at hi
  obtain ⟨en,h1,h2,h3⟩:=h.2 i k v hi
  exact ⟨en,by rw[h1];simp[hji],h2,h3⟩
omit hs hF in
theorem a43 {kl vl:L} {es:List (Row×Row)} {oW:Array MapEntry} {en:MapEntry} {kr vr:Row} (h:aA4 P T S kl vl es oW.toList) (hk:cF P T S kl en.key kr) (hv:cF P T S vl en.val vr):
 aA4 P T S kl vl (es++[(kr,vr)]) (oW.push en).toList:=by
 refine ⟨by simpa using h.1,fun i k v hi=> ?_⟩
 rw[Array.toList_push]
 have hl:=h.1
 rcases Nat.lt_or_ge i es.length with hlt |hge
 ·rw[List.getElem?_append_left hlt]at hi
  obtain ⟨en',h1,h2⟩:=h.2 i k v hi
  exact ⟨en',by rw[List.getElem?_append_left (by omega)];exact h1,h2⟩
 ·rw[List.getElem?_append_right hge]at hi
  have:i - es.length=0:=by
   rcases Nat.eq_zero_or_pos (i - es.length)with h0 |h0
   ·exact h0
   ·rw[List.getElem?_eq_none (by simp;omega)]at hi;cases hi
  rw[this]at hi
  simp only[List.getElem?_cons_zero,Option.some.injEq,Prod.mk.injEq]at hi
  obtain ⟨rfl,rfl⟩:=hi
  exact ⟨en,by rw[List.getElem?_append_right (by omega),show i - oW.toList.length=0 by omega];rfl,hk,hv⟩
def a3C (P:Program) (t:TypeId) (kl:L):Bool:=match P.underlying t with
 |some (.map kt _)=>aUP P kt kl
 |_=>false
theorem bAW {t:TypeId} {kl:L} {ob:Obj} {av:AV} {no:Option Obj} (ho:o.op= .mapUpdate t x y c∨o.op= .insert t x y c) (hB:a3C P t kl=true)
 (hx:oA P T x ax=true) (hy:oA P T y ay=true) (hc:oA P T c ac=true)
 (oB:∀id,tJ (ax.ev F)=some id→St[id]? =some ob)
 (h:rG E F St ob (.mup kl ax ay ac) base cB=some (av,no)):∃id o',tJ (ax.ev F)=some id∧no=some o'∧cE P o a w (bB P T S pl St w (St.set id o') av):=by
 have hv:=sC hs hx hF
 have hk:=qA hs hy hF
 have hu:=qA hs hc hF
 simp only[rG]at h
 obtain ⟨l,kr,e1,hA0⟩:=zM h
 obtain ⟨lv,vr,e2,hA⟩:=zM hA0
 clear hA0 h
 rw[e1]at hk
 rw[e2]at hu
 have hk':cF P T S l (a.eval y) kr:=by cases hk;assumption
 have hu':cF P T S lv (a.eval c) vr:=by cases hu;assumption
 unfold a3C at hB
 cases hut:P.underlying t with
 |none=>simp[hut]at hB
 |some dd=>
  cases dd<;>simp only[hut,Bool.false_eq_true]at hB
  rename_i kt et
  split at hA
  ·rename_i id ex
   have oB:=oB id (by rw[ex];rfl)
   rw[ex]at hv
   unfold aUw at hA
   split at hA
   ·rename_i kl' vl' es _
    obtain ⟨b2,hA1⟩:=lA hA
    clear hA
    simp only[Bool.and_eq_true]at b2
    obtain rfl:=L.beq_eq b2.1.1
    obtain rfl:=L.beq_eq b2.1.2
    obtain rfl:=L.beq_eq b2.2
    simp only[cB,Option.some.injEq,Prod.mk.injEq]at hA1
    obtain ⟨rfl,rfl⟩:=hA1
    have ev:=hv.of_map oB
    obtain ⟨oW,clock,hh,⟨hsz,hbo⟩,hen⟩:=hs.objs _ _ oB
    have hE:aA4 P T S kl vl' es oW.toList:=⟨by simpa using hsz,fun i k v hi=>by simpa using hen i k v hi⟩
    refine ⟨id,_,by rw[ex];rfl,rfl, ?_⟩
    have aMZ:=MapKept.run_getObj_map (P:=P) hh
    have hck:=aXv (w:=w) hB hk' false
    have hex:∀{w'},(Instr.mapUpdate t (.map (some (pl.blk id))) (a.eval y) (a.eval c)).run P w= .ok () w'→(execOp a.eval o).run P w= .ok .skip w':=by
     intro w' hr
     rcases ho with ho |ho<;>simp only[execOp,ho]<;>refine bAN ?_<;>rw[ev]<;>exact hr
    rcases a0p (w:=w) hB hk' es oW.toList hE with ⟨f1,f2,f3,_⟩|⟨j,en,v,f1,f2,f3,f4,f5,f6,_⟩
    ·have hfk:=f2
     rw[f3]
     refine aG3 (hex (w':={w with heap:=w.heap.setIfInBounds (pl.blk id) (.map (oW.push {key:=a.eval y,val:=a.eval c,born:=clock}) (clock+1))}) ?_) (aXw hs oB hh (a43 hE hk' hu') (hbo.push rfl) .und)
     simp[Instr.mapUpdate,run_underlying hut,Sem.run_bind,Result.andThen,aMZ,hck,hfk,MapKept.run_setObj_map (P:=P) _ hh]
    ·have hfk:=f3
     rw[f6]
     refine aG3 (hex (w':={w with heap:=w.heap.setIfInBounds (pl.blk id) (.map (oW.modify j fun e=>{e with key:=a.eval y,val:=a.eval c}) clock)}) ?_) (aXw hs oB hh (a6O hE hk' hu') (hbo.modify fun _=>rfl) .und)
     have hj:oW[j]? =some en:=by simpa using f1
     simp[Instr.mapUpdate,run_underlying hut,Sem.run_bind,Result.andThen,aMZ,hck,hfk,Instr.keyThatStays,hj,f5,a6N hB hk',MapKept.run_setObj_map (P:=P) _ hh]
   ·simp at hA
  ·simp at hA
def a6P (P:Program) (t:TypeId) (m n:Nat):Bool:=match P.underlying t with
 |some (.array m' e)=>Nat.beq m' m&&aOL P e n
 |_=>false
omit hs hF in
theorem aSO {A:Type} {j:Int} {k:Nat→Option A} {r:A}:∀(i m:Nat),aM6 j i m k=some r→∃q:Nat,i≤q∧q<i+m∧j=(q:Int)∧k q=some r
 |i,0,h=>by simp[aM6]at h
 |i,m+1,h=>by
  simp only[aM6]at h
  split at h
  ·rename_i e;exact ⟨i,Nat.le_refl _,by omega,e,h⟩
  ·obtain ⟨q,h1,h2,h3,h4⟩:=aSO (i+1) m h
   exact ⟨q,by omega,by omega,h3,h4⟩
theorem bDK {m n:Nat} {t:TypeId} {ob:Obj} {av:AV} {no:Option Obj} (ho:o.op= .indexAddr t x y) (hB:a6P P t m n=true) (hx:oA P T x ax=true) (hy:oA P T y ay=true)
 (oB:∀id,tJ (ax.ev F)=some id→St[id]? =some ob)
 (h:rG E F St ob (.a19 m n ax ay) base cB=some (av,no)):no=none∧cE P o a w (bB P T S pl St w St av):=by
 have hv:=sC hs hx hF
 have hi:=qA hs hy hF
 simp only[rG]at h
 obtain ⟨kd,ri,ei,hA⟩:=aG h
 rw[ei]at hi
 have hi:=hi.of_int
 generalize (at_ ri 0).uA=j at*
 unfold a6P at hB
 cases hu:P.underlying t with
 |none=>simp[hu]at hB
 |some dd=>
  cases dd<;>simp only[hu,Bool.false_eq_true]at hB
  rename_i m' e
  simp only[Bool.and_eq_true]at hB
  obtain rfl:=Nat.eq_of_beq_eq_true hB.1
  have key:∀(b p q:Nat),q<m'→j=(q:Int)→(Instr.indexAt t (.pointer (some ⟨b,p,none⟩)) (.int kd j)).run P w= .ok (.pointer (some ⟨b,p+q*n,none⟩)) w:=by
   intro b p q hq hj
   subst hj
   have h0:(0:Int)≤(q:Int):=by omega
   have h1:(q:Int)<(m':Int):=by omega
   simp[Instr.indexAt,Instr.sureAddr,run_underlying hu,asIntOf,h0,h1,aBp hB.2 w,add_eq,hq]
  split at hA
  ·rename_i id p ex
   have oB:=oB id (by rw[ex];rfl)
   rw[ex]at hv
   obtain ⟨hk2,hC⟩:=aLb hA
   obtain ⟨q,_,hq,hj,hD⟩:=aSO _ _ hC
   simp only[cB,Option.some.injEq,Prod.mk.injEq]at hD
   obtain ⟨rfl,rfl⟩:=hD
   have e1:=hv.aUI oB hk2
   refine ⟨rfl,mA (w':=w) (vJ ho ?_) (.same hs (.a2l oB hk2))⟩
   rw[e1,hi];exact key _ _ q (by omega) hj
  ·simp at hA
end
end Go.Ev
namespace Go.Ev
variable {E:Env} {P:Program} {T:Nat→yF} {S S':yA} {pl wD:Pl} {St dD:Ev.St} {F:Fr} {a:Act} {w w':World}
def a0q (P:Program) (T:Nat→yF) (S:yA) (pl:Pl) (St:Ev.St) (cells:Array Value) (z:List AV):Prop:=
 cells.size=z.length∧(∀i u,z[i]? =some u→iB P T S pl St u (cells.getD i undef))∧∀i,i<cells.size→(cells.getD i undef).oneCell'=true
theorem a0q.put {cells:Array Value} {z vs:List AV} {v:Value} {off:Nat} (h:a0q P T S pl St cells z) (hv:a0q P T S pl St v.cells vs) (hle:off+vs.length≤z.length):
 a0q P T S pl St (cells.toList.take off++v.cells.toList++cells.toList.drop (off+vs.length)).toArray (a2c off vs z):=by
 obtain ⟨a1,a2,a3⟩:=h
 obtain ⟨b1,b2,b3⟩:=hv
 have hlen:(cells.toList.take off++v.cells.toList++cells.toList.drop (off+vs.length)).length=z.length:=by simp;omega
 have aMZ:∀i,(cells.toList.take off++v.cells.toList++cells.toList.drop (off+vs.length)).toArray.getD i undef=if i<off then cells.getD i undef else if i<off+vs.length then v.cells.getD (i - off) undef else cells.getD i undef:=fun i=>by
  have:=rW cells.toList v.cells.toList off vs.length i (by simpa using b1) (by simp;omega)
  simp only[List.getD_eq_getElem?_getD,Array.getD_eq_getD_getElem?,List.getElem?_toArray,this]
  split
  ·simp
  ·split<;>simp
 refine ⟨by rw[aSM hle];simpa using hlen,fun i u hi=> ?_,fun i hi=> ?_⟩
 ·rw[a0k hle]at hi
  rw[aMZ]
  split at hi
  ·rename_i h1;rw[if_pos h1];exact a2 i u hi
  ·rename_i h1
   rw[if_neg h1]
   split at hi
   ·rename_i h2;rw[if_pos h2];exact b2 _ u hi
   ·rename_i h2;rw[if_neg h2];exact a2 i u hi
 ·rw[aMZ]
  have hi':i<cells.size:=by simp at hi;omega
  by_cases h1:i<off
  ·rw[if_pos h1];exact a3 i hi'
  ·rw[if_neg h1]
   by_cases h2:i<off+vs.length
   ·rw[if_pos h2];exact b3 _ (by omega)
   ·rw[if_neg h2];exact a3 i hi'
theorem aSP {A:Type} {place:Nat→Option (Nat×Nat)} {k:List AV→Option A} {res:A} (hs:mW P T S pl St w) (hF:wX P T S pl St F a.tmps):
 ∀(parts:List (Nat×Operand)) (mC:List (Nat×Nat×rD)) (cells:Array Value) (z:List AV),wR P T place parts mC=true→a0q P T S pl St cells z→
  aOI F mC z k=some res→∃cells' z',Instr.fill place cells (parts.map fun p=>(p.1,a.eval p.2))=some cells'∧a0q P T S pl St cells' z'∧k z'=some res
 |[],[],cells,z,_,hr,h=>⟨cells,z,rfl,hr,h⟩
 |[],_::_,_,_,h,_,_=>by simp[wR]at h
 |_::_,[],_,_,h,_,_=>by simp[wR]at h
 |(i,x)::r,(off,m,ax)::r',cells,z,hp,hr,h=>by
  simp only[wR,Bool.and_eq_true]at hp
  obtain ⟨⟨hp1,hp2⟩,hp3⟩:=hp
  split at hp1
  ·rename_i off' m' hpl
   simp only[Bool.and_eq_true]at hp1
   obtain rfl:=Nat.eq_of_beq_eq_true hp1.1
   obtain rfl:=Nat.eq_of_beq_eq_true hp1.2
   simp only[aOI]at h
   split at h
   ·rename_i vs hcv
    obtain ⟨hb,hB⟩:=lA h
    simp only[Bool.and_eq_true]at hb
    have hm:=Nat.eq_of_beq_eq_true hb.1
    have hle:off+m≤z.length:=by simpa using hb.2
    subst hm
    have hv:=sC hs hp2 hF
    obtain ⟨c1,c2,c3⟩:=hv.aB0 hcv
    have hput:=hr.put (v:=a.eval x) (off:=off) ⟨c1,c2,c3⟩ hle
    have hst:=aRE (cells:=cells) (rest:=r.map fun p=>(p.1,a.eval p.2)) hpl c1 (by rw[hr.1];exact hle)
    obtain ⟨cells',z',g1,g2,g3⟩:=aSP hs hF r r' _ _ hp3 hput hB
    exact ⟨cells',z',by rw[List.map_cons,hst];exact g1,g2,g3⟩
   ·simp at h
  ·simp at hp1
def a6Q (P:Program) (T:Nat→yF) (t:TypeId) (zs:List (Option (K×C))) (parts:List (Nat×Operand)) (mC:List (Nat×Nat×rD)):Bool:=
 match P.info? t,P.underlying t with
 |some it,some (.array _ e)=>(match it.zero,P.info? e with
  |some zv,some ie=>aRw zs zv.cells.toList&&wR P T (fun i=>some (i*ie.size,ie.size)) parts mC
  |_,_=>false)
 |some it,some (.struct fields)=>(match it.zero,fields.toList.mapM (fun f=>(P.info? f.type).map fun i=>(f.offset,i.size))with
  |some zv,some places=>aRw zs zv.cells.toList&&wR P T (places.toArray[·]?) parts mC
  |_,_=>false)
 |_,_=>false
section
variable {o:Oper} {x y c:Operand} {ax ay ac:rD} {base:Nat}
variable (hs:mW P T S pl St w) (hF:wX P T S pl St F a.tmps)
include hs hF
theorem bDL {t:TypeId} {zs:List (Option (K×C))} {parts:Array (Nat×Operand)} {mC:List (Nat×Nat×rD)} {ob:Obj} {av:AV} {no:Option Obj} (ho:o.op= .build t parts)
 (hb:a6Q P T t zs parts.toList mC=true)
 (h:rG E F St ob (.bldA zs mC) base cB=some (av,no)):no=none∧cE P o a w (bB P T S pl St w St av):=by
 simp only[rG]at h
 have fin:∀(place:Nat→Option (Nat×Nat)) (zv:Value),aRw zs zv.cells.toList=true→wR P T place parts.toList mC=true→
  ∃cells z',Instr.fill place zv.cells (parts.toList.map fun p=>(p.1,a.eval p.2))=some cells∧a0q P T S pl St cells z'∧cB (.agg z') none=some (av,no):=by
  intro place zv hc hp
  obtain ⟨c1,c2,c3⟩:=aK2 (P:=P) (T:=T) (S:=S) (pl:=pl) (St:=St) hc
  refine aSP hs hF _ _ zv.cells (zsV zs) hp ⟨by rw[aK1,←c1];simp,fun i u hi=> ?_,fun i hi=> ?_⟩ h
  ·simpa[List.getD_eq_getElem?_getD]using c2 i u hi
  ·simpa[List.getD_eq_getElem?_getD]using c3 i (by simpa using hi)
 have done:∀(cells:Array Value) (z':List AV),P.built t (parts.toList.map fun p=>(p.1,a.eval p.2))=some cells→a0q P T S pl St cells z'→cB (.agg z') none=some (av,no)→
  no=none∧cE P o a w (bB P T S pl St w St av):=by
  intro cells z' hbu hr he
  simp only[cB,Option.some.injEq,Prod.mk.injEq]at he
  obtain ⟨rfl,rfl⟩:=he
  obtain ⟨r1,r2,r3⟩:=hr
  refine ⟨rfl,mA (v:= .agg cells) (w':=w) ?_ (.same hs (.aUL r1 r3 r2))⟩
  simp only[execOp,ho]
  refine qW (run_build w t _ cells ?_)
  simpa using hbu
 unfold a6Q at hb
 split at hb
 ·rename_i it e hi hu
  split at hb
  ·rename_i zv ie hz hie
   simp only[Bool.and_eq_true]at hb
   obtain ⟨cells,row,g1,g2,g3⟩:=fin _ _ hb.1 hb.2
   exact done cells row (by simp[Program.built,hi,hu,hz,hie];simpa using g1) g2 g3
  ·simp at hb
 ·rename_i it fields hi hu
  split at hb
  ·rename_i zv places hz hpl
   simp only[Bool.and_eq_true]at hb
   obtain ⟨cells,row,g1,g2,g3⟩:=fin _ _ hb.1 hb.2
   exact done cells row (by simp only[Program.built,hi,hu,hz,hpl];simpa using g1) g2 g3
  ·simp at hb
 ·simp at hb
def a6R (P:Program) (t:TypeId) (l:L):Bool:=aHg P t l&& !P.eqGuardType P.depth t
theorem bDM {neg:Bool} {op:BinOp} {t u:TypeId} {l:L} {ob:Obj} {av:AV} {no:Option Obj} (ho:o.op= .binOp op t x y u) (hop:op=(if neg then .neq else .eql)) (hB:a6R P t l=true)
 (hx:oA P T x ax=true) (hy:oA P T y ay=true)
 (h:rG E F St ob (.aeq neg l ax ay) base cB=some (av,no)):no=none∧cE P o a w (bB P T S pl St w St av):=by
 simp only[a6R,Bool.and_eq_true,Bool.not_eq_true']at hB
 obtain ⟨hf,hg⟩:=hB
 obtain ⟨ks,hks⟩:∃ks,l= .agg ks:=by
  unfold aHg at hf
  split at hf
  ·exact ⟨_,rfl⟩
  ·exact ⟨_,rfl⟩
  ·simp at hf
 simp only[rG]at h
 obtain ⟨l1,rx,e1,hA⟩:=zM h
 obtain ⟨l2,ry,e2,hC⟩:=zM hA
 obtain ⟨hb,hD⟩:=lA hC
 simp only[Bool.and_eq_true]at hb
 obtain rfl:=L.beq_eq hb.1
 obtain rfl:=L.beq_eq hb.2
 simp only[cB,Option.some.injEq,Prod.mk.injEq]at hD
 obtain ⟨rfl,rfl⟩:=hD
 have hvx:=qA hs hx hF;rw[e1]at hvx
 have hvy:=qA hs hy hF;rw[e2]at hvy
 have hrx:=hvx.aBR
 have hry:=hvy.aBR
 have hrun:(Op.equalIn 10000 t (a.eval x) (a.eval y)).run P w= .ok (ceq l.ks rx ry) w:=aUO hf hrx hry
 subst hks
 obtain ⟨xs,hxs,_⟩:=hrx
 obtain ⟨ys,hys,_⟩:=hry
 rw[hxs,hys]at hrun
 refine ⟨rfl,mA (v:= .bool (aZT neg (ceq (L.agg ks).ks rx ry))) (w':=w) ?_ (.same hs (aWb _))⟩
 unfold execOp
 simp only[ho,hxs,hys]
 refine qW ?_
 rw[Sem.run_bind,run_eqGuard_agg w op t x y xs ys hg]
 simp only[Result.andThen_ok]
 cases neg
 ·simp at hop;subst hop
  rw[run_eql_struct,hrun];rfl
 ·simp at hop;subst hop
  rw[run_neq_struct,hrun];rfl
end
end Go.Ev
namespace Go.Ev
variable {E:Env} {P:Program} {T:Nat→yF} {S S':yA} {pl wD:Pl} {St dD:Ev.St} {F:Fr} {a:Act} {w w':World}
section
variable {o:Oper} {x y c:Operand} {ax ay ac:rD} {base:Nat}
variable (hs:mW P T S pl St w) (hF:wX P T S pl St F a.tmps)
include hs hF
end
end Go.Ev
namespace Go.Ev
variable {E:Env} {P:Program} {T:Nat→yF} {S S':yA} {pl wD:Pl} {St dD:Ev.St} {F:Fr} {a:Act} {w w':World}
def BinOp.tag:BinOp→Nat
 | .add=>0 | .sub=>1 | .mul=>2 | .quo=>3 | .rem=>4 | .and=>5 | .or=>6 | .xor=>7 | .shl=>8 | .shr=>9 | .andNot=>10
 | .eql=>11 | .neq=>12 | .lss=>13 | .leq=>14 | .gtr=>15 | .geq=>16
def opB (a b:BinOp):Bool:=Nat.beq (BinOp.tag a) (BinOp.tag b)
theorem aIQ {a b:BinOp} (h:opB a b=true):a=b:=by
 cases a<;>cases b<;>first |rfl |simp[opB,BinOp.tag]at h
def aPh (P:Program) (t:TypeId) (d:TypeDesc→Bool):Bool:=match P.underlying t with |some x=>d x |none=>false
theorem aLh {t:TypeId} {d:TypeDesc→Bool} (h:aPh P t d=true):∃x,P.underlying t=some x∧d x=true:=by
 unfold aPh at h;split at h
 ·exact ⟨_,by assumption,h⟩
 ·simp at h
def isStr:TypeDesc→Bool | .string=>true |_=>false
def a9M:TypeDesc→Bool | .int .u8=>true |_=>false
def a2u (k:IntKind):TypeDesc→Bool | .int k'=>Nat.beq (IntKind.tag k) (IntKind.tag k')|_=>false
def a9N:TypeDesc→Bool | .slice _=>true |_=>false
theorem isStr_eq {d:TypeDesc} (h:isStr d=true):d= .string:=by cases d<;>first |rfl |simp[isStr]at h
theorem a3D {d:TypeDesc} (h:a9M d=true):d= .int .u8:=by unfold a9M at h;split at h<;>first |rfl |simp at h
theorem a44 {k:IntKind} {d:TypeDesc} (h:a2u k d=true):d= .int k:=by unfold a2u at h;split at h<;>first |rw[aF4 h]|simp at h
theorem a3E {d:TypeDesc} (h:a9N d=true):∃e,d= .slice e:=by unfold a9N at h;split at h<;>first |exact ⟨_,rfl⟩|simp at h
theorem aLi {t:TypeId} {d:TypeDesc→Bool} {x:TypeDesc} (h:aPh P t d=true) (he:∀y,d y=true→y=x):P.underlying t=some x:=by
 obtain ⟨y,h1,h2⟩:=aLh h;rw[h1,he y h2]
theorem aXx {t:TypeId} {d:TypeDesc→Bool} (h:aPh P t d=true):(P.underlying t).isSome=true:=by
 obtain ⟨y,h1,h2⟩:=aLh h;rw[h1];rfl
def a3F (P:Program) (t:TypeId) (f:Value→Bool):Bool:=match P.info? t with |some i=>(match i.zero with |some zv=>f zv |none=>false)|none=>false
theorem aSQ {t:TypeId} {f:Value→Bool} (h:a3F P t f=true):∃i zv,P.info? t=some i∧i.zero=some zv∧f zv=true:=by
 unfold a3F at h;split at h
 ·rename_i i hi;split at h
  ·rename_i zv hz;exact ⟨i,zv,hi,hz,h⟩
  ·simp at h
 ·simp at h
def aIk:Operand→Bool | .const (.slice none 0 0)=>true |_=>false
theorem aDt {x:Operand} (h:aIk x=true):x= .const (.slice none 0 0):=by unfold aIk at h;split at h<;>first |rfl |simp at h
def bAX (op:BinOp) (neg:Bool):Bool:=opB op (if neg then .neq else .eql)
def bGl (P:Program) (t:TypeId) (f off n:Nat) (u:TypeId):Bool:=
 aUH P t f off n u&&(match aIf P t,aIf P u with |some l',some l=>aF5 P t l'&&aF5 P u l&&Nat.beq l.n n&&aEN l.ks ((l'.ks.drop off).take l.n)|_,_=>false)
def isLen:Builtin→Bool | .len=>true |_=>false
def isApp:Builtin→Bool | .append=>true |_=>false
def bDN (mx:Bool):Builtin→Bool | .max=>mx | .min=> !mx |_=>false
theorem a0r {b:Builtin} (h:isLen b=true):b= .len:=by unfold isLen at h;split at h<;>first |rfl |simp at h
theorem aUQ {b:Builtin} (h:isApp b=true):b= .append:=by unfold isApp at h;split at h<;>first |rfl |simp at h
theorem a9O {mx:Bool} {b:Builtin} (h:bDN mx b=true):b=(if mx then .max else .min):=by unfold bDN at h;split at h<;>simp_all
def bAY (f:Nat):Operand→Bool | .func f'=>Nat.beq f' f |_=>false
def aUb (P:Program) (T:Nat→yF) (x:Operand) (f:Nat) (ax:Option rD):Bool:=match ax with |none=>bAY f x |some ay=>oA P T x ay
def fG (P:Program) (T:Nat→yF) (op:Op) (ao:jP):Bool:=
 match ao with
 | .mov ax=>(match op with | .move x=>oA P T x ax | .assign x=>oA P T x ax |_=>false)
 | .a1Y ax=>(match op with | .nilCheck x=>oA P T x ax |_=>false)
 | .a14 _ _ _=>(match op with | .move x=>aIk x | .assign x=>aIk x |_=>false)
 | .a1Z _ _=>(match op with | .move x=>aIk x | .assign x=>aIk x |_=>false)
 | .pick ac ax ay=>(match op with | .pick c x y=>oA P T c ac&&oA P T x ax&&oA P T y ay |_=>false)
 | .a6c bo ax ay=>(match op with | .binOp bo' _ x y _=>opB bo' bo&&oA P T x ax&&oA P T y ay |_=>false)
 | .idiv bo ax ay=>(match op with | .binOp bo' _ x y _=>opB bo' bo&&oA P T x ax&&oA P T y ay |_=>false)
 | .shf bo ax ay=>(match op with | .binOp bo' _ x y _=>opB bo' bo&&oA P T x ax&&oA P T y ay |_=>false)
 | .a6d bo ax ay=>(match op with | .binOp bo' _ x y _=>opB bo' bo&&oA P T x ax&&oA P T y ay |_=>false)
 | .a6e ax ay=>(match op with | .binOp bo' _ x y _=>opB bo' .add&&oA P T x ax&&oA P T y ay |_=>false)
 | .a6f bo ax ay=>(match op with | .binOp bo' _ x y _=>opB bo' bo&&oA P T x ax&&oA P T y ay |_=>false)
 | .aUs neg ax=>(match op with | .binOp bo' t x y _=>bAX bo' neg&&aPh P t a9N&&((aIk y&&oA P T x ax)||(aIk x&&oA P T y ax))|_=>false)
 | .not ax=>(match op with | .unOp .not _ x=>oA P T x ax |_=>false)
 | .a6g ax=>(match op with | .unOp .xor _ x=>oA P T x ax |_=>false)
 | .i2i k ax=>(match op with | .convert s t x=>aPh P s (fun _=>true)&&aPh P t (a2u k)&&oA P T x ax |_=>false)
 | .s2b e ax=>(match op with | .convert s t x=>aPh P s (fun _=>true)&&aJ7 P t e (.one (.int .u8))&&aPh P e a9M&&oA P T x ax |_=>false)
 | .b2s e ax=>(match op with | .convert s t x=>aJ7 P s e (.one (.int .u8))&&aPh P e a9M&&aPh P t isStr&&oA P T x ax |_=>false)
 | .a6h l t ax=>(match op with | .box t' x=>Nat.beq t' t&&aF5 P t l&&oA P T x ax |_=>false)
 | .a4L _ _ ax=>(match op with | .box _ x=>oA P T x ax |_=>false)
 | .aRr _ l z=>(match op with | .alloc t=>a3F P t (fun zv=>aAt l zv z)|_=>false)
 | .a18 _ ax=>(match op with | .box _ x=>oA P T x ax |_=>false)
 | .aO5 _ zs=>(match op with | .alloc t=>a3F P t (fun zv=>aRw zs zv.cells.toList)|_=>false)
 | .ldA n ax=>(match op with | .load t x=>a6E P t n&&oA P T x ax |_=>false)
 | .stA n ax ay=>(match op with | .store t x y=>aOL P t n&&oA P T x ax&&oA P T y ay |_=>false)
 | .ld l t ax=>(match op with | .load t' x=>Nat.beq t' t&&aF5 P t l&&Nat.blt 0 l.n&&oA P T x ax |_=>false)
 | .ldC ax=>(match op with | .load t x=>a0b P t&&oA P T x ax |_=>false)
 | .st l ax ay=>(match op with | .store t x y=>aOL P t l.n&&Nat.blt 0 l.n&&oA P T x ax&&oA P T y ay |_=>false)
 | .stC ax ay=>(match op with | .store t x y=>aOL P t 1&&oA P T x ax&&oA P T y ay |_=>false)
 | .fad off n t u ax=>(match op with | .fieldAddr t' x f=>Nat.beq t' t&&bGl P t f off n u&&oA P T x ax |_=>false)
 | .bld l z mC=>(match op with | .build t parts=>(match l with | .agg _=>true | .one _=>false)&&bDw P T t l z parts.toList mC |_=>false)
 | .bslO _ e l n z mC=>(match op with | .buildSlice t n' parts=>Nat.beq n' n&&aYJ P T t e l n z parts.toList mC |_=>false)
 | .bslS _ e l n z mC=>(match op with | .buildSlice t n' parts=>Nat.beq n' n&&aYJ P T t e l n z parts.toList mC |_=>false)
 | .bsl e l n z mC=>(match op with | .buildSlice t n' parts=>Nat.beq n' n&&aYJ P T t e l n z parts.toList mC |_=>false)
 | .iad e l ax ai=>(match op with | .indexAddr t x i=>aJ7 P t e l&&Nat.blt 0 l.n&&oA P T x ax&&oA P T i ai |_=>false)
 | .a4M ax ai=>(match op with | .index t x i=>aPh P t isStr&&oA P T x ax&&oA P T i ai |_=>false)
 | .a6i ax=>(match op with | .call ⟨.builtin b,⟨[x]⟩,⟨[t]⟩⟩=>isLen b&&aPh P t isStr&&oA P T x ax |_=>false)
 | .a17 ax=>(match op with | .call ⟨.builtin b,⟨[x]⟩,⟨[t]⟩⟩=>isLen b&&aPh P t a9N&&oA P T x ax |_=>false)
 | .imin mx axs=>(match op with | .call ⟨.builtin b,xs,_⟩=>bDN mx b&&mG P T xs.toList axs |_=>false)
 | .app _ e l bytes ax ay=>(match op with | .call ⟨.builtin b,⟨[x,y]⟩,⟨[t,t']⟩⟩=>isApp b&&Nat.beq t t'&&aWg P t e l bytes&&oA P T x ax&&oA P T y ay |_=>false)
 | .aUt _ e l bytes ax ay=>(match op with | .call ⟨.builtin b,⟨[x,y]⟩,⟨[t,t']⟩⟩=>isApp b&&Nat.beq t t'&&aWg P t e l bytes&&oA P T x ax&&oA P T y ay |_=>false)
 | .aUu _ e ax ay=>(match op with | .call ⟨.builtin b,⟨[x,y]⟩,⟨[t,u]⟩⟩=>isApp b&&a6G P t u e&&oA P T x ax&&oA P T y ay |_=>false)
 | .mk _ e l z bytes an ac=>(match op with | .makeSlice t n c=>mkB P T t e l z bytes&&oA P T n an&&oA P T c ac |_=>false)
 | .slc e l ax lo hi=>(match op with | .slice t x lo' hi' none=>aJ7 P t e l&&oA P T x ax&&aNn P T lo' lo&&aNn P T hi' hi |_=>false)
 | .slcS ax lo hi=>(match op with | .slice t x lo' hi' none=>aPh P t isStr&&oA P T x ax&&aNn P T lo' lo&&aNn P T hi' hi |_=>false)
 | .call f ps rs axs=>(match op with | .call ⟨.value (.func f'),xs,_⟩=>Nat.beq f' f&&a3z P T f ps rs&&mG P T xs.toList axs |_=>false)
 | .callv t ps rs ax axs=>(match op with | .call ⟨.value x,xs,_⟩=>a2p P t ps rs&&oA P T x ax&&mG P T xs.toList axs |_=>false)
 | .mkf f t ks acs=>(match op with | .makeFunc (.func f') ⟨[]⟩ cs=>Nat.beq f' f&&a6o P T t f ks&&mG P T cs.toList acs |_=>false)
 | .ext i ax=>(match op with | .extract x i'=>Nat.beq i' i&&oA P T x ax |_=>false)
 | .a4O f ax ay=>(match op with | .call ⟨.value (.func f'),⟨[x,y]⟩,_⟩=>Nat.beq f' f&&(match T f with | .ixb=>true |_=>false)&&oA P T x ax&&oA P T y ay |_=>false)
 | .a4P f ax ay=>(match op with | .call ⟨.value (.func f'),⟨[x,y]⟩,_⟩=>Nat.beq f' f&&(match T f with | .cmp=>true |_=>false)&&oA P T x ax&&oA P T y ay |_=>false)
 | .a4N m l ax ai=>(match op with | .index t x i=>(match P.underlying t with |some (.array _ e)=>a45 P t e m l |_=>false)&&oA P T x ax&&oA P T i ai |_=>false)
 | .a15 m t e l ax ai=>(match op with | .indexAddr t' x i=>Nat.beq t' t&&a45 P t e m l&&oA P T x ax&&oA P T i ai |_=>false)
 | .aeq neg l ax ay=>(match op with | .binOp bo' t x y _=>bAX bo' neg&&(bDO P t l ||a6R P t l)&&oA P T x ax&&oA P T y ay |_=>false)
 | .mkm _ kl vl=>(match op with | .makeMap t none=>a9J P t kl vl |_=>false)
 | .lk kl vl z ax ay ok=>(match op with | .lookup t x y ok'=>(ok'==ok)&&a9J P t kl vl&&(match P.underlying t with |some (.map _ et)=>aYP P et (fun zv=>aAt vl zv z)|_=>false)&&oA P T x ax&&oA P T y ay |_=>false)
 | .mup kl ax ay ac=>(match op with
   | .mapUpdate t x y c=>a3C P t kl&&oA P T x ax&&oA P T y ay&&oA P T c ac
   | .insert t x y c=>a3C P t kl&&oA P T x ax&&oA P T y ay&&oA P T c ac
   |_=>false)
 | .bldA zs mC=>(match op with | .build t parts=>a6Q P T t zs parts.toList mC |_=>false)
 | .a19 m n ax ai=>(match op with | .indexAddr t x i=>a6P P t m n&&oA P T x ax&&oA P T i ai |_=>false)
 | .bad=>true
 | .aBZ i f en ex _ _ ax axs=>(match op with
   | .call ⟨.value x,xs,_⟩=>(match T i with | .imp af=>Nat.beq af.fn f&&Shape.beq af.entry en&&Shape.beq af.exit ex |_=>false)&&mG P T xs.toList axs&&
     aUb P T x f ax
   |_=>false)
 |_=>false
def a9P (St:Ev.St) (t:Option Nat) (no:Option Obj):Ev.St:=match no with
 |none=>St
 |some o'=>(match t with |some j=>St.set j o' |none=>St)
section
variable {o:Oper} {x y c:Operand} {ax ay ac:rD} {base:Nat}
variable (hs:mW P T S pl St w) (hF:wX P T S pl St F a.tmps)
include hs hF
theorem bDP {ob:Obj} {av:AV} {no:Option Obj} (ho:o.op= .nilCheck x) (hx:oA P T x ax=true) (oB:∀id,tJ (ax.ev F)=some id→St[id]? =some ob)
 (h:rG E F St ob (.a1Y ax) base cB=some (av,no)):no=none∧cE P o a w (bB P T S pl St w St av):=by
 have hv:=sC hs hx hF
 simp only[rG]at h
 split at h
 ·rename_i t r ex
  obtain ⟨hn,hA⟩:=jD h
  simp only[cB,Option.some.injEq,Prod.mk.injEq]at hA
  obtain ⟨rfl,rfl⟩:=hA
  rw[ex]at hv
  refine ⟨rfl,mA (v:=a.eval x) (w':=w) ?_ (.same hs hv)⟩
  obtain ⟨cc,rfl,aF7⟩:=hv.aBR
  have hat:at_ [cc] 0=cc:=rfl
  rw[hat]at hn
  generalize hvv:a.eval x=v at aF7
  cases aF7 with
  |aM5=>simp[C.a6b]at hn
  |fn vs h1 h2 h3=>simp[execOp,ho,hvv]
 ·rename_i t r ex
  obtain ⟨hdp,h⟩:=jD h
  simp only[cB,Option.some.injEq,Prod.mk.injEq]at h
  obtain ⟨rfl,rfl⟩:=h
  rw[ex]at hv
  refine ⟨rfl,mA (v:=a.eval x) (w':=w) ?_ (.same hs hv)⟩
  obtain ⟨cc,rfl,aF7⟩:=hv.aBR
  have hat:at_ [cc] 0=cc:=rfl
  rw[hat]at hdp
  generalize hvv:a.eval x=v at aF7
  cases aF7 with
  |ref f h1 h2 h3 h4 h5=>simp[execOp,ho,hvv]
  |aTm=>simp[C.xA]at hdp
 ·rename_i f caps ex
  simp only[cB,Option.some.injEq,Prod.mk.injEq]at h
  obtain ⟨rfl,rfl⟩:=h
  rw[ex]at hv
  refine ⟨rfl,mA (v:=a.eval x) (w':=w) ?_ (.same hs hv)⟩
  generalize hvv:a.eval x=v at hv
  cases hv with
  |fn vs h=>simp[execOp,ho,hvv]
 ·rename_i id off ex
  have oB:=oB id (by rw[ex];rfl)
  rw[ex]at hv
  obtain ⟨hk2,hA⟩:=aLb h
  simp only[cB,Option.some.injEq,Prod.mk.injEq]at hA
  obtain ⟨rfl,rfl⟩:=hA
  have e1:=hv.aUI oB hk2
  exact ⟨rfl,mA (v:=a.eval x) (w':=w) (by simp[execOp,ho,e1]) (.same hs hv)⟩
 ·rename_i id v i off ex
  have oB:=oB id (by rw[ex];rfl)
  rw[ex]at hv
  obtain ⟨l0,c,rfl,hA⟩:=eE h
  simp only[cB,Option.some.injEq,Prod.mk.injEq]at hA
  obtain ⟨rfl,rfl⟩:=hA
  have e1:=hv.aP8 oB
  exact ⟨rfl,mA (v:=a.eval x) (w':=w) (by simp[execOp,ho,e1]) (.same hs hv)⟩
 ·simp at h
theorem nC {ob:Obj} {ao:jP} {av:AV} {no:Option Obj} (h:no=none∧cE P o a w (bB P T S pl St w St av)):cE P o a w (bB P T S pl St w (a9P St (tgt F ao base) no) av):=by
 obtain ⟨rfl,h⟩:=h;exact h
theorem aFo {ob:Obj} {ao:jP} {i:Nat} {av:AV} {no:Option Obj} (ht:tgt F ao base=some i) (h:∃o',no=some o'∧cE P o a w (bB P T S pl St w (St.set i o') av)):cE P o a w (bB P T S pl St w (a9P St (tgt F ao base) no) av):=by
 obtain ⟨o',rfl,h⟩:=h;rw[ht];exact h
theorem aQk {ob:Obj} {ao:jP} {v:AV} {av:AV} {no:Option Obj} (ht:tgt F ao base=tJ v) (h:∃id o',tJ v=some id∧no=some o'∧cE P o a w (bB P T S pl St w (St.set id o') av)):cE P o a w (bB P T S pl St w (a9P St (tgt F ao base) no) av):=by
 obtain ⟨id,o',h1,rfl,h⟩:=h;rw[ht,h1];exact h
theorem a0s {ao:jP} {ob:Obj} {av:AV} {no:Option Obj} (hpc:a6B P T E.pc) (hok:fG P T o.op ao=true) (oB:∀j,tgt F ao base=some j→St[j]? =some ob)
 (h:rG E F St ob ao base cB=some (av,no)):cE P o a w (bB P T S pl St w (a9P St (tgt F ao base) no) av):=by
 cases ao with
 |mov ax=>
  simp only[fG]at hok
  simp only[rG,cB,Option.some.injEq,Prod.mk.injEq]at h
  obtain ⟨rfl,rfl⟩:=h
  split at hok
  ·exact bAL hs hF (.inl ‹_›) hok
  ·exact bAL hs hF (.inr ‹_›) hok
  ·simp at hok
 |a1Y ax=>
  simp only[fG]at hok
  split at hok
  ·exact nC (ob:=ob) hs hF (bDP hs hF ‹_› hok oB h)
  ·simp at hok
 |a14 id e l=>
  simp only[fG]at hok
  split at hok
  ·exact aFo (ob:=ob) hs hF rfl (a6F hs hF (.inr (by rw[‹o.op=_›,aDt hok])) (oB _ rfl) h)
  ·exact aFo (ob:=ob) hs hF rfl (a6F hs hF (.inl (by rw[‹o.op=_›,aDt hok])) (oB _ rfl) h)
  ·simp at hok
 |a1Z id l=>
  simp only[fG]at hok
  split at hok
  ·exact aFo (ob:=ob) hs hF rfl (a6z hs hF (.inr (by rw[‹o.op=_›,aDt hok])) (oB _ rfl) h)
  ·exact aFo (ob:=ob) hs hF rfl (a6z hs hF (.inl (by rw[‹o.op=_›,aDt hok])) (oB _ rfl) h)
  ·simp at hok
 |pick ac ax ay=>
  simp only[fG]at hok
  split at hok
  ·simp only[Bool.and_eq_true]at hok
   exact nC (ob:=ob) hs hF (bDb hs hF ‹_› hok.1.1 hok.1.2 hok.2 h)
  ·simp at hok
 |a6c bo ax ay=>
  simp only[fG]at hok
  split at hok
  ·simp only[Bool.and_eq_true]at hok
   obtain rfl:=aIQ hok.1.1
   exact nC (ob:=ob) hs hF (a9y hs hF ‹_› hok.1.2 hok.2 h)
  ·simp at hok
 |idiv bo ax ay=>
  simp only[fG]at hok
  split at hok
  ·simp only[Bool.and_eq_true]at hok
   obtain rfl:=aIQ hok.1.1
   exact nC (ob:=ob) hs hF (bDd hs hF ‹_› hok.1.2 hok.2 h)
  ·simp at hok
 |shf bo ax ay=>
  simp only[fG]at hok
  split at hok
  ·simp only[Bool.and_eq_true]at hok
   obtain rfl:=aIQ hok.1.1
   exact nC (ob:=ob) hs hF (bFL hs hF ‹_› hok.1.2 hok.2 h)
  ·simp at hok
 |a6d bo ax ay=>
  simp only[fG]at hok
  split at hok
  ·simp only[Bool.and_eq_true]at hok
   obtain rfl:=aIQ hok.1.1
   exact nC (ob:=ob) hs hF (bDc hs hF ‹_› hok.1.2 hok.2 h)
  ·simp at hok
 |a6e ax ay=>
  simp only[fG]at hok
  split at hok
  ·simp only[Bool.and_eq_true]at hok
   obtain rfl:=aIQ hok.1.1
   exact nC (ob:=ob) hs hF (bDe hs hF ‹_› hok.1.2 hok.2 h)
  ·simp at hok
 |a6f bo ax ay=>
  simp only[fG]at hok
  split at hok
  ·simp only[Bool.and_eq_true]at hok
   obtain rfl:=aIQ hok.1.1
   exact nC (ob:=ob) hs hF (bDf hs hF ‹_› hok.1.2 hok.2 h)
  ·simp at hok
 |aUs neg ax=>
  simp only[fG]at hok
  split at hok
  ·simp only[Bool.and_eq_true,Bool.or_eq_true]at hok
   obtain ⟨⟨h1,h2⟩,h3⟩:=hok
   obtain ⟨d,hd,hsl⟩:=aLh h2
   obtain ⟨e,rfl⟩:=a3E hsl
   rcases h3 with ⟨h3,h4⟩|⟨h3,h4⟩
   ·exact nC (ob:=ob) hs hF (a3w hs hF (aIQ h1) hd (.inl (by rw[‹o.op=_›,aDt h3])) h4 oB h)
   ·exact nC (ob:=ob) hs hF (a3w hs hF (aIQ h1) hd (.inr (by rw[‹o.op=_›,aDt h3])) h4 oB h)
  ·simp at hok
 |not ax=>
  simp only[fG]at hok
  split at hok
  ·exact nC (ob:=ob) hs hF (bFM hs hF ‹_› hok h)
  ·simp at hok
 |a6g ax=>
  simp only[fG]at hok
  split at hok
  ·exact nC (ob:=ob) hs hF (bDg hs hF ‹_› hok h)
  ·simp at hok
 |i2i k ax=>
  simp only[fG]at hok
  split at hok
  ·simp only[Bool.and_eq_true]at hok
   exact nC (ob:=ob) hs hF (bFN hs hF ‹_› (aLi hok.1.2 fun _=>a44) (aXx hok.1.1) hok.2 h)
  ·simp at hok
 |s2b e ax=>
  simp only[fG]at hok
  split at hok
  ·simp only[Bool.and_eq_true]at hok
   exact nC (ob:=ob) hs hF (bF5 hs hF ‹_› (aXx hok.1.1.1) hok.1.1.2 (aLi hok.1.2 fun _=>a3D) hok.2 h)
  ·simp at hok
 |b2s e ax=>
  simp only[fG]at hok
  split at hok
  ·simp only[Bool.and_eq_true]at hok
   exact nC (ob:=ob) hs hF (bF6 hs hF ‹_› hok.1.1.1 (aLi hok.1.1.2 fun _=>a3D) (aLi hok.1.2 fun _=>isStr_eq) hok.2 oB h)
  ·simp at hok
 |a6h l t ax=>
  simp only[fG]at hok
  split at hok
  ·simp only[Bool.and_eq_true]at hok
   obtain rfl:=Nat.eq_of_beq_eq_true hok.1.1
   exact nC (ob:=ob) hs hF (bDi hs hF ‹_› hok.1.2 hok.2 h)
  ·simp at hok
 |a4L id l ax=>
  simp only[fG]at hok
  split at hok
  ·exact aFo (ob:=ob) hs hF rfl (bDj hs hF ‹_› hok (oB _ rfl) h)
  ·simp at hok
 |aRr id l z=>
  simp only[fG]at hok
  split at hok
  ·obtain ⟨i,zv,h1,h2,h3⟩:=aSQ hok
   exact aFo (ob:=ob) hs hF rfl (a6q hs hF ‹_› h1 h2 h3 (oB _ rfl) h)
  ·simp at hok
 |a18 id ax=>
  simp only[fG]at hok
  split at hok
  ·exact aFo (ob:=ob) hs hF rfl (bDk hs hF ‹_› hok (oB _ rfl) h)
  ·simp at hok
 |aO5 id zs=>
  simp only[fG]at hok
  split at hok
  ·obtain ⟨i,zv,h1,h2,h3⟩:=aSQ hok
   exact aFo (ob:=ob) hs hF rfl (a6r hs hF ‹_› h1 h2 h3 (oB _ rfl) h)
  ·simp at hok
 |ldA n ax=>
  simp only[fG]at hok
  split at hok
  ·simp only[Bool.and_eq_true]at hok
   exact nC (ob:=ob) hs hF (bGc hs hF ‹_› hok.1 hok.2 oB h)
  ·simp at hok
 |stA n ax ay=>
  simp only[fG]at hok
  split at hok
  ·simp only[Bool.and_eq_true]at hok
   exact aQk (ob:=ob) hs hF rfl (bGd hs hF ‹_› hok.1.1 hok.1.2 hok.2 oB h)
  ·simp at hok
 |ld l t ax=>
  simp only[fG]at hok
  split at hok
  ·simp only[Bool.and_eq_true]at hok
   obtain rfl:=Nat.eq_of_beq_eq_true hok.1.1.1
   exact nC (ob:=ob) hs hF (bIL hs hF ‹_› hok.1.1.2 hok.1.2 hok.2 oB h)
  ·simp at hok
 |ldC ax=>
  simp only[fG]at hok
  split at hok
  ·simp only[Bool.and_eq_true]at hok
   exact nC (ob:=ob) hs hF (bFQ hs hF ‹_› hok.1 hok.2 oB h)
  ·simp at hok
 |st l ax ay=>
  simp only[fG]at hok
  split at hok
  ·simp only[Bool.and_eq_true]at hok
   exact aQk (ob:=ob) hs hF rfl (bIP hs hF ‹_› hok.1.1.1 hok.1.1.2 hok.1.2 hok.2 oB h)
  ·simp at hok
 |stC ax ay=>
  simp only[fG]at hok
  split at hok
  ·simp only[Bool.and_eq_true]at hok
   exact aQk (ob:=ob) hs hF rfl (bFR hs hF ‹_› hok.1.1 hok.1.2 hok.2 oB h)
  ·simp at hok
 |fad off n t u ax=>
  simp only[fG]at hok
  split at hok
  ·simp only[Bool.and_eq_true,bGl]at hok
   obtain ⟨⟨h1,h2,h3⟩,h4⟩:=hok
   obtain rfl:=Nat.eq_of_beq_eq_true h1
   split at h3
   ·simp only[Bool.and_eq_true]at h3
    exact nC (ob:=ob) hs hF (bFS hs hF ‹_› h2 h3.1.1.1 h3.1.1.2 h3.1.2 h3.2 h4 oB h)
   ·simp at h3
  ·simp at hok
 |bld l z mC=>
  simp only[fG]at hok
  split at hok
  ·simp only[Bool.and_eq_true]at hok
   exact nC (ob:=ob) hs hF (bFV hs hF ‹_› hok.1 hok.2 h)
  ·simp at hok
 |bslO id e l n z mC=>
  simp only[fG]at hok
  split at hok
  ·simp only[Bool.and_eq_true]at hok
   obtain rfl:=Nat.eq_of_beq_eq_true hok.1
   exact aFo (ob:=ob) hs hF rfl (bDF hs hF ‹_› hok.2 (oB _ rfl) h)
  ·simp at hok
 |bslS id e l n z mC=>
  simp only[fG]at hok
  split at hok
  ·simp only[Bool.and_eq_true]at hok
   obtain rfl:=Nat.eq_of_beq_eq_true hok.1
   exact aFo (ob:=ob) hs hF rfl (bDE hs hF ‹_› hok.2 (oB _ rfl) h)
  ·simp at hok
 |bsl e l n z mC=>
  simp only[fG]at hok
  split at hok
  ·simp only[Bool.and_eq_true]at hok
   obtain rfl:=Nat.eq_of_beq_eq_true hok.1
   exact nC (ob:=ob) hs hF (bFW hs hF ‹_› hok.2 h)
  ·simp at hok
 |iad e l ax ai=>
  simp only[fG]at hok
  split at hok
  ·simp only[Bool.and_eq_true]at hok
   exact nC (ob:=ob) hs hF (bFT hs hF ‹_› hok.1.1.1 hok.1.1.2 hok.1.2 hok.2 oB h)
  ·simp at hok
 |a4M ax ai=>
  simp only[fG]at hok
  split at hok
  ·simp only[Bool.and_eq_true]at hok
   exact nC (ob:=ob) hs hF (bDu hs hF ‹_› (aLi hok.1.1 fun _=>isStr_eq) hok.1.2 hok.2 h)
  ·simp at hok
 |a6i ax=>
  simp only[fG]at hok
  split at hok
  ·simp only[Bool.and_eq_true]at hok
   obtain rfl:=a0r hok.1.1
   exact nC (ob:=ob) hs hF (bDh (ty:=0) hs hF ‹_› (aLi hok.1.2 fun _=>isStr_eq) hok.2 h)
  ·simp at hok
 |a17 ax=>
  simp only[fG]at hok
  split at hok
  ·simp only[Bool.and_eq_true]at hok
   obtain rfl:=a0r hok.1.1
   obtain ⟨d,hd,hsl⟩:=aLh hok.1.2
   obtain ⟨e,rfl⟩:=a3E hsl
   exact nC (ob:=ob) hs hF (bDt hs hF ‹_› hd hok.2 oB h)
  ·simp at hok
 |imin mx axs=>
  simp only[fG]at hok
  split at hok
  ·simp only[Bool.and_eq_true]at hok
   obtain rfl:=a9O hok.1
   exact nC (ob:=ob) hs hF (bDy hs hF ‹_› hok.2 h)
  ·simp at hok
 |app id e l bytes ax ay=>
  simp only[fG]at hok
  split at hok
  ·simp only[Bool.and_eq_true]at hok
   obtain rfl:=aUQ hok.1.1.1.1
   obtain rfl:=Nat.eq_of_beq_eq_true hok.1.1.1.2
   obtain ⟨j,o',h1,rfl,h2⟩:=bF3 hs hF ‹_› hok.1.1.2 hok.1.2 hok.2 oB h
   rw[h1];exact h2
  ·simp at hok
 |aUt id e l bytes ax ay=>
  simp only[fG]at hok
  split at hok
  ·simp only[Bool.and_eq_true]at hok
   obtain rfl:=aUQ hok.1.1.1.1
   obtain rfl:=Nat.eq_of_beq_eq_true hok.1.1.1.2
   obtain ⟨j,o',h1,rfl,h2⟩:=bDG hs hF ‹_› hok.1.1.2 hok.1.2 hok.2 oB h
   rw[h1];exact h2
  ·simp at hok
 |aUu id e ax ay=>
  simp only[fG]at hok
  split at hok
  ·simp only[Bool.and_eq_true]at hok
   obtain rfl:=aUQ hok.1.1.1
   obtain ⟨j,o',h1,rfl,h2⟩:=bDH hs hF ‹_› hok.1.1.2 hok.1.2 hok.2 oB h
   rw[h1];exact h2
  ·simp at hok
 |mk id e l z bytes an ac=>
  simp only[fG]at hok
  split at hok
  ·simp only[Bool.and_eq_true]at hok
   exact aFo (ob:=ob) hs hF rfl (bIW hs hF ‹_› hok.1.1 hok.1.2 hok.2 (oB _ rfl) h)
  ·simp at hok
 |slc e l ax lo hi=>
  simp only[fG]at hok
  split at hok
  ·simp only[Bool.and_eq_true]at hok
   exact nC (ob:=ob) hs hF (bF1 hs hF ‹_› hok.1.1.1 hok.1.1.2 hok.1.2 hok.2 oB h)
  ·simp at hok
 |slcS ax lo hi=>
  simp only[fG]at hok
  split at hok
  ·simp only[Bool.and_eq_true]at hok
   exact nC (ob:=ob) hs hF (bDz hs hF ‹_› (aLi hok.1.1.1 fun _=>isStr_eq) hok.1.1.2 hok.1.2 hok.2 h)
  ·simp at hok
 |call f ps rs axs=>
  simp only[fG]at hok
  split at hok
  ·simp only[Bool.and_eq_true]at hok
   obtain rfl:=Nat.eq_of_beq_eq_true hok.1.1
   exact nC (ob:=ob) hs hF (bDC hs hF hpc ‹_› hok.2 hok.1.2 h)
  ·simp at hok
 |callv t ps rs ax axs=>
  simp only[fG]at hok
  split at hok
  ·simp only[Bool.and_eq_true]at hok
   exact nC (ob:=ob) hs hF (a9G hs hF hpc ‹_› hok.1.2 hok.2 hok.1.1 h)
  ·simp at hok
 |mkf f t ks acs=>
  simp only[fG]at hok
  split at hok
  ·simp only[Bool.and_eq_true]at hok
   obtain rfl:=Nat.eq_of_beq_eq_true hok.1.1
   exact nC (ob:=ob) hs hF (bFY hs hF ‹_› hok.2 hok.1.2 h)
  ·simp at hok
 |ext i ax=>
  simp only[fG]at hok
  split at hok
  ·simp only[Bool.and_eq_true]at hok
   obtain rfl:=Nat.eq_of_beq_eq_true hok.1
   exact nC (ob:=ob) hs hF (bFX hs hF ‹_› hok.2 h)
  ·simp at hok
 |a4O f ax ay=>
  simp only[fG]at hok
  split at hok
  ·simp only[Bool.and_eq_true]at hok
   obtain ⟨⟨⟨h1,h2⟩,h3⟩,h4⟩:=hok
   obtain rfl:=Nat.eq_of_beq_eq_true h1
   split at h2
   ·exact nC (ob:=ob) hs hF (bDQ hs hF (hpc.1.2 _ ‹_›) ‹o.op=_› h3 h4 h)
   ·simp at h2
  ·simp at hok
 |a4P f ax ay=>
  simp only[fG]at hok
  split at hok
  ·simp only[Bool.and_eq_true]at hok
   obtain ⟨⟨⟨h1,h2⟩,h3⟩,h4⟩:=hok
   obtain rfl:=Nat.eq_of_beq_eq_true h1
   split at h2
   ·exact nC (ob:=ob) hs hF (bDR hs hF (hpc.1.1 _ ‹_›) ‹o.op=_› h3 h4 h)
   ·simp at h2
  ·simp at hok
 |a4N m l ax ai=>
  simp only[fG]at hok
  split at hok
  ·simp only[Bool.and_eq_true]at hok
   obtain ⟨⟨h1,h2⟩,h3⟩:=hok
   split at h1
   ·exact nC (ob:=ob) hs hF (bDS hs hF ‹_› h1 h2 h3 h)
   ·simp at h1
  ·simp at hok
 |a15 m t e l ax ai=>
  simp only[fG]at hok
  split at hok
  ·simp only[Bool.and_eq_true]at hok
   obtain ⟨⟨⟨h1,h2⟩,h3⟩,h4⟩:=hok
   obtain rfl:=Nat.eq_of_beq_eq_true h1
   exact nC (ob:=ob) hs hF (bDT hs hF ‹_› h2 h3 h4 oB h)
  ·simp at hok
 |aeq neg l ax ay=>
  simp only[fG]at hok
  split at hok
  ·simp only[Bool.and_eq_true]at hok
   rcases Bool.or_eq_true _ _▸hok.1.1.2 with hq |hq
   ·exact nC (ob:=ob) hs hF (bGm hs hF ‹_› (aIQ hok.1.1.1) hq hok.1.2 hok.2 h)
   ·exact nC (ob:=ob) hs hF (bDM hs hF ‹_› (aIQ hok.1.1.1) hq hok.1.2 hok.2 h)
  ·simp at hok
 |mkm id kl vl=>
  simp only[fG]at hok
  split at hok
  ·exact aFo (ob:=ob) hs hF rfl (bGh hs hF ‹_› (oB _ rfl) h)
  ·simp at hok
 |lk kl vl z ax ay ok=>
  simp only[fG]at hok
  split at hok
  ·simp only[Bool.and_eq_true,beq_iff_eq]at hok
   obtain ⟨⟨⟨⟨rfl,h2⟩,h3⟩,h4⟩,h5⟩:=hok
   exact nC (ob:=ob) hs hF (bI3 hs hF ‹_› h2 h3 h4 h5 oB h)
  ·simp at hok
 |mup kl ax ay ac=>
  simp only[fG]at hok
  split at hok
  ·simp only[Bool.and_eq_true]at hok
   exact aQk (ob:=ob) hs hF rfl (bAW hs hF (.inl ‹_›) hok.1.1.1 hok.1.1.2 hok.1.2 hok.2 oB h)
  ·simp only[Bool.and_eq_true]at hok
   exact aQk (ob:=ob) hs hF rfl (bAW hs hF (.inr ‹_›) hok.1.1.1 hok.1.1.2 hok.1.2 hok.2 oB h)
  ·simp at hok
 |a19 m n ax ai=>
  simp only[fG]at hok
  split at hok
  ·simp only[Bool.and_eq_true]at hok
   exact nC (ob:=ob) hs hF (bDK hs hF ‹_› hok.1.1 hok.1.2 hok.2 oB h)
  ·simp at hok
 |bldA zs mC=>
  simp only[fG]at hok
  split at hok
  ·exact nC (ob:=ob) hs hF (bDL hs hF ‹_› hok h)
  ·simp at hok
 |bad=>simp[rG]at h
 |aBZ=>simp[rG]at h
 |_=>simp[fG]at hok
end
end Go.Ev
