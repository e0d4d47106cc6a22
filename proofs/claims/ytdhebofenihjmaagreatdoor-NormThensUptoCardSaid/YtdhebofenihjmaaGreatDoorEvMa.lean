/-
  Stable arrays: what is appended to them, and that their cells are never written again.
-/
import Derived.Test.YtdhebofenihjmaaGreatDoorEvK
import Derived.Deep.AppendSrc
import Derived.Test.YtdhebofenihjmaaGreatDoorEvOa
set_option linter.all false
set_option maxRecDepth 100000
namespace Go.Ev
variable {E:Env} {P:Program} {T:Nat→yF} {S S':yA} {pl wD:Pl} {St dD:Ev.St} {F:Fr} {a:Act} {w w':World}
theorem iB.a2q {id bO:Nat} {e:TypeId} {l:L} (h:St[id]? =some (.zA bO e l .bA)):iB P T S pl St (.sw id bO) (.slice none 0 0):=
 .sw rfl h (by simp) (fun v e l c q=>by simp at q;omega) (fun e l q=>rfl) (fun e l rows q=>by simp at q)
theorem iB.bGa {id bO:Nat} {e:TypeId} {l:L} {rows:List Row} (h:St[id]? =some (.zA bO e l (.sl rows))):iB P T S pl St (.sw id bO) (.slice (some ⟨pl.blk id,0,none⟩) rows.length (pl.cap id)):=
 .sw rfl h (by simp) (fun v e l c q=>by simp at q;omega) (fun e l q=>by simp at q) (fun e l rows q=>by simp at q;rw[q.2.2])
theorem iB.bGb {id bO:Nat} {e:TypeId} {l:L} {c:C} {v:Value} (h:iB P T S pl St (.sw id bO) v) (ho:St[id]? =some (.zA bO e l c)):
 (c= .bA→v= .slice none 0 0)∧∀rows,c= .sl rows→v= .slice (some ⟨pl.blk id,0,none⟩) rows.length (pl.cap id):=by
 cases h with
 |sw h0 h1 h2 hv h3 h4=>
  rw[ho]at h1;obtain rfl:=Option.some.inj h1
  exact ⟨fun e=>by subst e;exact h3 _ _ rfl,fun rows e=>by subst e;exact h4 _ _ _ rfl⟩
theorem aJ9 {i u b cap:Nat} {e:TypeId} {l:L} {o:Obj} {c':C} {v':Value} (hs:mW P T S pl St w) (oB:St[i]? =some o) (kT:o= .fresh∨∃v0 c0,o= .zA v0 e l c0∧v0<u)
 (hw:w'.os=w.os∧w'.tape=w.tape∧w'.output=w.output) (hsz:w.heap.size≤w'.heap.size)
 (aPf:(o.has=true∧b=pl.blk i∧(∀k,k<w.heap.size→k≠b→w'.heap[k]? =w.heap[k]?)∧(∀p,p<o.sn→w'.cell? ⟨b,p,none⟩=w.cell? ⟨b,p,none⟩)∧o.sn≤(Obj.zA u e l c').sn)∨
   (w.heap.size≤b∧∀k,k<w.heap.size→w'.heap[k]? =w.heap[k]?))
 (aOu:c'= .bA∨∃rows cur e' inf,c'= .sl rows∧w'.heap[b]? =some (.cells cur e' (0,0))∧Lay P e l∧P.info? e=some inf∧0<l.n∧rows.length≤cap∧cap≤maxLen∧cur.size=cap*l.n∧rC P T S l cur.toList rows)
 (hv:(c'= .bA∧v'= .slice none 0 0)∨∃rows,c'= .sl rows∧v'= .slice (some ⟨b,0,none⟩) rows.length cap):
 bB P T S pl St w (St.set i (.zA u e l c')) (.sw i u) v' w':=by
 have hlt:i<St.length:=(List.getElem?_eq_some_iff.1 oB).1
 have hk:kD pl St (pl.at i b cap) (St.set i (.zA u e l c')):=by
  intro id o1 h hf
  by_cases hne:id=i
  ·subst hne
   rw[oB]at h;obtain rfl:=Option.some.inj h
   refine ⟨.zA u e l c',List.getElem?_set_self hlt,by simp,fun l row e=>(by cases e),fun c vs e=>(by cases e),fun v l' c e=>(by cases e),fun v e1 l' c q=> ?_,fun _ _ _ e=>(by cases e),fun _ _ _ _ e=>(by cases e)⟩
   cases q
   rcases kT with h |⟨v0,c0,rfl,hv0⟩
   ·exact absurd h hf
   ·exact ⟨v0,c0,rfl,Nat.le_of_lt hv0,fun e=>by omega⟩
  ·exact ⟨o1,by rw[List.getElem?_set_ne (Ne.symm hne)];exact h,hf,kD.same (pl.qZ i _ _ id hne).1 (pl.qZ i _ _ id hne).2⟩
 have hrel:∀S',iB P T S' (pl.at i b cap) (St.set i (.zA u e l c')) (.sw i u) v':=by
  intro S'
  rcases hv with ⟨rfl,rfl⟩|⟨rows,rfl,rfl⟩
  ·exact .a2q (List.getElem?_set_self hlt)
  ·have:=iB.bGa (P:=P) (T:=T) (S:=S') (pl:=pl.at i b cap) (St:=St.set i (.zA u e l (.sl rows))) (List.getElem?_set_self hlt)
   rw[Pl.lD,Pl.bG]at this;exact this
 have hold:∀k,k<w.heap.size→(o.has=true→k≠pl.blk i)→w'.heap[k]? =w.heap[k]? :=by
  intro k hk hne
  rcases aPf with ⟨h1,h2,h3,_⟩|⟨_,h⟩
  ·exact h3 k hk (by rw[h2];exact hne h1)
  ·exact h k hk
 have hcell:∀b' off v,S b' off=some v→w'.cell? ⟨b',off,none⟩=some v:=by
  intro b' off v h
  have hb':=hs.aD4 h
  rcases aPf with ⟨h1,h2,h3,h4,_⟩|⟨_,h3⟩
  ·by_cases e:b'=b
   ·subst e
    have hoff:off<o.sn:=by
     rcases Nat.lt_or_ge off o.sn with q |q
     ·exact q
     ·have:=hs.apart i o oB h1 off q;rw[←h2,h]at this;cases this
    rw[h4 off hoff];exact hs.yM _ _ _ h
   ·rw[World.cell?_of_block (w:=w) (w':=w') (h3 b' hb' e)];exact hs.yM _ _ _ h
  ·rw[World.cell?_of_block (w:=w) (w':=w') (h3 b' hb')];exact hs.yM _ _ _ h
 have aPg:∀j o1,j≠i→St[j]? =some o1→o1.has=true→pl.blk j≠b:=by
  intro j o1 hj h ho
  rcases aPf with ⟨ho',rfl,_⟩|⟨hb,_⟩
  ·exact fun e=>hj (hs.inj j i _ _ h oB ho ho' e)
  ·have:=hs.aAZ h ho;omega
 have bAT:∀b',nW (pl.at i b cap) (St.set i (.zA u e l c')) b'→nW pl St b'∨w.heap.size≤b':=by
  rintro b' ⟨id,o1,h,ho,hc1,hb'⟩
  by_cases hid:id=i
  ·subst hid;rw[Pl.lD]at hb';subst hb'
   rcases aPf with ⟨ho',rfl,_⟩|⟨hb,_⟩
   ·exact .inl ⟨id,o,oB,ho',(by rcases kT with rfl |⟨v0,c0,rfl,_⟩<;>rfl),rfl⟩
   ·exact .inr hb
  ·rw[List.getElem?_set_ne (Ne.symm hid)]at h
   rw[(pl.qZ i _ _ id hid).1]at hb'
   exact .inl ⟨id,o1,h,ho,hc1,hb'⟩
 have hgrow:∀S',S.le S'→(∀b' off,b'≠b→S' b' off=S b' off)→Grow (nW pl St) S w S' w':=by
  intro S' hle hS
  refine ⟨hw.1,hw.2.1,hw.2.2,hsz,fun k hk hn=>hold k hk (fun ho e=>hn ⟨i,o,oB,ho,(by rcases kT with rfl |⟨v0,c0,rfl,_⟩<;>rfl),e.symm⟩),hle,fun b' off hb' hn=>hS b' off (fun e=> ?_)⟩
  subst e
  rcases aPf with ⟨h1,h2,_⟩|⟨h,_⟩
  ·exact hn ⟨i,o,oB,h1,(by rcases kT with rfl |⟨v0,c0,rfl,_⟩<;>rfl),h2.symm⟩
  ·omega
 rcases aOu with rfl |⟨rows,cur,e',inf,rfl,hh,hL,bI0,hn,hcap,bDA,hcs,hrr⟩
 ·refine ⟨S,pl.at i b cap, ?_,hgrow S S.le_refl (fun _ _ _=>rfl),hrel S,fun _ _ h=>h.keep hk S.le_refl,bAT⟩
  exact hs.upd hlt hk S.le_refl (pl.qZ i _ _) (fun j o1 hj h ho=>hold _ (hs.aAZ h ho) (fun ho' e=>hj (hs.inj j i _ _ h oB ho ho' e))) hcell (.inl rfl) (fun h=>by simp[Obj.has]at h) (fun j o _ h ho=>hs.apart j o h ho) (fun h=>by simp[Obj.has]at h) (fun g hg ha=>⟨hold g hg (fun ho e=>ha i o oB ho e.symm),fun h=>by simp[Obj.has]at h⟩)
 ·have hlen:=hrr.len
  have hle:S.le (S.more b (cur.toList.take (rows.length*l.n))):=by
   intro b' off v h
   simp only[yA.more]
   split
   ·rename_i e;subst e
    have hc:=hcell _ _ _ h
    rw[cell_of_row w' _ _ _ _ _ hh]at hc
    rw[List.getElem?_take]
    have hoff:off<rows.length*l.n:=by
     rcases aPf with ⟨h1,h2,h3,h4,h5⟩|⟨hb,_⟩
     ·rcases Nat.lt_or_ge off o.sn with q |q
      ·have:(Obj.zA u e l (.sl rows)).sn=rows.length*l.n:=rfl
       omega
      ·have:=hs.apart i o oB h1 off q;rw[←h2,h]at this;cases this
     ·have:=hs.aD4 h;omega
    rw[if_pos hoff];simpa using hc
   ·exact h
  refine ⟨S.more b (cur.toList.take (rows.length*l.n)),pl.at i b cap, ?_,hgrow _ hle (fun b' off hb'=>by simp[yA.more,hb']),hrel _,fun _ _ h=>h.keep hk hle,bAT⟩
  refine hs.upd hlt hk hle (pl.qZ i _ _) (fun j o1 hj h ho=>hold _ (hs.aAZ h ho) (fun ho' e=>hj (hs.inj j i _ _ h oB ho ho' e))) (fun b' off v h=> ?_) ?_ (fun _ off hoff=> ?_) (fun j o1 hj h ho off hoff=> ?_) (fun _ j o1 hj h ho=> ?_) (fun g hg ha=>⟨hold g hg (fun ho e=>ha i o oB ho e.symm),fun _=>by
   rw[Pl.lD]
   rcases aPf with ⟨h1,h2,_⟩|⟨h,_⟩
   ·rw[h2];exact ha i o oB h1
   ·omega⟩)
  ·simp only[yA.more]at h
   split at h
   ·rename_i e;subst e
    rw[cell_of_row w' _ _ _ _ _ hh]
    rw[List.getElem?_take]at h
    split at h
    ·simpa using h
    ·cases h
   ·exact hcell _ _ _ h
  ·refine .inr ⟨rows,cur,e',inf,rfl,by rw[Pl.lD];exact hh,hL,bI0,hn,by rw[Pl.bG];exact hcap,by rw[Pl.bG];exact bDA,by rw[Pl.bG];exact hcs,(hrr.mono hle).row,fun p hp=> ?_⟩
   rw[Pl.lD]
   simp only[yA.more,if_true]
   have:p<cur.toList.length:=by omega
   rw[List.getElem?_take,if_pos hp]
   simp at this
   simp[this]
  ·rw[Pl.lD]
   simp only[yA.more,if_true]
   have:(Obj.zA u e l (.sl rows)).sn=rows.length*l.n:=rfl
   rw[List.getElem?_take,if_neg (by omega)]
  ·simp only[yA.more]
   rw[if_neg (aPg j o1 hj h ho)]
   exact hs.apart j o1 h ho off hoff
  ·rw[Pl.lD];exact aPg j o1 hj h ho
theorem aTs (w:World) (t tx ty e e2:TypeId) (i:TypeInfo) (ht:P.underlying t=some (.slice e)) (hi:P.info? e=some i)
 (g sLen sCap:Nat) (cur:Array Value) (hg:w.heap[g]? =some (.cells cur e2 (0,0)))
 (x:Value) (m:Nat) (news:List Value) (hs:Src P i.size tx x m news w)
 (hroom:sLen+m≤sCap) (hfit:sLen*i.size+news.length≤cur.size):
 (Builtin.append_ #[t,tx] ty #[.slice (some ⟨g,0,none⟩) sLen sCap,x]).run P w=
   .ok (.slice (some ⟨g,0,none⟩) (sLen+m) sCap) (w.setRow g (cur.toList.take (sLen*i.size)++news++cur.toList.drop (sLen*i.size+news.length)).toArray):=by
 have hst:=run_storeCells_at P g (sLen*i.size) e2 news 0 cur w hg (by simpa using hfit) hs.one
 simp only[Nat.add_zero]at hst
 rcases hs.kind with ⟨e',hk⟩|hk<;>simp[Builtin.append_,run_underlying ht,run_underlying hk,sizeOf,typeInfo,hi,hs.len,hroom,hs.cells,Addr.add_lit,hst]
theorem aAu (w:World) {t tx ty e:TypeId} {i:TypeInfo} (ht:P.underlying t=some (.slice e)) (hi:P.info? e=some i) (base:Option Addr) (n cap:Nat) (hle:n≤cap) (x:Value) (hs:Src P i.size tx x 0 [] w):
 (Builtin.append_ #[t,tx] ty #[.slice base n cap,x]).run P w= .ok (.slice base n cap) w:=by
 rcases hs.kind with ⟨e',hk⟩|hk<;>cases base<;>simp[Builtin.append_,run_underlying ht,run_underlying hk,sizeOf,typeInfo,hi,hs.len,hs.cells,hle,storeCells]
theorem aQi {t tx ty e:TypeId} {l:L} {bytes:Nat} (hB:aWg P t e l bytes=true) (hs:mW P T S pl St w) {i u:Nat} {ob:Obj} {c:C} {v0:Value} (oB:St[i]? =some ob)
 (kT:(ob= .fresh∧c= .bA)∨∃v1,ob= .zA v1 e l c∧v1<u)
 (hv0:(c= .bA∧v0= .slice none 0 0)∨∃rows,c= .sl rows∧v0= .slice (some ⟨pl.blk i,0,none⟩) rows.length (pl.cap i))
 (x:Value) (m:Nat) (news:List Value) (aDj:List Row) (hnr:aDj.length=m) (hq:Src P l.n tx x m news w) (hrn:rC P T S l news aDj)
 (aLd:(c.rows.length+m)*bytes≤140737488355328):
 ∃v' w',(Builtin.append_ #[t,tx] ty #[v0,x]).run P w= .ok v' w'∧bB P T S pl St w (St.set i (.zA u e l (wE c aDj))) (.sw i u) v' w':=by
 obtain ⟨hu,hL,hn,hby,inf,zv,hi,hib,hz,hzs,hsz⟩:=aDs hB
 have hq':Src P inf.size tx x m news w:=by rw[hsz];exact hq
 have aLe:ob= .fresh∨∃v1 c1,ob= .zA v1 e l c1∧v1<u:=by
  rcases kT with ⟨h,_⟩|⟨v1,h,hlt⟩
  ·exact .inl h
  ·exact .inr ⟨v1,c,h,hlt⟩
 have bDA:c.rows.length+m≤140737488355328:=Nat.le_trans (Nat.le_mul_of_pos_right _ hby) aLd
 have aYM:((c.rows.length+m:Nat):Int)≤9223372036854775807:=by omega
 have hnl:news.length=m*l.n:=hq.newsLen
 have grown:∀(base:Option Addr) (old:Nat) (olds:List Value),(Builtin.firstCells inf.size c.rows.length (.slice base c.rows.length old)).run P w.drew= .ok olds.toArray w.drew→
  olds.length=c.rows.length*l.n→rC P T S l olds c.rows→old<c.rows.length+m→m≠0→Builtin.nextslicecap (c.rows.length+m) old*inf.bytes≤281474976710656→
  ∃v' w',(Builtin.append_ #[t,tx] ty #[.slice base c.rows.length old,x]).run P w= .ok v' w'∧bB P T S pl St w (St.set i (.zA u e l (.sl (c.rows++aDj)))) (.sw i u) v' w':=by
  intro base old olds hold vE hor ho hm hfit
  have hge:=grownCap_ge w (c.rows.length+m) old e
  have hcm:grownCap w (c.rows.length+m) old e≤maxLen:=grownCap_le_maxLen w _ old e (by simp[maxLen];omega)
  refine ⟨_,_,run_append_grow_src w t tx ty e inf zv hu hi hz base c.rows.length old olds hold x m news hq' ho aYM hfit, ?_⟩
  refine aJ9 (b:=w.heap.size) (cap:=grownCap w (c.rows.length+m) old e) hs oB aLe ⟨rfl,rfl,rfl⟩ (by simp) (.inr ⟨Nat.le_refl _,fun k hk=>heap_alloc_old w.drew _ hk⟩) ?_ (.inr ⟨_,rfl,by simp[hnr]⟩)
  refine .inr ⟨_,_,e,inf,rfl,heap_alloc_new w.drew _,hL,hi,hn,by simp[hnr,hge],hcm, ?_, ?_⟩
  ·simp only[Array.size_append,List.size_toArray,size_zeroCells,hzs,List.length_append,vE,hnl,←Nat.add_mul]
   congr 1;omega
  ·have:=(hor.app vE hrn).more (t:=(Builtin.zeroCells zv.cells (grownCap w (c.rows.length+m) old e - (c.rows.length+m))).toList)
   simpa using this
 by_cases hm:m=0
 ·subst hm
  have aRF:aDj=[]:=List.eq_nil_of_length_eq_zero hnr
  subst aRF
  have hnn:news=[]:=List.eq_nil_of_length_eq_zero (by rw[hnl];simp)
  subst hnn
  rcases hv0 with ⟨rfl,rfl⟩|⟨rows,rfl,rfl⟩
  ·refine ⟨_,_,aAu w hu hi none 0 0 (Nat.le_refl _) x hq', ?_⟩
   exact aJ9 (b:=w.heap.size) (cap:=0) hs oB aLe ⟨rfl,rfl,rfl⟩ (Nat.le_refl _) (.inr ⟨Nat.le_refl _,fun _ _=>rfl⟩) (.inl rfl) (.inl ⟨rfl,rfl⟩)
  ·obtain ⟨v1,rfl,hlt⟩:∃v1,ob= .zA v1 e l (.sl rows)∧v1<u:=by
    rcases kT with ⟨_,h⟩|h
    ·cases h
    ·exact h
   rcases hs.objs _ _ oB with hqq |⟨qP,cur,e2,i2,hqq,hh,q1,q2,q3,q4,q5,q6,q7,q8⟩
   ·simp at hqq
   ·simp at hqq;subst hqq
    refine ⟨_,_,aAu w hu hi _ _ _ q4 x hq', ?_⟩
    have a2n:wE (.sl rows) []= .sl rows:=by simp[wE,C.rows]
    rw[a2n]
    refine aJ9 (b:=pl.blk i) (cap:=pl.cap i) hs oB aLe ⟨rfl,rfl,rfl⟩ (Nat.le_refl _) (.inl ⟨rfl,rfl,fun _ _ _=>rfl,fun _ _=>rfl,Nat.le_refl _⟩) ?_ (.inr ⟨_,rfl,rfl⟩)
    exact .inr ⟨rows,cur,e2,i2,rfl,hh,q1,q2,q3,q4,q5,q6,⟨by rw[show cur.toList.length=cur.size from Array.length_toList,q6];exact Nat.mul_le_mul_right _ q4,q7⟩⟩
 ·have a2n:wE c aDj= .sl (c.rows++aDj):=by
   cases aDj with
   |nil=>exact absurd hnr.symm hm
   |cons r rs=>cases c<;>rfl
  rw[a2n]
  rcases hv0 with ⟨rfl,rfl⟩|⟨rows,rfl,rfl⟩
  ·refine grown none 0 [] (run_firstCells_none w.drew _ _ _ _) (by simp[C.rows]) ⟨by simp[C.rows],fun j r hj=>by simp[C.rows]at hj⟩ (by simp[C.rows];omega) hm ?_
   have:(C.bA.rows.length+m)=m:=by simp[C.rows]
   rw[this,nextslicecap_zero (by omega),hib]
   simp[C.rows]at aLd;omega
  ·obtain ⟨v1,rfl,hlt⟩:∃v1,ob= .zA v1 e l (.sl rows)∧v1<u:=by
    rcases kT with ⟨_,h⟩|h
    ·cases h
    ·exact h
   rcases hs.objs _ _ oB with hqq |⟨qP,cur,e2,i2,hqq,hh,q1,q2,q3,q4,q5,q6,q7,q8⟩
   ·simp at hqq
   ·simp at hqq;subst hqq
    have hrr:rC P T S l cur.toList rows:=⟨by rw[show cur.toList.length=cur.size from Array.length_toList,q6];exact Nat.mul_le_mul_right _ q4,q7⟩
    have htl:(cur.toList.take (rows.length*l.n)).length=rows.length*l.n:=by
     have:=hrr.len;rw[List.length_take];omega
    by_cases hroom:rows.length+m≤pl.cap i
    ·have hfit:rows.length*inf.size+news.length≤cur.size:=by rw[hnl,hsz,q6,←Nat.add_mul];exact Nat.mul_le_mul_right _ hroom
     have hr:=aTs (P:=P) (ty:=ty) w t tx e e2 inf hu hi (pl.blk i) rows.length (pl.cap i) cur hh x m news hq' hroom hfit
     refine ⟨_,_,hr, ?_⟩
     have bAU:=setRow_heap w (pl.blk i) cur (cur.toList.take (rows.length*inf.size)++news++cur.toList.drop (rows.length*inf.size+news.length)).toArray e2 (0,0) hh
     refine aJ9 (b:=pl.blk i) (cap:=pl.cap i) hs oB aLe ⟨rfl,rfl,rfl⟩ (by simp) (.inl ⟨rfl,rfl,fun k hk hne=>setRow_other w _ k _ hne,fun p hp=> ?_, ?_⟩) ?_ (.inr ⟨_,rfl,by simp[hnr,C.rows]⟩)
     ·rw[cell_of_row _ _ _ _ _ _ bAU,cell_of_row w _ _ _ _ _ hh]
      have hp:p<rows.length*l.n:=hp
      have hps:p<cur.toList.length:=by have:=hrr.len;omega
      have bNa:p<cur.size:=by simpa using hps
      simp only[List.getElem?_toArray,hsz,List.append_assoc]
      rw[List.getElem?_append_left (by rw[htl];exact hp),List.getElem?_take,if_pos hp]
      simp
     ·show rows.length*l.n≤(rows++aDj).length*l.n
      exact Nat.mul_le_mul_right _ (by simp)
     ·refine .inr ⟨_,_,e2,i2,rfl,bAU,q1,q2,hn,by simp[hnr,C.rows,hroom],q5, ?_, ?_⟩
      ·rw[hsz]at hfit
       simp only[List.size_toArray,List.length_append,List.length_take,List.length_drop,Array.length_toList,hsz]
       rw[←q6];omega
      ·have:=((hrr.take.app htl hrn).more (t:=cur.toList.drop (rows.length*inf.size+news.length)))
       simpa[hsz,C.rows]using this
    ·have a2o:∀j v,(cur.toList.take (rows.length*l.n))[j]? =some v→w.drew.cell? ((⟨pl.blk i,0,none⟩:Addr).add j)=some v:=by
      intro j v hj
      rw[add_eq _ rfl]
      have:w.drew.cell? ⟨pl.blk i,0+j,none⟩=w.cell? ⟨pl.blk i,0+j,none⟩:=by simp
      rw[this,cell_of_row w _ _ _ _ _ hh]
      rw[List.getElem?_take]at hj
      split at hj
      ·simpa using hj
      ·cases hj
     exact grown (some ⟨pl.blk i,0,none⟩) (pl.cap i) _ (run_firstCells_some (P:=P) w.drew inf.size rows.length _ _ _ _ (by rw[hsz];exact htl) a2o) htl hrr.take (by simp[C.rows];omega) hm
      (growslice_fits (by simp only[C.rows];omega) (by rw[hib];exact aLd))
end Go.Ev
namespace Go.Ev
variable {E:Env} {P:Program} {T:Nat→yF} {S S':yA} {pl wD:Pl} {St dD:Ev.St} {F:Fr} {a:Act} {w w':World}
def a6E (P:Program) (t:TypeId) (n:Nat):Bool:=(match P.underlying t with |some (.struct _)=>true |some (.array ..)=>true |_=>false)&&aOL P t n
theorem aUK {t:TypeId} {n:Nat} (h:a6E P t n=true) (w:World):(isAgg t).run P w= .ok true w∧(sizeOf t).run P w= .ok n w:=by
 simp only[a6E,Bool.and_eq_true]at h
 refine ⟨?_,aBp h.2 w⟩
 have:=h.1
 cases hu:P.underlying t with
 |none=>rw[hu]at this;simp at this
 |some d=>rw[hu]at this;cases d<;>simp_all[isAgg,run_underlying hu]
theorem iB.aUL {yL:List AV} {cs:Array Value} (hl:cs.size=yL.length) (h1:∀i,i<cs.size→(cs.getD i Go.undef).oneCell'=true) (h2:∀i av,yL[i]? =some av→iB P T S pl St av (cs.getD i Go.undef)):iB P T S pl St (.agg yL) (.agg cs):=by
 have:=iB.agg (P:=P) (T:=T) (S:=S) (pl:=pl) (St:=St) (yL:=yL) (fun i=>cs.getD i Go.undef) (fun i hi=>h1 i (by omega)) h2
 have e:((List.range yL.length).map fun i=>cs.getD i Go.undef).toArray=cs:=by
  apply Array.ext
  ·simp[hl]
  ·intro i h3 h4
   simp at h3
   simp[h4]
 rw[e]at this;exact this
section
variable {o:Oper} {x y c:Operand} {ax ay ac:rD} {base:Nat}
variable (hs:mW P T S pl St w) (hF:wX P T S pl St F a.tmps)
include hs hF
theorem a6F {e:TypeId} {l:L} {id:Nat} {ob:Obj} {av:AV} {no:Option Obj} (ho:o.op= .assign (.const (.slice none 0 0))∨o.op= .move (.const (.slice none 0 0))) (oB:St[base+id]? =some ob)
 (h:rG E F St ob (.a14 id e l) base cB=some (av,no)):∃o',no=some o'∧cE P o a w (bB P T S pl St w (St.set (base+id) o') av):=by
 simp only[rG,uD]at h
 split at h
 ·simp only[cB,Option.some.injEq,Prod.mk.injEq]at h
  obtain ⟨rfl,rfl⟩:=h
  have hlt:base+id<St.length:=(List.getElem?_eq_some_iff.1 oB).1
  refine ⟨_,rfl,mA (v:= .slice none 0 0) (w':=w) ?_ (aON hs oB rfl (fun _=> .inl rfl) (.a2q (List.getElem?_set_self hlt)))⟩
  rcases ho with ho |ho<;>simp[execOp,ho,Act.eval]
 ·simp at h
theorem bDE {t e:TypeId} {l:L} {n id:Nat} {z:Row} {parts:Array (Nat×Operand)} {mC:List (Nat×rD)} {ob:Obj} {av:AV} {no:Option Obj} (ho:o.op= .buildSlice t n parts)
 (hb:aYJ P T t e l n z parts.toList mC=true) (oB:St[base+id]? =some ob)
 (h:rG E F St ob (.bslS id e l n z mC) base cB=some (av,no)):∃o',no=some o'∧cE P o a w (bB P T S pl St w (St.set (base+id) o') av):=by
 simp only[rG,uD]at h
 split at h
 ·simp only[aYJ,Bool.and_eq_true]at hb
  obtain ⟨⟨⟨⟨h1,h2⟩,h3⟩,h4⟩,h5⟩:=hb
  obtain ⟨hu,hL⟩:=tO h1
  have hp:0<l.n:=by simpa using h2
  have h3:n*l.n≤16777216:=by simpa using h3
  split at h5
  ·rename_i i hi
   split at h5
   ·rename_i zv hz
    have hzr:=(pM (P:=P) (T:=T) (S:=S) h5).cells
    obtain ⟨cells,rows,g1,g2,g3,g4,g5⟩:=aB7 hs hF parts.toList mC _ _ (by simpa using h4) (yU hzr hp n) h
    simp only[cB,Option.some.injEq,Prod.mk.injEq]at g5
    obtain ⟨rfl,rfl⟩:=g5
    have g3:rows.length=n:=by simpa using g3
    have g4:cells.size=n*l.n:=by simpa using g4
    obtain ⟨i',hi',hsz⟩:=hL.2
    rw[hi]at hi';obtain rfl:=Option.some.inj hi'
    refine ⟨_,rfl,mA (v:= .slice (some ⟨w.heap.size,0,none⟩) n n) (w':=w.alloc (.cells cells e)) ?_ ?_⟩
    ·simp only[execOp,ho]
     refine qW ?_
     have a6x:¬(n*l.n>16777216):=by omega
     by_cases hnz:n*l.n=0
     ·have hn0:n=0:=by
       rcases Nat.mul_eq_zero.1 hnz with h |h
       ·exact h
       ·omega
      subst hn0
      have hpn:parts.toList=[]:=by
       cases hpl:parts.toList with
       |nil=>rfl
       |cons q qs=>
        rw[hpl]at h4
        cases mC with
        |nil=>simp[oL]at h4
        |cons q' qs'=>simp[oL]at h4
      have hpa:parts=#[]:=by cases parts;simp at hpn;subst hpn;rfl
      subst hpa
      have:cells=#[]:=by apply Array.eq_empty_of_size_eq_zero;simpa using g4
      subst this
      simp[Instr.buildSlice,run_underlying hu,sizeOf,typeInfo,hi,hsz,Instr.fill,newRow,Array.range_zero']
     ·have g1':Instr.fill (fun i=>some (i*l.n,l.n)) ((Array.range (n*l.n)).map fun i=>zv.cells[i % zv.cells.size]!) (parts.toList.map fun p=>(p.1,a.eval p.2))=some cells:=g1
      simp only[Instr.buildSlice,Sem.run_bind,run_underlying hu,sizeOf,typeInfo,run_program,hi,hsz,Result.andThen_ok,Sem.run_pure,zeroValue,hz]
      rw[if_neg (by simpa using a6x)]
      simp only[Sem.run_pure,Result.andThen_ok,hnz,if_false,Sem.run_bind,typeInfo,run_program,hi,hz]
      have e1:(parts.map fun (x:Nat×Operand)=>(x.1,a.eval x.2)).toList=parts.toList.map fun p=>(p.1,a.eval p.2):=by simp
      rw[e1,g1']
      simp[newRow]
    ·have hnl:n≤n*l.n:=Nat.le_mul_of_pos_right _ hp
     refine aJ9 (b:=w.heap.size) (cap:=n) hs oB (.inl rfl) ⟨rfl,rfl,rfl⟩ (by simp) (.inr ⟨Nat.le_refl _,fun k hk=>heap_alloc_old w _ hk⟩) ?_ (.inr ⟨_,rfl,by rw[g3]⟩)
     exact .inr ⟨rows,cells,e,i,rfl,heap_alloc_new w _,hL,hi,hp,by omega,by simp[maxLen];omega,g4,g2⟩
   ·simp at h5
  ·simp at h5
 ·simp at h
theorem bDF {t e:TypeId} {l:L} {n id:Nat} {z:Row} {parts:Array (Nat×Operand)} {mC:List (Nat×rD)} {ob:Obj} {av:AV} {no:Option Obj} (ho:o.op= .buildSlice t n parts)
 (hb:aYJ P T t e l n z parts.toList mC=true) (oB:St[base+id]? =some ob)
 (h:rG E F St ob (.bslO id e l n z mC) base cB=some (av,no)):∃o',no=some o'∧cE P o a w (bB P T S pl St w (St.set (base+id) o') av):=by
 simp only[rG,uD]at h
 split at h
 ·simp only[aYJ,Bool.and_eq_true]at hb
  obtain ⟨⟨⟨⟨h1,h2⟩,h3⟩,h4⟩,h5⟩:=hb
  obtain ⟨hu,hL⟩:=tO h1
  have hp:0<l.n:=by simpa using h2
  have h3:n*l.n≤16777216:=by simpa using h3
  split at h5
  ·rename_i i hi
   split at h5
   ·rename_i zv hz
    have hzr:=(pM (P:=P) (T:=T) (S:=S) h5).cells
    obtain ⟨cells,rows,g1,g2,g3,g4,g5⟩:=aB7 hs hF parts.toList mC _ _ (by simpa using h4) (yU hzr hp n) h
    simp only[cB,Option.some.injEq,Prod.mk.injEq]at g5
    obtain ⟨rfl,rfl⟩:=g5
    have g3:rows.length=n:=by simpa using g3
    have g4:cells.size=n*l.n:=by simpa using g4
    obtain ⟨i',hi',hsz⟩:=hL.2
    rw[hi]at hi';obtain rfl:=Option.some.inj hi'
    refine ⟨_,rfl,mA (v:= .slice (some ⟨w.heap.size,0,none⟩) n n) (w':=w.alloc (.cells cells e)) ?_ ?_⟩
    ·simp only[execOp,ho]
     refine qW ?_
     have a6x:¬(n*l.n>16777216):=by omega
     by_cases hnz:n*l.n=0
     ·have hn0:n=0:=by
       rcases Nat.mul_eq_zero.1 hnz with h |h
       ·exact h
       ·omega
      subst hn0
      have hpn:parts.toList=[]:=by
       cases hpl:parts.toList with
       |nil=>rfl
       |cons q qs=>
        rw[hpl]at h4
        cases mC with
        |nil=>simp[oL]at h4
        |cons q' qs'=>simp[oL]at h4
      have hpa:parts=#[]:=by cases parts;simp at hpn;subst hpn;rfl
      subst hpa
      have:cells=#[]:=by apply Array.eq_empty_of_size_eq_zero;simpa using g4
      subst this
      simp[Instr.buildSlice,run_underlying hu,sizeOf,typeInfo,hi,hsz,Instr.fill,newRow,Array.range_zero']
     ·have g1':Instr.fill (fun i=>some (i*l.n,l.n)) ((Array.range (n*l.n)).map fun i=>zv.cells[i % zv.cells.size]!) (parts.toList.map fun p=>(p.1,a.eval p.2))=some cells:=g1
      simp only[Instr.buildSlice,Sem.run_bind,run_underlying hu,sizeOf,typeInfo,run_program,hi,hsz,Result.andThen_ok,Sem.run_pure,zeroValue,hz]
      rw[if_neg (by simpa using a6x)]
      simp only[Sem.run_pure,Result.andThen_ok,hnz,if_false,Sem.run_bind,typeInfo,run_program,hi,hz]
      have e1:(parts.map fun (x:Nat×Operand)=>(x.1,a.eval x.2)).toList=parts.toList.map fun p=>(p.1,a.eval p.2):=by simp
      rw[e1,g1']
      simp[newRow]
    ·have hnl:n≤n*l.n:=Nat.le_mul_of_pos_right _ hp
     refine aJ8 (b:=w.heap.size) (cap:=n) hs oB (.inl rfl) ⟨rfl,rfl,rfl⟩ (by simp) (fun k hk _=>heap_alloc_old w _ hk) (.inr (Nat.le_refl _)) ?_ (.inr ⟨_,rfl,by rw[g3]⟩)
     exact .inr ⟨rows,cells,e,i,rfl,by rw[Pl.lD];exact heap_alloc_new w _,hL,hi,hp,by rw[Pl.bG];omega,by rw[Pl.bG];simp[maxLen];omega,by rw[Pl.bG];exact g4,g2.row⟩
   ·simp at h5
  ·simp at h5
 ·simp at h
theorem aXr {e:TypeId} {l:L} {i v:Nat} {c:C} {val:Value} (hv:iB P T S pl St (.sw i v) val) (oB:St[i]? =some (.zA v e l c)):
 (c= .bA∧val= .slice none 0 0)∨∃rows,c= .sl rows∧val= .slice (some ⟨pl.blk i,0,none⟩) rows.length (pl.cap i):=by
 have:=hv.bGb oB
 rcases hs.objs _ _ oB with hq |⟨qP,cur,e2,i2,hq,_⟩
 ·exact .inl ⟨hq,this.1 hq⟩
 ·exact .inr ⟨qP,hq,this.2 _ hq⟩
theorem bDG {t e:TypeId} {l:L} {id bytes:Nat} {ob:Obj} {av:AV} {no:Option Obj} (ho:o.op= .call {callee:= .builtin .append,args:=#[x,y],argTypes:=#[t,t]})
 (hB:aWg P t e l bytes=true) (hx:oA P T x ax=true) (hy:oA P T y ay=true) (oB:∀j,tgt F (.aUt id e l bytes ax ay) base=some j→St[j]? =some ob)
 (h:rG E F St ob (.aUt id e l bytes ax ay) base cB=some (av,no)):∃j o',tgt F (.aUt id e l bytes ax ay) base=some j∧no=some o'∧cE P o a w (bB P T S pl St w (St.set j o') av):=by
 obtain ⟨hu,hL,hn,hby,_⟩:=aDs hB
 have hvx:=sC hs hx hF
 have hvy:=qA hs hy hF
 simp only[rG]at h
 obtain ⟨e',ry,ey,hA⟩:=aXf h
 obtain ⟨hbe,hB1⟩:=lA hA
 obtain rfl:=Nat.eq_of_beq_eq_true hbe
 rw[ey]at hvy
 have aYO:∃news:List Value,Src P l.n t (a.eval y) (at_ ry 0).rows.length news w∧rC P T S l news (at_ ry 0).rows:=by
  rcases hvy.aOM with ⟨e1,e2⟩|⟨l',rows,ad,cap,f,e1,e2,h1,h2,h3,h4,h5,h6⟩
  ·rw[e2,e1];exact ⟨[],Src.ofNil w hu 0,⟨by simp[C.rows],fun j r hj=>by simp[C.rows]at hj⟩⟩
  ·obtain rfl:=h1.inj hL
   rw[e2,e1]
   obtain ⟨news,g1,g2,g3,g4⟩:=aPd hs hn h3 h4 h5 h6
   exact ⟨news,Src.ofSlice w hu ad rows.length cap news g1 g3 g4,g2⟩
 obtain ⟨news,hsrc,hnr⟩:=aYO
 split at hB1
 ·rename_i e2 r ex
  obtain ⟨hb2,hC⟩:=lA hB1
  obtain rfl:=Nat.eq_of_beq_eq_true hb2
  rw[ex]at hvx
  split at hC
  ·rename_i aRF
   unfold uD at hC
   split at hC
   ·obtain ⟨aLd,hD⟩:=jD hC
    simp only[cB,Option.some.injEq,Prod.mk.injEq]at hD
    obtain ⟨rfl,rfl⟩:=hD
    have htg:tgt F (.aUt id e l bytes ax ay) base=some (base+id):=by simp[tgt,ex,tJ]
    have e1:a.eval x= .slice none 0 0:=by
     rcases hvx.aOM with ⟨e1,e2⟩|⟨l',rows,ad,cap,f,e1,e2,_⟩
     ·exact e1
     ·rw[aRF]at e2;cases e2
    obtain ⟨v',w',hr,hp⟩:=aQi (ty:=o.type) hB hs (oB _ htg) (.inl ⟨rfl,rfl⟩) (.inl ⟨rfl,rfl⟩) (a.eval y) _ news (at_ ry 0).rows rfl hsrc hnr (by simpa[C.rows]using aLd) (u:=0)
    refine ⟨_,_,htg,rfl,mA (aBr hs hF ho ?_) hp⟩
    rw[e1];exact hr
   ·simp at hC
  ·simp at hC
 ·rename_i i v ex
  rw[ex]at hvx
  have htg:tgt F (.aUt id e l bytes ax ay) base=some i:=by simp[tgt,ex,tJ]
  have oB:=oB _ htg
  unfold aO7 at hB1
  split at hB1
  ·rename_i v' e2 l' c
   obtain ⟨hvb,hC⟩:=lA hB1
   obtain rfl:=Nat.eq_of_beq_eq_true hvb
   obtain ⟨hlb,hC2⟩:=lA hC
   simp only[Bool.and_eq_true]at hlb
   obtain rfl:=Nat.eq_of_beq_eq_true hlb.1
   obtain rfl:=L.beq_eq hlb.2
   obtain ⟨aLd,hD⟩:=jD hC2
   simp only[cB,Option.some.injEq,Prod.mk.injEq]at hD
   obtain ⟨rfl,rfl⟩:=hD
   obtain ⟨v',w',hr,hp⟩:=aQi (ty:=o.type) hB hs oB (.inr ⟨v,rfl,Nat.lt_succ_self v⟩) (aXr hs hF hvx oB) (a.eval y) _ news (at_ ry 0).rows rfl hsrc hnr aLd
   exact ⟨_,_,htg,rfl,mA (aBr hs hF ho hr) hp⟩
  ·simp at hB1
 ·simp at hB1
theorem aWj (b:ByteArray):rC P T S (.one (.int .u8)) (byteCells b) (b.data.toList.map uU):=by
 refine ⟨by rw[byteCells_length];simp[L.n,L.ks],fun i r hi=> ?_⟩
 have hil:i<b.data.toList.length:=by have:=(List.getElem?_eq_some_iff.1 hi).1;simpa using this
 have hr:r=uU (b.data.toList[i]):=by
  rw[List.getElem?_map,List.getElem?_eq_getElem hil]at hi;simpa using hi.symm
 subst hr
 have e1:(L.one (K.int .u8)).n=1:=rfl
 rw[e1,Nat.mul_one]
 have e2:((byteCells b).drop i).take 1=[.int .u8 (b.data.toList[i]).toNat]:=by
  apply List.ext_getElem?
  intro j
  cases j with
  |zero=>simp[byteCells,List.getElem?_take,List.getElem?_drop,List.getElem?_map,List.getElem?_eq_getElem hil]
  |succ j=>simp[List.getElem?_take]
 rw[e2]
 exact ⟨rfl,rfl,fun j k hk=>by
  cases j with
  |zero=>simp[L.ks]at hk;subst hk;exact .int
  |succ j=>simp[L.ks]at hk⟩
def a6G (P:Program) (t u e:TypeId):Bool:=aWg P t e (.one (.int .u8)) 1&&(match P.underlying u with |some .string=>true |_=>false)
theorem bDH {t u e:TypeId} {id:Nat} {ob:Obj} {av:AV} {no:Option Obj} (ho:o.op= .call {callee:= .builtin .append,args:=#[x,y],argTypes:=#[t,u]})
 (hB:a6G P t u e=true) (hx:oA P T x ax=true) (hy:oA P T y ay=true) (oB:∀j,tgt F (.aUu id e ax ay) base=some j→St[j]? =some ob)
 (h:rG E F St ob (.aUu id e ax ay) base cB=some (av,no)):∃j o',tgt F (.aUu id e ax ay) base=some j∧no=some o'∧cE P o a w (bB P T S pl St w (St.set j o') av):=by
 simp only[a6G,Bool.and_eq_true]at hB
 obtain ⟨hB,a9H⟩:=hB
 have a9H:P.underlying u=some .string:=by split at a9H<;>first |assumption |simp at a9H
 obtain ⟨hu,hL,hn,hby,_⟩:=aDs hB
 have hvx:=sC hs hx hF
 have hvy:=qA hs hy hF
 simp only[rG]at h
 obtain ⟨ry,ey,hB1⟩:=jT h
 rw[ey]at hvy
 obtain ⟨b,e1,q1⟩:=hvy.aFm
 rw[←q1]at hB1
 have hsrc:=Src.ofString (P:=P) w a9H b
 have hlen:(b.data.toList.map uU).length=b.size:=by simp
 have hnr:=aWj (P:=P) (T:=T) (S:=S) hs hF b
 split at hB1
 ·rename_i e2 r ex
  obtain ⟨hb2,hC⟩:=lA hB1
  obtain rfl:=Nat.eq_of_beq_eq_true hb2
  rw[ex]at hvx
  split at hC
  ·rename_i aRF
   unfold uD at hC
   split at hC
   ·obtain ⟨aLd,hD⟩:=jD hC
    simp only[cB,Option.some.injEq,Prod.mk.injEq]at hD
    obtain ⟨rfl,rfl⟩:=hD
    have htg:tgt F (.aUu id e ax ay) base=some (base+id):=by simp[tgt,ex,tJ]
    have e3:a.eval x= .slice none 0 0:=by
     rcases hvx.aOM with ⟨e1,e2⟩|⟨l',rows,ad,cap,f,e1,e2,_⟩
     ·exact e1
     ·rw[aRF]at e2;cases e2
    obtain ⟨v',w',hr,hp⟩:=aQi (ty:=o.type) hB hs (oB _ htg) (.inl ⟨rfl,rfl⟩) (.inl ⟨rfl,rfl⟩) (a.eval y) b.size (byteCells b) (b.data.toList.map uU) hlen (by rw[e1];exact hsrc) hnr (by rw[bsize]at aLd;simp[C.rows];omega) (u:=0)
    refine ⟨_,_,htg,rfl,mA (aBr hs hF ho ?_) hp⟩
    rw[e3];exact hr
   ·simp at hC
  ·simp at hC
 ·rename_i i v ex
  rw[ex]at hvx
  have htg:tgt F (.aUu id e ax ay) base=some i:=by simp[tgt,ex,tJ]
  have oB:=oB _ htg
  unfold aO7 at hB1
  split at hB1
  ·rename_i v' e2 l' c
   obtain ⟨hvb,hC⟩:=lA hB1
   obtain rfl:=Nat.eq_of_beq_eq_true hvb
   obtain ⟨hlb,hC2⟩:=lA hC
   simp only[Bool.and_eq_true]at hlb
   obtain rfl:=Nat.eq_of_beq_eq_true hlb.1
   obtain rfl:=L.beq_eq hlb.2
   obtain ⟨aLd,hD⟩:=jD hC2
   simp only[cB,Option.some.injEq,Prod.mk.injEq]at hD
   obtain ⟨rfl,rfl⟩:=hD
   obtain ⟨v',w',hr,hp⟩:=aQi (ty:=o.type) hB hs oB (.inr ⟨v,rfl,Nat.lt_succ_self v⟩) (aXr hs hF hvx oB) (a.eval y) b.size (byteCells b) (b.data.toList.map uU) hlen (by rw[e1];exact hsrc) hnr (by rw[bsize]at aLd;omega)
   exact ⟨_,_,htg,rfl,mA (aBr hs hF ho hr) hp⟩
  ·simp at hB1
 ·simp at hB1
theorem bGc {n:Nat} {t:TypeId} {ob:Obj} {av:AV} {no:Option Obj} (ho:o.op= .load t x) (hl:a6E P t n=true) (hx:oA P T x ax=true)
 (oB:∀id,tJ (ax.ev F)=some id→St[id]? =some ob)
 (h:rG E F St ob (.ldA n ax) base cB=some (av,no)):no=none∧cE P o a w (bB P T S pl St w St av):=by
 have hv:=sC hs hx hF
 simp only[rG]at h
 split at h
 ·rename_i id off e
  have oB:=oB id (by rw[e];rfl)
  rw[e]at hv
  split at h
  ·rename_i c vs _
   have e1:=hv.sO oB
   obtain ⟨cur,e2,hh,hsz,hr,hr1⟩:=hs.objs _ _ oB
   obtain ⟨hb,hA⟩:=lA h
   have hle:off+n≤vs.length:=by simpa using hb
   simp only[cB,Option.some.injEq,Prod.mk.injEq]at hA
   obtain ⟨rfl,rfl⟩:=hA
   obtain ⟨g1,g2⟩:=aUK hl w
   have hcl:((cur.toList.drop off).take n).length=n:=by simp;omega
   have aMZ:∀i,i<n→((cur.toList.drop off).take n).toArray.getD i Go.undef=cur.getD (off+i) Go.undef:=fun i hi=>by
    have:off+i<cur.size:=by omega
    simp[hi,List.getElem?_take,List.getElem?_drop]
   have aQh:=run_loadCells_list (P:=P) w ⟨pl.blk id,off,none⟩ ((cur.toList.drop off).take n) (fun j u hj=>by
    rw[add_eq _ rfl,cell_of_row w _ _ _ _ _ hh]
    rw[List.getElem?_take]at hj
    split at hj
    ·simpa using hj
    ·cases hj)
   rw[hcl]at aQh
   refine ⟨rfl,mA (v:= .agg ((cur.toList.drop off).take n).toArray) (w':=w) (aJ3 ho ?_) (.same hs (.aUL ?_ (fun i hi=> ?_) (fun i av hi=> ?_)))⟩
   ·rw[e1]
    simp[Instr.loadAt,Instr.sureAddr,loadVar,g1,g2,aQh]
   ·simp;omega
   ·have hi:i<n:=by simpa[hcl]using hi
    rw[aMZ i hi];exact hr1 _ (by omega)
   ·rw[List.getElem?_take]at hi
    split at hi
    ·rename_i hin
     rw[aMZ i hin]
     exact hr _ _ (by rw[List.getElem?_drop]at hi;exact hi)
    ·cases hi
  ·simp at h
 ·simp at h
omit hs hF in
theorem a0k {off:Nat} {us vs:List AV} (hle:off+us.length≤vs.length) (i:Nat):(a2c off us vs)[i]? =if i<off then vs[i]? else if i<off+us.length then us[i - off]? else vs[i]? :=
 rW vs us off us.length i rfl hle
omit hs hF in
theorem aSM {off:Nat} {us vs:List AV} (hle:off+us.length≤vs.length):(a2c off us vs).length=vs.length:=by
 simp[a2c];omega
theorem bGd {n:Nat} {t:TypeId} {ob:Obj} {av:AV} {no:Option Obj} (ho:o.op= .store t x y) (hsz:aOL P t n=true) (hx:oA P T x ax=true) (hy:oA P T y ay=true)
 (oB:∀id,tJ (ax.ev F)=some id→St[id]? =some ob)
 (h:rG E F St ob (.stA n ax ay) base cB=some (av,no)):∃id o',tJ (ax.ev F)=some id∧no=some o'∧cE P o a w (bB P T S pl St w (St.set id o') av):=by
 have hv:=sC hs hx hF
 have hu:=sC hs hy hF
 simp only[rG]at h
 split at h
 ·rename_i id off e
  have oB:=oB id (by rw[e];rfl)
  rw[e]at hv
  split at h
  ·rename_i vs _
   split at h
   ·rename_i us hus
    obtain ⟨hb,hA⟩:=lA h
    simp only[Bool.and_eq_true]at hb
    have hn:us.length=n:=Nat.eq_of_beq_eq_true hb.1
    have hle:off+us.length≤vs.length:=by simpa using hb.2
    simp only[cB,Option.some.injEq,Prod.mk.injEq]at hA
    obtain ⟨rfl,rfl⟩:=hA
    obtain ⟨c1,c2,c3⟩:=hu.aB0 hus
    have e1:=hv.sO oB
    obtain ⟨cur,e2,hh,hcz,hr,hr1⟩:=hs.objs _ _ oB
    have hone:∀u∈(a.eval y).cells.toList,u.oneCell'=true:=by
     intro u hu
     obtain ⟨j,hj,rfl⟩:=List.getElem_of_mem hu
     have hj':j<(a.eval y).cells.size:=by simpa using hj
     have:=c3 j hj'
     simpa[hj']using this
    have hst:=aB6 (aBp hsz w) hh (v:=a.eval y) (off:=off) (by rw[c1,hn]) hone (by omega)
    have hk:kD pl St pl (St.set id (.cells false (a2c off us vs))):=kD.set oB (fun _=>⟨by simp,fun _ _ h=>by simp at h,fun _ _ _=>⟨_,_,rfl⟩,fun _ _ _ h=>by simp at h,fun _ _ _ _ h=>by simp at h,fun _ _ _ h=>by simp at h⟩)
    have hgd:∀i,(List.take off cur.toList++(a.eval y).cells.toList++List.drop (off+n) cur.toList).toArray.getD i undef=if i<off then cur.getD i undef else if i<off+n then (a.eval y).cells.getD (i - off) undef else cur.getD i undef:=by
     intro i
     have hg:=rW cur.toList (a.eval y).cells.toList off n i (by simp;omega) (by simp;omega)
     have e0:(List.take off cur.toList++(a.eval y).cells.toList++List.drop (off+n) cur.toList).toArray.getD i undef=(List.take off cur.toList++(a.eval y).cells.toList++List.drop (off+n) cur.toList)[i]?.getD undef:=by simp
     rw[e0,hg]
     split
     ·simp
     ·split<;>simp
    refine ⟨id,_,by rw[e];rfl,rfl,aG3 (aK9 ho (by rw[e1];exact hst)) ?_⟩
    refine aQe hs oB (by simp) rfl rfl hh hk (fun w' hw'=>⟨_,_,hw', ?_,fun i av hi=> ?_,fun i hi=> ?_⟩) .und
    ·rw[aSM hle];simp;omega
    ·rw[hgd]
     rw[a0k hle,hn]at hi
     split at hi
     ·rename_i h1;rw[if_pos h1];exact (hr i av hi).keep hk S.le_refl
     ·rename_i h1
      rw[if_neg h1]
      split at hi
      ·rename_i h2;rw[if_pos h2];exact (c2 _ av hi).keep hk S.le_refl
      ·rename_i h2;rw[if_neg h2];exact (hr i av hi).keep hk S.le_refl
    ·rw[hgd]
     have hi':i<cur.size:=by simp at hi;omega
     have q:=hr1 i hi'
     by_cases h1:i<off
     ·rw[if_pos h1];exact q
     ·rw[if_neg h1]
      by_cases h2:i<off+n
      ·rw[if_pos h2];exact c3 _ (by omega)
      ·rw[if_neg h2];exact q
   ·simp at h
  ·simp at h
 ·simp at h
end
end Go.Ev
