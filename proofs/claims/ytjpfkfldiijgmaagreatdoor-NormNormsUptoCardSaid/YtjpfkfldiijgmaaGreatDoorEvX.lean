/-
  Functions: the evaluator's answer is what a call returns.
-/
import Derived.Test.YtjpfkfldiijgmaaGreatDoorEvT
import Derived.Laws.Sem
set_option linter.all false
set_option maxRecDepth 100000
namespace Go.Ev
variable {E:Env} {P:Program} {T:Nat→yF} {S S':xA} {pl sD:Pl} {St aD:Ev.St} {F F':Fr} {a:Act} {w w':World}
variable {S0:xA} {w0:World} {n:Nat}
abbrev aGq (S0:xA) (w0:World) (n:Nat):Ctx:=⟨fun _=>False,S0,w0,n,0,fun _ _=>False,fun _ _ h=>h.elim⟩
def xA.all (S0:xA) (w0 w:World):xA:=fun b o=>if b<w0.heap.size then S0 b o else w.cell? ⟨b,o,none⟩
theorem Inv.bGT (hI:Inv P T (aGq S0 w0 n) S pl St F a w) (b o:Nat) (hb:b<w0.heap.size):S b o=S0 b o:=hI.grow.new b o hb (fun h=>h)
theorem Inv.yng (hI:Inv P T (aGq S0 w0 n) S pl St F a w) (b:Nat) (hb:wW pl St b):w0.heap.size≤b:=(hI.zZ b hb).resolve_left (fun h=>h)
theorem Inv.aRV (hI:Inv P T (aGq S0 w0 n) S pl St F a w):S.le (xA.all S0 w0 w):=by
 intro b o v h
 simp only[xA.all]
 split
 ·rename_i hb;rw[←hI.bGT b o hb];exact h
 ·exact hI.jO.gN _ _ _ h
theorem Inv.a7v (hI:Inv P T (aGq S0 w0 n) S pl St F a w) (h0:mD S0 w0):Grow (fun _=>False) S0 w0 (xA.all S0 w0 w) w:=
 ⟨hI.grow.os,hI.grow.tape,hI.grow.output,hI.grow.size,hI.grow.block,xA.le_trans hI.grow.mono hI.aRV,fun b o hb _=>by simp[xA.all,hb]⟩
theorem Inv.a7w (hI:Inv P T (aGq S0 w0 n) S pl St F a w):mD (xA.all S0 w0 w) w:=by
 intro b o v h
 simp only[xA.all]at h
 split at h
 ·rename_i hb;rw[←hI.bGT b o hb]at h;exact hI.jO.gN _ _ _ h
 ·exact h
def elB (P:Program) (l:L) (ol:Option L):Bool:=match ol with
 |none=>true
 |some le=>(match l with | .one (.sl e)=>aGk P e le |_=>false)
theorem a4b {id v:Nat} {e:TypeId} {le:L} {c:C} (hI:Inv P T (aGq S0 w0 n) S pl St F a w) (ho:St[id]? =some (.arr v le c)) (rows:List Row) (hc:c= .sl rows):
 ∃cells:List Value,qC P T (xA.all S0 w0 w) le cells rows∧(∀p,p<rows.length*le.n→xA.all S0 w0 w (pl.blk id) p=some (cells.getD p undef))∧rows.length≤pl.cap id:=by
 subst hc
 rcases hI.jO.objs _ _ ho with hq |⟨wP,cur,e2,i2,hq,hh,q1,q2,q3,q4,q5,q6,q7⟩
 ·cases hq
 ·cases hq
  have hrr:qC P T S le cur.toList rows:=⟨by rw[show cur.toList.length=cur.size from Array.length_toList,q6];exact Nat.mul_le_mul_right _ q4,q7⟩
  refine ⟨cur.toList,hrr.mono hI.aRV,fun p hp=> ?_,q4⟩
  have hy:=hI.yng (pl.blk id) ⟨id,_,ho,rfl,rfl,rfl⟩
  have hge:¬pl.blk id<w0.heap.size:=by omega
  simp only[xA.all,if_neg hge]
  rw[cell_of_row w _ _ _ _ _ hh]
  have hpl:p<cur.toList.length:=Nat.lt_of_lt_of_le hp hrr.len
  have hpc:p<cur.size:=by simpa using hpl
  simp[List.getD_eq_getElem?_getD,hpc]
theorem aRW {l:L} {ol:Option L} {av:AV} {v:Value} {row:Row} (hI:Inv P T (aGq S0 w0 n) S pl St F a w) (hel:elB P l ol=true) (hv:iB P T S pl St av v) (h:toD St l ol av=some row):zE P T (xA.all S0 w0 w) l v row:=by
 unfold toD at h
 split at h
 ·rename_i l' r
  split at h
  ·rename_i hb
   obtain rfl:=L.beq_eq hb
   simp only[Option.some.injEq]at h
   subst h
   have:=hv.aB2
   rw[this.nrm];exact this.mono hI.aRV
  ·simp at h
 ·rename_i id iO
  split at h
  ·rename_i l' r e
   split at h
   ·rename_i hb
    obtain rfl:=L.beq_eq hb
    simp only[Option.some.injEq]at h
    subst h
    have:=aHg hI.jO _ _ hv
    rw[e]at this
    have:=this.aB2
    rw[this.nrm];exact this.mono hI.aRV
   ·simp at h
  ·simp at h
 ·rename_i vs
  split at h
  ·rename_i l' r e
   split at h
   ·rename_i hb
    obtain rfl:=L.beq_eq hb
    simp only[Option.some.injEq]at h
    subst h
    have:=aHg hI.jO _ _ hv
    rw[e]at this
    have:=this.aB2
    rw[this.nrm];exact this.mono hI.aRV
   ·simp at h
  ·simp at h
 ·rename_i id iO
  split at h
  ·rename_i le
   split at h
   ·rename_i v' l' c ho
    split at h
    ·rename_i hb
     simp only[Bool.and_eq_true]at hb
     obtain rfl:=Nat.eq_of_beq_eq_true hb.1
     obtain rfl:=L.beq_eq hb.2
     simp only[Option.some.injEq]at h
     subst h
     simp only[elB]at hel
     split at hel
     ·rename_i e
      have hw:=hv.mQ ho
      refine ⟨c,rfl, ?_⟩
      cases hc:c with
      |bA=>rw[hw.1 hc];exact .bA
      |sl rows=>
       rw[hw.2 rows hc]
       obtain ⟨cells,g1,g2,g3⟩:=a4b (e:=e) hI ho rows hc
       exact g1.rep (o:=0) (zB hel) g3 (fun p hp=>by rw[Nat.zero_add];exact g2 p hp)
      |_=>
       rcases hI.jO.objs _ _ ho with hq |⟨wP,cur,e2,i2,hq,_⟩<;>rw[hc]at hq<;>cases hq
     ·simp at hel
    ·simp at h
   ·simp at h
  ·simp at h
 ·rename_i id iO off len
  split at h
  ·rename_i le
   split at h
   ·rename_i v' l' c ho
    split at h
    ·rename_i hb
     simp only[Bool.and_eq_true]at hb
     obtain rfl:=Nat.eq_of_beq_eq_true hb.1
     obtain rfl:=L.beq_eq hb.2
     simp only[Option.some.injEq]at h
     subst h
     simp only[elB]at hel
     split at hel
     ·rename_i e
      refine ⟨_,rfl, ?_⟩
      rcases hI.jO.objs _ _ ho with hq |⟨rows,cur,e2,i2,hq,_⟩
      ·subst hq;exact (hv.aNt ho).elim
      ·subst hq
       obtain ⟨ad,cap,rfl,h1,h2,h3⟩:=hv.a2w ho
       obtain ⟨cells,g1,g2,g3⟩:=a4b (e:=e) hI ho rows rfl
       have hlen:((rows.drop off).take len).length=len:=by simp;omega
       have hL:=zB hel
       simp only[C.rows]
       by_cases hz:len=0
       ·subst hz
        have:(rows.drop off).take 0=[]:=by simp
        rw[this]
        exact .sl (fun _ _=>undef) hL rfl (by omega) (by simp) (fun h=>absurd rfl h) (fun i j hi _=>by omega) (fun i j k hi _=>by omega)
       ·rw[h3 hz]
        have aGm:=qC.rep (P:=P) (T:=T) (S:=xA.all S0 w0 w) (l:=le) (cells:=cells.drop (off*le.n)) (rows:=(rows.drop off).take len) (e:=e) (b:=pl.blk id) (o:=off*le.n) (cap:=cap)
         ⟨by
           have:=g1.len
           rw[hlen,List.length_drop]
           have hm:=Nat.mul_le_mul_right le.n h2
           rw[Nat.add_mul]at hm;omega,fun i r hi=>by
           have hi':=(List.getElem?_eq_some_iff.1 hi).1
           rw[hlen]at hi'
           have hr:rows[off+i]? =some r:=by
            rw[List.getElem?_take,if_pos hi',List.getElem?_drop]at hi;exact hi
           have:=g1.row (off+i) r hr
           rw[List.drop_drop,←Nat.add_mul];exact this⟩ hL (by rw[hlen];exact h1) (fun p hp=>by
           rw[hlen]at hp
           have hm:=Nat.mul_le_mul_right le.n h2
           rw[Nat.add_mul]at hm
           rw[g2 (off*le.n+p) (by omega)]
           simp[List.getD_eq_getElem?_getD])
        rw[hlen]at aGm
        exact aGm
     ·simp at hel
    ·simp at h
   ·simp at h
  ·simp at h
 ·simp at h
def aKm (P:Program):List ResultVar→List L→List (Bool×Nat×Option L)→Bool
 |[],[],[]=>true
 | .tmp t::rv,l::ls,(false,t',ol)::r=>Nat.beq t t'&&elB P l ol&&aKm P rv ls r
 | .cell a t::rv,l::ls,(true,a',ol)::r=>Nat.beq a a'&&aGk P t l&&Nat.blt 0 l.n&&elB P l ol&&aKm P rv ls r
 |_,_,_=>false
def aE7 (tmps:Array Value):ResultVar→Sem Value
 | .tmp t=>pure (tmps.getD t undef)
 | .cell a t=>do loadVar t (←asAddr (tmps.getD a undef))
theorem aXT (hI:Inv P T (aGq S0 w0 n) S pl St F a w):∀(rvs:List ResultVar) (ls:List L) (rs:List (Bool×Nat×Option L)) (out:List Row),aKm P rvs ls rs=true→aYG F St ls rs=some out→
 ∃vs,(rvs.mapM (aE7 a.tmps)).run P w= .ok vs w∧cE P T (xA.all S0 w0 w) ls vs out
 |[],[],[],out,_,h=>by
  simp only[aYG,Option.some.injEq]at h
  subst h
  exact ⟨[],by simp,.nil⟩
 |rv::rvs,l::ls,(cell,t,ol)::rs,out,hok,h=>by
  simp only[aYG]at h
  split at h
  ·rename_i ra rb ha hb
   simp only[Option.some.injEq]at h
   subst h
   have step:∀v,(aE7 a.tmps rv).run P w= .ok v w→zE P T (xA.all S0 w0 w) l v ra→aKm P rvs ls rs=true→
    ∃vs,((rv::rvs).mapM (aE7 a.tmps)).run P w= .ok vs w∧cE P T (xA.all S0 w0 w) (l::ls) vs (ra::rb):=by
    intro v hr aGm hok
    obtain ⟨vs,h1,h2⟩:=aXT hI rvs ls rs rb hok hb
    exact ⟨v::vs,by rw[List.mapM_cons];simp[hr,h1],.cons aGm h2⟩
   cases cell with
   |false=>
    cases rv with
    |tmp t'=>
     simp only[aKm,Bool.and_eq_true]at hok
     obtain rfl:=Nat.eq_of_beq_eq_true hok.1.1
     exact step _ (by simp[aE7]) (aRW hI hok.1.2 (hI.frame _) ha) hok.2
    |cell _ _=>simp[aKm]at hok
   |true=>
    cases rv with
    |tmp t'=>simp[aKm]at hok
    |cell a' ty=>
     simp only[aKm,Bool.and_eq_true]at hok
     obtain ⟨⟨⟨⟨k1,k2⟩,k3⟩,k4⟩,k5⟩:=hok
     obtain rfl:=Nat.eq_of_beq_eq_true k1
     have hpos:0<l.n:=by simpa using k3
     have hL:=zB k2
     have run:∀(id:Nat) (cur:Array Value) (e:TypeId),w.heap[pl.blk id]? =some (.cells cur e (0,0))→cur.size=l.n→a.tmps.getD a' undef= .pointer (some ⟨pl.blk id,0,none⟩)→
      (aE7 a.tmps (.cell a' ty)).run P w= .ok (mkV l fun j=>cur.toList.getD j undef) w:=by
      intro id cur e hh hsz aK5
      have hrun:=gV (P:=P) hL ⟨pl.blk id,0,none⟩ rfl w (fun j=>cur.toList.getD j undef) hpos (fun j hj=>by
       simp only[Nat.zero_add]
       rw[cell_of_row w _ _ _ _ _ hh]
       have hjc:j<cur.size:=by omega
       simp[List.getD_eq_getElem?_getD,hjc])
      have hp':a.tmps[a']?.getD undef= .pointer (some ⟨pl.blk id,0,none⟩):=by simpa using aK5
      simp[aE7,hp',asAddr,hrun]
     simp only at ha
     split at ha
     ·rename_i id hg
      have hv:=hI.frame a'
      rw[hg]at hv
      split at ha
      ·rename_i l' row ho
       split at ha
       ·rename_i hlb
        obtain rfl:=L.beq_eq hlb
        simp only[Option.some.injEq]at ha
        subst ha
        obtain ⟨cur,e,hh,hr⟩:=hI.jO.objs _ _ ho
        have hrm:=hr.mono hI.aRV
        exact step _ (run id cur e hh (by have:=hr.sL;simpa[L.n]using this) (hv.aUL ho)) (zE.mk hrm.aB1 hrm.cell) k5
       ·simp at ha
      ·rename_i c vs ho
       obtain ⟨cur,e,hh,hsz,hr,hr1⟩:=hI.jO.objs _ _ ho
       split at ha
       ·rename_i ks
        have bJw:iB P T S pl St (.agg vs) (.agg cur):= .aUU hsz (fun i hi=>hr1 i hi) hr
        have aGm:=aRW hI (ol:=none) rfl bJw ha
        obtain ⟨cs,hcs,hrr⟩:=aGm
        simp only[Value.agg.injEq]at hcs
        subst hcs
        have hcl:cur.size=(L.agg ks).n:=by have:=hrr.sL;simpa[L.n,L.ks]using this
        refine step _ (run id cur e hh hcl (hv.zO ho)) ?_ k5
        exact zE.mk (l:= .agg ks) hrr.aB1 (fun j k hj=>by simpa[List.getD_eq_getElem?_getD]using hrr.cell j k hj)
       ·rename_i k v
        have aGm:=aRW hI k4 (hr 0 v rfl) ha
        refine step _ (run id cur e hh (by rw[hsz];rfl) (hv.zO ho)) ?_ k5
        simpa[mkV,List.getD_eq_getElem?_getD]using aGm
       ·simp at ha
      ·simp at ha
     ·simp at ha
  ·simp at h
 |[],[],_::_,_,h,_=>by simp[aKm]at h
 |[],_::_,[],_,h,_=>by simp[aKm]at h
 |[],_::_,_::_,_,h,_=>by simp[aKm]at h
 |_::_,[],[],_,_,h=>by simp_all[aYG,aKm]
 |_::_,[],_::_,_,_,h=>by simp[aYG]at h
 |_::_,_::_,[],_,_,h=>by simp[aYG]at h
def nB (P:Program) (T:Nat→yF) (f:Nat) (af:nC):Bool:=
 match P.funcs[f]? with
 |some fn=>(fn.name != "runtime.NumGoroutine")&&(match fn.body with |some c=>cG P T fn.ntmps 0 af.body c |none=>false)&&Nat.ble af.ps.length fn.ntmps&&aKm P fn.results.toList af.rs af.res
 |none=>false
theorem cE.tail {l ls v vs row rows} (h:cE P T S (l::ls) (v::vs) (row::rows)):cE P T S ls vs rows:=
 ⟨by simpa using h.aNw,by simpa using h.aB1,fun i l' hi=>by simpa[aA]using h.arg (i+1) l' (by simpa using hi)⟩
theorem aXU:∀(ls:List L) (rows:List Row) (vs:List Value) (j:Nat),cE P T S ls vs rows→∀t val,(j≤t→t<j+ls.length→val=vs.getD (t - j) undef)→iB P T S pl [] ((frame ls rows j).get t) val
 |[],_,_,_,_,t,val,_=> .undef
 |l::ls,[],_,_,h,_,_,_=>by have:=h.aB1;simp at this
 |l::ls,_::_,[],_,h,_,_,_=>by have:=h.aNw;simp at this
 |l::ls,row::rows,v::vs,j,h,t,val,hval=>by
  simp only[frame,Fr.aE6,List.headD_cons,List.tail_cons]
  by_cases e:j=t
  ·subst e
   rw[if_pos rfl]
   have hv:=hval (Nat.le_refl _) (by simp)
   have h0:=h.arg 0 l rfl
   simp only[aA,List.getD_cons_zero]at h0
   simp only[Nat.sub_self,List.getD_cons_zero]at hv
   rw[hv,h0.nrm];exact .d h0
  ·rw[if_neg e]
   refine aXU ls rows vs (j+1) h.tail t val (fun h1 h2=> ?_)
   rw[hval (by omega) (by simp;omega)]
   have:t - j=(t - (j+1))+1:=by omega
   rw[this,List.getD_cons_succ]
theorem results_eq (fn:Func) (tmps:Array Value):results fn tmps=(do let vs ←fn.results.mapM (aE7 tmps);pure (if h:vs.size=1 then vs[0]else .tuple vs)):=by
 unfold results
 have:(fun x:ResultVar=>aE7 tmps x)=aE7 tmps:=rfl
 congr 1
theorem a5t {f:Nat} {af:nC} {rows out:List Row} {S0:xA} {w0:World} {vs:List Value} (hm:P.follows .mixedOrders=true) (hpc:aQt P T E) (a7u:a4a E.fix) (hok:nB P T f af=true) (h:yC E af rows=some out)
 (h0:mD S0 w0) (hgl:qO P T S0) (hgz:fN T w0) (hargs:cE P T S0 af.ps vs rows):
 (callFunc f vs.toArray).run P w0= .ok (.enter f vs.toArray) w0∧
 Calls P f vs.toArray w0 fun e w'=>∃out' S',e= .returned (aPm out')∧Grow (fun _=>False) S0 w0 S' w'∧mD S' w'∧cE P T S' af.rs out' out:=by
 unfold nB at hok
 split at hok
 ·rename_i fn hfn
  simp only[Bool.and_eq_true]at hok
  obtain ⟨⟨⟨hname,hbody⟩,hle⟩,hres⟩:=hok
  split at hbody
  ·rename_i c hc
   have hle:af.ps.length≤fn.ntmps:=by simpa using hle
   have hname:¬fn.name= "runtime.NumGoroutine" :=by simpa using hname
   refine ⟨by simp[callFunc,hfn,hname,hc], ?_⟩
   have hvl:=hargs.aNw
   have hI:Inv P T (aGq S0 w0 fn.ntmps) S0 ⟨fun _=>0,fun _=>0⟩ [] (frame af.ps rows 0) {tmps:=vs.toArray++Array.replicate (fn.ntmps - vs.toArray.size) undef,defers:=[]} w0:=by
    refine ⟨⟨h0,fun id o h=>by simp at h,fun id o h=>by simp at h,fun i j o o' h=>by simp at h,hgl,fun g t l row e=>⟨hgz g t l row e,fun id o h=>by simp at h⟩⟩,fun t=> ?_,by simp;omega,rfl,.refl _ _ _,fun b hb=>(by obtain ⟨id,o,h,_⟩:=hb;simp at h),fun _ _ h=>h.elim⟩
    refine aXU af.ps rows vs 0 hargs t _ (fun _ h2=> ?_)
    have h2:t<vs.length:=by omega
    simp[Array.getElem?_append,h2]
   unfold yC at h
   split at h
   ·refine calls_of_wp hfn hc (aVd hm hpc a7u af.body c hbody hI h (fun e F St S pl a w hI h=> ?_))
    have fin:aYG F St af.rs af.res=some out→a.defers=[]∧∃v,(results fn a.tmps).run P w= .ok v w∧(∃out' S',(Ending.returned v)= .returned (aPm out')∧Grow (fun _=>False) S0 w0 S' w∧mD S' w∧cE P T S' af.rs out' out):=by
     intro h
     obtain ⟨vs',h1,h2⟩:=aXT hI fn.results.toList af.rs af.res out hres h
     refine ⟨hI.defers,aPm vs', ?_,vs',_,rfl,hI.a7v h0,hI.a7w,h2⟩
     have hq:(fn.results.mapM (aE7 a.tmps)).run P w= .ok vs'.toArray w:=by
      rw[Array.mapM_eq_mapM_toList]
      simp[h1]
     rw[results_eq,Sem.run_bind,hq]
     simp only[Result.andThen_ok,Sem.run_pure]
     match vs' with
     |[]=>rfl
     |[v]=>rfl
     |_::_::_=>rfl
    cases e with
    |normal=>exact fin h
    |exit id=>simp at h
    |ret=>exact fin h
   ·simp at h
  ·simp at hbody
 ·simp at hok
def aIA (P:Program) (T:Nat→yF) (f:Nat) (ps rs:List L) (g:List Row→Option (List Row)):Prop:=
 ∀rows out,g rows=some out→∀S w vs,mD S w→qO P T S→fN T w→cE P T S ps vs rows→
  (callFunc f vs.toArray).run P w= .ok (.enter f vs.toArray) w∧
  Calls P f vs.toArray w fun e w'=>∃out' S',e= .returned (aPm out')∧Grow (fun _=>False) S w S' w'∧mD S' w'∧cE P T S' rs out' out
def aS9 (P:Program):ResultVar→a2q→Bool
 | .tmp t,.tmp t'=>Nat.beq t t'
 | .cell a t,.var a' l=>Nat.beq a a'&&aGk P t l&&Nat.blt 0 l.n
 | .cell a t,.cells a' n=>Nat.beq a a'&&a6R P t n
 | .cell a t,.a6x a'=>Nat.beq a a'&&a0j P t
 |_,_=>false
def a5u (P:Program):List ResultVar→List a2q→Bool
 |[],[]=>true
 |rv::rvs,r::rs=>aS9 P rv r&&a5u P rvs rs
 |_,_=>false
def aQC:List (Nat×Sh)→Nat→Bool
 |[],_=>true
 |(n,_)::r,i=>Nat.beq n i&&aQC r (i+1)
def jN (P:Program) (T:Nat→yF) (af:o8):Bool:=
 match P.funcs[af.fn]? with
 |some fn=>(fn.name != "runtime.NumGoroutine")&&(match fn.body with |some c=>cG P T fn.ntmps af.entry.objs.length af.body c |none=>false)&&Nat.ble af.entry.slots.length fn.ntmps&&aQC af.entry.slots 0&&a5u P fn.results.toList af.res&&Nat.ble af.entry.objs.length af.exit.m&&aKb af.entry.objs af.exit.objs
 |none=>false
theorem aVe:∀(ss:List (Nat×Sh)) (ps:List PV) (i:Nat),aQC ss i=true→∃dM r,aM6 (ss.map (·.2)) ps=(dM,r)∧(sK ss ps).2=r∧dM.length=ss.length∧
 ∀t,(sK ss ps).1.get t=if i≤t∧t<i+ss.length then dM.getD (t - i) .undef else .undef
 |[],ps,i,_=>⟨[],ps,rfl,rfl,rfl,fun t=>by
    simp only[sK,List.length_nil]
    rw[if_neg (by omega)];rfl⟩
 |(n,s)::ss,ps,i,h=>by
  simp only[aQC,Bool.and_eq_true]at h
  obtain rfl:=Nat.eq_of_beq_eq_true h.1
  obtain ⟨dM,r,h1,h2,h3,h4⟩:=aVe ss (unV s ps).2 (n+1) h.2
  refine ⟨(unV s ps).1::dM,r, ?_, ?_,by simp[h3],fun t=> ?_⟩
  ·simp only[List.map_cons,aM6,h1]
  ·simp only[sK,h2]
  ·simp only[sK,Fr.aE6]
   by_cases e:n=t
   ·subst e
    rw[if_pos rfl,if_pos (by simp)]
    simp
   ·rw[if_neg e,h4 t]
    by_cases h5:n+1≤t∧t<n+1+ss.length
    ·rw[if_pos h5,if_pos (by simp only[List.length_cons];omega)]
     have:t - n=(t - (n+1))+1:=by omega
     rw[this,List.getD_cons_succ]
    ·rw[if_neg h5,if_neg (by simp only[List.length_cons];omega)]
theorem aY8 {Γ:Ctx} (hI:Inv P T Γ S pl St F a w) {rv:ResultVar} {r:a2q} {av:AV} (hok:aS9 P rv r=true) (h:aRB F St r=some av):
 ∃v,(aE7 a.tmps rv).run P w= .ok v w∧iB P T S pl St av v:=by
 have addr:∀{a' id:Nat} {o:Obj},F.get a'= .ptr id 0→St[id]? =some o→((∃l row,o= .var l row)∨∃c vs,o= .cells c vs)→a.tmps[a']?.getD undef= .pointer (some ⟨pl.blk id,0,none⟩):=by
  intro a' id o hg ho hk
  have hv:=hI.frame a'
  rw[hg]at hv
  simpa using hv.aUR ho hk
 cases rv with
 |tmp t=>
  cases r with
  |tmp t'=>
   simp only[aS9]at hok
   obtain rfl:=Nat.eq_of_beq_eq_true hok
   simp only[aRB,Option.some.injEq]at h
   subst h
   exact ⟨_,by simp[aE7],hI.frame t⟩
  |_=>simp[aS9]at hok
 |cell a' t=>
  cases r with
  |tmp t'=>simp[aS9]at hok
  |var a2 l=>
   simp only[aS9,Bool.and_eq_true]at hok
   obtain rfl:=Nat.eq_of_beq_eq_true hok.1.1
   have hL:=zB hok.1.2
   have hpos:0<l.n:=by simpa using hok.2
   simp only[aRB]at h
   split at h
   ·rename_i id hg
    split at h
    ·rename_i l' row ho
     split at h
     ·rename_i hb
      obtain rfl:=L.beq_eq hb
      simp only[Option.some.injEq]at h
      subst h
      obtain ⟨cur,e,hh,hr⟩:=hI.jO.objs _ _ ho
      have hsz:cur.size=l.n:=by have:=hr.sL;simpa[L.n]using this
      have hrun:=gV (P:=P) hL ⟨pl.blk id,0,none⟩ rfl w (fun j=>cur.toList.getD j undef) hpos (fun j hj=>by
       simp only[Nat.zero_add]
       rw[cell_of_row w _ _ _ _ _ hh]
       have hjc:j<cur.size:=by omega
       simp[List.getD_eq_getElem?_getD,hjc])
      refine ⟨mkV l fun j=>cur.toList.getD j undef,by simp[aE7,addr hg ho (.inl ⟨_,_,rfl⟩),asAddr,hrun],.d (zE.mk hr.aB1 hr.cell)⟩
     ·simp at h
    ·simp at h
   ·simp at h
  |cells a2 n=>
   simp only[aS9,Bool.and_eq_true]at hok
   obtain rfl:=Nat.eq_of_beq_eq_true hok.1
   obtain ⟨g1,g2⟩:=aUT hok.2 w
   simp only[aRB]at h
   split at h
   ·rename_i id hg
    split at h
    ·rename_i c vs ho
     split at h
     ·rename_i hb
      have hn:=Nat.eq_of_beq_eq_true hb
      simp only[Option.some.injEq]at h
      subst h
      obtain ⟨cur,e,hh,hsz,hr,hr1⟩:=hI.jO.objs _ _ ho
      have aQn:=run_loadCells_list (P:=P) w ⟨pl.blk id,0,none⟩ cur.toList (fun j u hj=>by
       rw[add_eq _ rfl,cell_of_row w _ _ _ _ _ hh,Nat.zero_add];simpa using hj)
      have hcl:cur.toList.length=n:=by simpa[hsz]using hn
      rw[hcl]at aQn
      refine ⟨.agg cur,by simp[aE7,addr hg ho (.inr ⟨_,_,rfl⟩),asAddr,loadVar,g1,g2,aQn],.aUU hsz (fun i hi=>hr1 i hi) hr⟩
     ·simp at h
    ·simp at h
   ·simp at h
  |a6x a2=>
   simp only[aS9,Bool.and_eq_true]at hok
   obtain rfl:=Nat.eq_of_beq_eq_true hok.1
   simp only[aRB]at h
   split at h
   ·rename_i id hg
    split at h
    ·rename_i c v ho
     simp only[Option.some.injEq]at h
     subst h
     obtain ⟨cur,e,hh,hsz,hr,hr1⟩:=hI.jO.objs _ _ ho
     have hlt:0<cur.size:=by rw[hsz];simp
     refine ⟨cur.toList.getD 0 undef, ?_,by simpa using hr 0 v rfl⟩
     simp only[aE7,asAddr,Sem.run_bind]
     have hp:=addr hg ho (.inr ⟨_,_,rfl⟩)
     have hp':a.tmps.getD a' undef= .pointer (some ⟨pl.blk id,0,none⟩):=by simpa using hp
     rw[hp']
     simp only[Sem.run_pure,Result.andThen_ok,loadVar,Sem.run_bind,aSN hok.2,Bool.false_eq_true,if_false,run_load,aRE hh hlt]
    ·simp at h
   ·simp at h
theorem aO2 {Γ:Ctx} (hI:Inv P T Γ S pl St F a w):∀(rvs:List ResultVar) (rs:List a2q) (dM:List AV),a5u P rvs rs=true→aOh F St rs=some dM→
 ∃vs,(rvs.mapM (aE7 a.tmps)).run P w= .ok vs w∧vs.length=dM.length∧∀i av,dM[i]? =some av→iB P T S pl St av (vs.getD i undef)
 |[],[],dM,_,h=>by
  simp only[aOh,Option.some.injEq]at h
  subst h
  exact ⟨[],by simp,rfl,fun i av h=>by simp at h⟩
 |rv::rvs,r::rs,dM,hok,h=>by
  simp only[a5u,Bool.and_eq_true]at hok
  simp only[aOh]at h
  split at h
  ·rename_i u us h1 h2
   simp only[Option.some.injEq]at h
   subst h
   obtain ⟨v,e1,e2⟩:=aY8 hI hok.1 h1
   obtain ⟨vs,g1,g2,g3⟩:=aO2 hI rvs rs us hok.2 h2
   refine ⟨v::vs,by rw[List.mapM_cons];simp[e1,g1],by simp[g2],fun i av hi=> ?_⟩
   cases i with
   |zero=>simp at hi;subst hi;simpa using e2
   |succ i=>simpa using g3 i av (by simpa using hi)
  ·simp at h
 |[],_::_,_,h,_=>by simp[a5u]at h
 |_::_,[],_,h,_=>by simp[a5u]at h
def a2Q (P:Program) (T:Nat→yF) (S:xA) (pl:Pl) (St:Ev.St) (w:World) (n:Nat):Ctx:=
 ⟨wW pl St,S,w,n,St.length,fun av v=>iB P T S pl St av v∧∃id,id<St.length∧(av= .map id∨av= .tE id∨∃off,av= .ptr id off),fun av v h=>h.2⟩
theorem a5v {af:o8} {ps ps':List PV} (hm:P.follows .mixedOrders=true) (hpc:aQt P T E) (a7u:a4a E.fix) (hok:jN P T af=true) (h:aCg E af ps=some ps')
 {dM:List AV} {r:List PV} {vals:Nat→Value} (hun:aM6 (af.entry.slots.map (·.2)) ps=(dM,r)) (hSt:St=aKa af.entry.objs r) (hs:vW P T S pl St w) (hv:∀i av,dM[i]? =some av→iB P T S pl St av (vals i)):
 (callFunc af.fn ((List.range dM.length).map vals).toArray).run P w= .ok (.enter af.fn ((List.range dM.length).map vals).toArray) w∧
 Calls P af.fn ((List.range dM.length).map vals).toArray w fun e w'=>∃(S2:xA) (yM:Pl) (St2:Ev.St) (aQs:List AV) (r2:List PV) (out:List Value),
  aM6 (af.exit.slots.map (·.2)) ps'=(aQs,r2)∧St2=aKa af.exit.objs r2∧e= .returned (aPm out)∧out.length=aQs.length∧
  vW P T S2 yM St2 w'∧Grow (wW pl St) S w S2 w'∧(∀i av,aQs[i]? =some av→iB P T S2 yM St2 av (out.getD i undef))∧
  (∀b,wW yM St2 b→wW pl St b∨w.heap.size≤b)∧
  (∀(j:Nat) (o o':Obj),St[j]? =some o→St2[j]? =some o'→((∃l row,o'= .var l row)∨(∃c vs,o'= .cells c vs)∨∃kl vl es,o'= .map kl vl es)→yM.blk j=pl.blk j)∧aUm pl St yM St2:=by
 unfold jN at hok
 split at hok
 ·rename_i fn hfn
  simp only[Bool.and_eq_true]at hok
  obtain ⟨⟨⟨⟨⟨⟨hname,hbody⟩,hle⟩,bJx⟩,hres⟩,hlen⟩,xT⟩:=hok
  split at hbody
  ·rename_i c hc
   have hle:af.entry.slots.length≤fn.ntmps:=by simpa using hle
   have hname:¬fn.name= "runtime.NumGoroutine" :=by simpa using hname
   refine ⟨by simp[callFunc,hfn,hname,hc], ?_⟩
   obtain ⟨bJt,r',u1,u2,u3,u4⟩:=aVe af.entry.slots ps 0 bJx
   rw[hun]at u1
   simp only[Prod.mk.injEq]at u1
   obtain ⟨rfl,rfl⟩:=u1
   have hSl:St.length=af.entry.objs.length:=by rw[hSt,aIy]
   have hI:Inv P T (a2Q P T S pl St w fn.ntmps) S pl St (sK af.entry.slots ps).1 {tmps:=((List.range dM.length).map vals).toArray++Array.replicate (fn.ntmps - ((List.range dM.length).map vals).toArray.size) undef,defers:=[]} w:=by
    refine ⟨hs,fun t=> ?_,by simp[a2Q];omega,rfl,.refl _ _ _,fun b hb=> .inl hb,fun _ _ hq=>hq.1⟩
    rw[u4 t]
    by_cases ht:0≤t∧t<0+af.entry.slots.length
    ·rw[if_pos ht,Nat.sub_zero]
     have htl:t<dM.length:=by omega
     have:=hv t (dM[t]) (List.getElem?_eq_getElem htl)
     have e1:dM.getD t .undef=dM[t]:=by simp[List.getD_eq_getElem?_getD,htl]
     rw[e1]
     have e2:((((List.range dM.length).map vals).toArray++Array.replicate (fn.ntmps - ((List.range dM.length).map vals).toArray.size) undef).getD t undef)=vals t:=by
      simp[Array.getElem?_append,htl]
     rw[e2];exact this
    ·rw[if_neg ht];exact .undef
   unfold aCg unpack at h
   have hsplit:sK af.entry.slots ps=((sK af.entry.slots ps).1,(sK af.entry.slots ps).2):=rfl
   rw[hsplit]at h
   simp only[u2,←hSt]at h
   refine calls_of_wp hfn hc (aVd (Γ:=a2Q P T S pl St w fn.ntmps) hm hpc a7u af.body c (by show cG P T fn.ntmps St.length af.body c=true;rw[hSl];exact hbody) hI h (fun e F2 St2 S2 yM a2 w2 hI2 h2=> ?_))
   have fin:((aOh F2 St2 af.res).bind fun vs=>aQb af.exit vs St2)=some ps'→a2.defers=[]∧∃v,(results fn a2.tmps).run P w2= .ok v w2∧(∃(S2:xA) (yM:Pl) (St2:Ev.St) (aQs:List AV) (r2:List PV) (out:List Value),
    aM6 (af.exit.slots.map (·.2)) ps'=(aQs,r2)∧St2=aKa af.exit.objs r2∧Ending.returned v= .returned (aPm out)∧out.length=aQs.length∧
    vW P T S2 yM St2 w2∧Grow (wW pl St) S w S2 w2∧(∀i av,aQs[i]? =some av→iB P T S2 yM St2 av (out.getD i undef))∧
    (∀b,wW yM St2 b→wW pl St b∨w.heap.size≤b)∧
    (∀(j:Nat) (o o':Obj),St[j]? =some o→St2[j]? =some o'→((∃l row,o'= .var l row)∨(∃c vs,o'= .cells c vs)∨∃kl vl es,o'= .map kl vl es)→yM.blk j=pl.blk j)∧aUm pl St yM St2):=by
    intro h3
    obtain ⟨rvs,h4,h5⟩:=Option.bind_eq_some_iff.1 h3
    obtain ⟨out,g1,g2,g3⟩:=aO2 hI2 fn.results.toList af.res rvs hres h4
    have hlen:af.entry.objs.length≤af.exit.m:=by simpa using hlen
    obtain ⟨ids,aQs,r2,St3,k1,k2,k3,_,bNT,k4,k5,k6,k8,k7⟩:=aS7 (vals:=fun i=>out.getD i undef) hI2.jO g3 h5
    refine ⟨hI2.defers,aPm out, ?_,S2,yM.sub ids,St3,aQs,r2,out,k1,k2,rfl,by omega,k4,hI2.grow,k5,fun b hb=>hI2.zZ b (k6 b hb),fun j o o' hj hj' hk=> ?_,fun j o l c i av hj hj'=> ?_⟩
    ·have hq:(fn.results.mapM (aE7 a2.tmps)).run P w2= .ok out.toArray w2:=by
      rw[Array.mapM_eq_mapM_toList]
      simp[g1]
     rw[results_eq,Sem.run_bind,hq]
     simp only[Result.andThen_ok,Sem.run_pure]
     match out with
     |[]=>rfl
     |[v]=>rfl
     |_::_::_=>rfl
    ·
     have hjl:j<St.length:=(List.getElem?_eq_some_iff.1 hj).1
     obtain ⟨s1,q1,q2⟩:=aGn _ _ j o (by rw[←hSt];exact hj)
     obtain ⟨s2,q3,q4⟩:=aGn _ _ j o' (by rw[←k2];exact hj')
     obtain ⟨_,t1,t2,t3,t4,t5⟩:=aKj xT q1 q3
     obtain ⟨o2,d1,d2⟩:=k7 j o' hj'
     obtain ⟨_,hjj⟩:=k8 j (by omega)
     have hsub:(yM.sub ids).blk j=yM.blk j:=by show yM.blk (ids.getD j 0)=_;rw[hjj]
     rw[hjj]at d1
     rw[hsub]
     rcases hk with ⟨l,row,rfl⟩|⟨c,vs,rfl⟩|⟨kl,vl,es,rfl⟩
     ·have ho:∃l row,o= .var l row:=by
       cases s2 with
       |var l2=>obtain ⟨l0,rfl⟩:=t1 _ rfl;obtain ⟨a68,rfl⟩:=q2;exact ⟨_,_,rfl⟩
       |cells c vs=>cases vs with
        |nil=>cases q4
        |cons _ _=>obtain ⟨_,q⟩:=q4;cases q
       |arr l=>obtain ⟨_,q⟩:=q4;cases q
       |map kl vl=>obtain ⟨_,q⟩:=q4;cases q
       |zA e l=>obtain ⟨_,q⟩:=q4;cases q
       |tE l s=>obtain ⟨_,_,_,q⟩:=q4;cases q
      obtain ⟨l0,a68,rfl⟩:=ho
      have hr:=hI2.kept (.ptr j 0) (.pointer (some ⟨pl.blk j,0,none⟩)) ⟨.aUh hj rfl,j,hjl,.inr (.inr ⟨0,rfl⟩)⟩
      obtain ⟨l1,bJy,rfl⟩:=d2.2.1 _ _ rfl
      have:=hr.aUL d1
      simp at this;exact this.symm
     ·have ho:∃c vs,o= .cells c vs:=by
       cases s2 with
       |cells c2 vs2=>cases vs2 with
        |nil=>cases q4
        |cons v2 vs2=>
         obtain ⟨c0,v0,vs0,rfl⟩:=t2 _ _ _ rfl
         obtain ⟨vs1,rfl⟩:=q2;exact ⟨_,_,rfl⟩
       |var l=>obtain ⟨_,q⟩:=q4;cases q
       |arr l=>obtain ⟨_,q⟩:=q4;cases q
       |map kl vl=>obtain ⟨_,q⟩:=q4;cases q
       |zA e l=>obtain ⟨_,q⟩:=q4;cases q
       |tE l s=>obtain ⟨_,_,_,q⟩:=q4;cases q
      obtain ⟨l0,a68,rfl⟩:=ho
      have hr:=hI2.kept (.ptr j 0) (.pointer (some ⟨pl.blk j,0,none⟩)) ⟨.aOi hj rfl,j,hjl,.inr (.inr ⟨0,rfl⟩)⟩
      obtain ⟨l1,bJy,rfl⟩:=d2.2.2.1 _ _ rfl
      have:=hr.zO d1
      simp at this;exact this.symm
     ·have ho:∃kl vl es,o= .map kl vl es:=by
       cases s2 with
       |map kl2 vl2=>obtain ⟨kl0,vl0,rfl⟩:=t4 _ _ rfl;obtain ⟨es0,rfl⟩:=q2;exact ⟨_,_,_,rfl⟩
       |cells c vs=>cases vs with
        |nil=>cases q4
        |cons _ _=>obtain ⟨_,q⟩:=q4;cases q
       |var l=>obtain ⟨_,q⟩:=q4;cases q
       |arr l=>obtain ⟨_,q⟩:=q4;cases q
       |zA e l=>obtain ⟨_,q⟩:=q4;cases q
       |tE l s=>obtain ⟨_,_,_,q⟩:=q4;cases q
      obtain ⟨kl0,vl0,es0,rfl⟩:=ho
      have h0:iB P T S pl St (.map j) (.map (some (pl.blk j))):= .map rfl hj (by simp) (fun _ _ _ _=>rfl)
      have hr:=hI2.kept (.map j) (.map (some (pl.blk j))) ⟨h0,j,hjl,.inl rfl⟩
      obtain ⟨kl1,vl1,es1,rfl⟩:=d2.2.2.2.2.1 _ _ _ rfl
      cases hr with
      |map z0 z1 z2 z3=>
       rw[d1]at z1;obtain rfl:=Option.some.inj z1
       have:=z3 _ _ _ rfl
       simp at this;exact this.symm
    ·
     have hjl:j<St.length:=(List.getElem?_eq_some_iff.1 hj).1
     obtain ⟨s1,q1,q2⟩:=aGn _ _ j o (by rw[←hSt];exact hj)
     obtain ⟨s2,q3,q4⟩:=aGn _ _ j _ (by rw[←k2];exact hj')
     obtain ⟨_,t1,t2,t3,t4,t5⟩:=aKj xT q1 q3
     obtain ⟨o2,d1,d2⟩:=k7 j _ hj'
     obtain ⟨_,hjj⟩:=k8 j (by omega)
     have hsub:(yM.sub ids).blk j=yM.blk j:=by show yM.blk (ids.getD j 0)=_;rw[hjj]
     have bGV:(yM.sub ids).cap j=yM.cap j:=by show yM.cap (ids.getD j 0)=_;rw[hjj]
     rw[hjj]at d1
     have ho:∃c0 i0 av0,o= .tE l c0 i0 av0:=by
      cases s2 with
      |tE l2 s=>
       obtain ⟨_,_,_,q⟩:=q4
       simp only[Obj.tE.injEq]at q
       obtain ⟨rfl,_⟩:=q
       obtain ⟨s0,rfl⟩:=t5.2.1 _ _ rfl
       exact q2
      |cells c vs=>cases vs with
       |nil=>cases q4
       |cons _ _=>obtain ⟨_,q⟩:=q4;cases q
      |var l=>obtain ⟨_,q⟩:=q4;cases q
      |arr l=>obtain ⟨_,q⟩:=q4;cases q
      |map kl vl=>obtain ⟨_,q⟩:=q4;cases q
      |zA e l=>obtain ⟨_,q⟩:=q4;cases q
     obtain ⟨c0,i0,av0,rfl⟩:=ho
     obtain ⟨av1,rfl⟩:=d2.2.2.2.2.2.2.1 _ _ _ _ rfl
     refine ⟨c0,i0,av0,rfl, ?_⟩
     rw[hsub,bGV]
     rcases hs.objs _ _ hj with rfl |⟨gH,_,_,_,rfl,_⟩
     ·have h0:iB P T S pl St (.tE j) (.slice none 0 0):= .tE rfl hj (by simp) (fun _ _ _ _=>rfl) (fun _ _ _ _ e=>by simp at e)
      have hr:=(hI2.kept (.tE j) _ ⟨h0,j,hjl,.inr (.inl rfl)⟩).aNu d1
      exact ⟨fun _=>rfl,fun rows e=>absurd (hr.2 rows e) (by simp)⟩
     ·have h0:iB P T S pl St (.tE j) (.slice (some ⟨pl.blk j,0,none⟩) gH.length (pl.cap j)):= .tE rfl hj (by simp) (fun _ _ _ e=>by simp at e) (fun _ _ _ _ e=>by simp only[Obj.tE.injEq,C.sl.injEq]at e;rw[e.2.1])
      have hr:=(hI2.kept (.tE j) _ ⟨h0,j,hjl,.inr (.inl rfl)⟩).aNu d1
      refine ⟨fun e=>absurd (hr.1 e) (by simp),fun rows e=>⟨gH,rfl, ?_⟩⟩
      have:=hr.2 rows e
      simp at this
      exact ⟨this.2.1,this.1.symm,this.2.2.symm⟩
   cases e with
   |normal=>exact fin h2
   |exit id=>simp at h2
   |ret=>exact fin h2
  ·simp at hbody
 ·simp at hok
def a0Q (P:Program) (T:Nat→yF):Prop:=∀f,match T f with
 | .none=>True
 | .cmp=>aXx P f
 | .ixb=>aXw P f
 | .rR _ _ _=>True
 | .imp af=>jN P T af=true
 | .code af=>nB P T f af=true
 | .given ps rs g=>aIA P T f ps rs g
theorem a7x (T:Nat→yF):∀m,a4a (tC T m).fix
 |0=>fun step ps x h=>by simp[tC]at h
 |m+1=>fun step ps x h=>⟨m+1,h⟩
theorem aOq (hm:P.follows .mixedOrders=true) (hT:a0Q P T):∀m,aQt P T (tC T m)
 |0=>⟨⟨⟨fun f hf=>by have:=hT f;rw[hf]at this;exact this,fun f hf=>by have:=hT f;rw[hf]at this;exact this⟩,fun f rows out ps rs h=>by simp[tC]at h⟩,fun i af hi ps ps' h=>by simp[tC]at h⟩
 |m+1=>by
  refine ⟨⟨⟨fun f hf=>by have:=hT f;rw[hf]at this;exact this,fun f hf=>by have:=hT f;rw[hf]at this;exact this⟩, ?_⟩, ?_⟩
  ·intro f rows out ps rs h aH9 S w vs hst hgl hgz hargs
   have hf:=hT f
   simp only[tC]at h
   cases hTf:T f with
   |none=>rw[hTf]at h;simp at h
   |cmp=>rw[hTf]at h;simp at h
   |ixb=>rw[hTf]at h;simp at h
   |rR _ _ _=>rw[hTf]at h;simp at h
   |imp _=>rw[hTf]at h;simp at h
   |code af=>
    rw[hTf]at h hf aH9
    simp only[yF.sig,Option.some.injEq,Prod.mk.injEq]at aH9
    obtain ⟨rfl,rfl⟩:=aH9
    exact a5t hm (aOq hm hT m) (a7x T m) hf h hst hgl hgz hargs
   |given ps' rs' g=>
    rw[hTf]at h hf aH9
    simp only[yF.sig,Option.some.injEq,Prod.mk.injEq]at aH9
    obtain ⟨rfl,rfl⟩:=aH9
    exact hf rows out h S w vs hst hgl hgz hargs
  ·intro i af hi ps ps' h S pl St w dM r vals hun hSt hs hv
   have hf:=hT i
   rw[hi]at hf
   simp only[tC,hi]at h
   exact a5v hm (aOq hm hT m) (a7x T m) hf h hun hSt hs hv
end Go.Ev
namespace Go.Ev
section
variable {A B:Type}
theorem aTa {F:Fr} {S:St} (ls:List L) (xs:List kD) (k:List Row→Option A):rowsOf F S ls xs k=(rowsOf F S ls xs some).bind k:=by
 rw[iH];rfl
theorem pQ (S:St) (id:Nat) (k:Obj→Option A):aHo S id k=(S[id]?).bind k:=by unfold aHo;split<;>rename_i e<;>rw[e]<;>rfl
theorem aLB (n:Nat) (t:TypeId) (ol:Option L) (F:Fr) (S:St) (k:Fr→St→Option A):aK8 n t ol F S k=(aK8 n t ol F S fun F S=>some (F,S)).bind fun p=>k p.1 p.2:=by
 unfold aK8
 cases ol with
 |some l=>
  simp only
  split
  ·simp only[pQ,Option.bind_assoc]
   congr 1;funext o
   rw[aI]
   congr 1;funext l' c
   rw[kC];rfl
  ·simp only[pQ,Option.bind_assoc]
   congr 1;funext o
   cases o<;>simp only[kC]<;>rfl
  ·rfl
 |none=>
  simp only
  split
  ·simp only[pQ,Option.bind_assoc]
   congr 1;funext o
   cases o<;>rfl
  ·rfl
theorem aND:∀(fz:List (Nat×TypeId×Option L)) (F:Fr) (S:St) (k:Fr→St→Option A),aBy fz F S k=(aBy fz F S fun F S=>some (F,S)).bind fun p=>k p.1 p.2
 |[],F,S,k=>rfl
 |(n,t,ol)::r,F,S,k=>by
  simp only[aBy]
  rw[aLB]
  conv=>rhs;rw[aLB,Option.bind_assoc]
  congr 1;funext p
  rw[aND r]
theorem aTb (g:aSJ) (F:Fr) (S:St) (k:Fr→St→Option A):eN g F S k=(eN g F S fun F S=>some (F,S)).bind fun p=>k p.1 p.2:=by
 cases g with
 |lft n off e l=>
  cases off with
  |none=>
   simp only[eN]
   split
   ·simp only[kC];rfl
   ·rfl
  |some off=>
   simp only[eN]
   split
   ·simp only[pQ,Option.bind_assoc]
    congr 1;funext o
    cases o<;>simp only
    case cells c vs=>
     split
     ·simp only[kC];rfl
     ·rfl
    all_goals rfl
   ·rfl
 |a9F n e l=>simp only[eN];exact aLB _ _ _ _ _ _
 |a9E n off e l=>
  simp only[eN]
  split
  ·simp only[pQ,Option.bind_assoc]
   congr 1;funext o
   cases o<;>simp only
   case cells c vs=>
    split
    ·simp only[kC];rfl
    ·rfl
   all_goals rfl
  ·rfl
 |a9G n l=>
  simp only[eN]
  split
  ·simp only[pQ,Option.bind_assoc]
   congr 1;funext o
   simp only[aI,kC];rfl
  ·rfl
 |a9I n=>
  simp only[eN]
  split
  ·simp only[pQ,Option.bind_assoc]
   congr 1;funext o
   simp only[tK,iY];rfl
  ·rfl
 |a9H n e l=>
  simp only[eN]
  split
  ·simp only[pQ,Option.bind_assoc]
   congr 1;funext o
   simp only[tK]
   congr 1;funext l' rows i av
   split
   ·simp only[pQ,Option.bind_assoc,aI,kC,yI];rfl
   ·rfl
  ·rfl
 |frz n off e l=>
  simp only[eN]
  split
  ·simp only[pQ,Option.bind_assoc]
   congr 1;funext o
   cases o<;>simp only
   case cells c vs=>
    split
    ·simp only[Option.bind_assoc,aI,kC];rfl
    ·rfl
   all_goals rfl
  ·rfl
end
structure Logic (I:Type)where
 R:∀{A:Type},(I→Option A)→Prop
 const:∀{A:Type} (a:Option A),R (fun _=>a)
 bind:∀{A B:Type} (a:I→Option A) (f:I→A→Option B),R a→(∀x,R (fun i=>f i x))→R (fun i=>(a i).bind (f i))
def stepOf (E:Env) (c:rB) (sh:Shape) (outs:List (eB×Shape)):(List PV→Option (Nat×List PV))→List PV→Option (Nat×List PV):=aHp (fun F S k=>vM E c F S k) sh outs
structure aHx {I:Type} (Λ:Logic I) (E:I→Env):Prop where
 pc:∀f r,Λ.R (fun i=>(E i).pc f r)
 ic:∀f r,Λ.R (fun i=>(E i).ic f r)
 fix:∀c sh outs,(∀X:I→List PV→Option (Nat×List PV),(∀ps,Λ.R (fun i=>X i ps))→∀ps,Λ.R (fun i=>stepOf (E i) c sh outs (X i) ps))→∀ps,Λ.R (fun i=>(E i).fix (stepOf (E i) c sh outs) ps)
section
variable {I:Type} {Λ:Logic I} {E:I→Env}
theorem bAg {E E':Env} {F:Fr} {S:St} (o:Obj) (op:oP) (base:Nat) (h1:∀f ps rs xs,op≠ .call f ps rs xs) (h2:∀t ps rs x xs,op≠ .callv t ps rs x xs):rG E F S o op base cB=rG E' F S o op base cB:=by
 cases op<;>first
  |rfl
  |exact absurd rfl (h1 _ _ _ _)
  |exact absurd rfl (h2 _ _ _ _ _)
theorem a4c (hE:aHx Λ E) (F:Fr) (S:St) (o:Obj) (op:oP) (base:Nat):Λ.R (fun i=>rG (E i) F S o op base cB):=by
 by_cases h1:∃f ps rs xs,op= .call f ps rs xs
 ·obtain ⟨f,ps,rs,xs,rfl⟩:=h1
  have:(fun i=>rG (E i) F S o (.call f ps rs xs) base cB)=fun i=>(rowsOf F S ps xs some).bind fun rows=>((E i).pc f rows).bind fun out=>cB (aZ1 rs out) none:=by
   funext i;simp only[rG];rw[aTa]
  rw[this]
  exact Λ.bind _ _ (Λ.const _) fun rows=>Λ.bind _ _ (hE.pc f rows) fun _=>Λ.const _
 ·by_cases h2:∃t ps rs x xs,op= .callv t ps rs x xs
  ·obtain ⟨t,ps,rs,x,xs,rfl⟩:=h2
   simp only[rG]
   split
   ·rename_i t' r e
    cases hb:Nat.beq t t' with
    |false=>simp only[check];exact Λ.const _
    |true=>
     simp only[check]
     have:(fun i=>rowsOf F S ps xs fun rows=>(aMK (E i) (at_ r 0) rows).bind fun out=>cB (aZ1 rs out) none)=fun i=>(rowsOf F S ps xs some).bind fun rows=>(aMK (E i) (at_ r 0) rows).bind fun out=>cB (aZ1 rs out) none:=by
      funext i;rw[aTa]
     rw[this]
     refine Λ.bind _ _ (Λ.const _) fun rows=>Λ.bind _ _ ?_ fun _=>Λ.const _
     unfold aMK
     split
     ·exact hE.pc _ _
     ·exact Λ.const _
   ·exact Λ.const _
  ·have:(fun i=>rG (E i) F S o op base cB)=fun _=>rG ⟨fun _ _=>none,fun _ _=>none,fun _ _=>none⟩ F S o op base cB:=by
    funext i
    exact bAg o op base (fun f ps rs xs e=>h1 ⟨f,ps,rs,xs,e⟩) (fun t ps rs x xs e=>h2 ⟨t,ps,rs,x,xs,e⟩)
   rw[this];exact Λ.const _
theorem bAh (hE:aHx Λ E) (F:Fr) (S:St) (op:oP) (base:Nat):Λ.R (fun i=>op1 (E i) F S op base):=by
 by_cases hc:∃i f en ex ids new x args,op= .aCd i f en ex ids new x args
 ·obtain ⟨j,f,en,ex,ids,new,x,args,rfl⟩:=hc
  simp only[op1,opK]
  have bJz:∀{A:Type} (k:I→List AV→Option A),(∀vs,Λ.R (fun i=>k i vs))→Λ.R (fun i=>dN F f x args (k i)):=by
   intro A k hk
   unfold dN
   cases x with
   |none=>exact hk _
   |some y=>
    simp only
    split
    ·rename_i f' caps e
     cases hb:Nat.beq f f' with
     |false=>simp only[check];exact Λ.const _
     |true=>simp only[check];exact hk _
    ·exact Λ.const _
  refine bJz _ fun vs=> ?_
  generalize (Shape.under ids.length en&&Shape.under (ids++vE (base+new) (ex.objs.length - ids.length)).length ex&&aIq S (vE (base+new) (ex.objs.length - ids.length))&&nodupB (ids++vE (base+new) (ex.objs.length - ids.length))&&Nat.ble ids.length ex.objs.length&&aKb en.objs ex.objs)=b
  cases b with
  |false=>simp only[check];exact Λ.const _
  |true=>
   simp only[check]
   exact Λ.bind _ _ (Λ.const _) fun ps=>Λ.bind _ _ (hE.ic j ps) fun ps'=>Λ.const _
 ·have h1:∀i f en ex ids new x args,op≠ .aCd i f en ex ids new x args:=fun i f en ex ids new x args e=>hc ⟨i,f,en,ex,ids,new,x,args,e⟩
  have:(fun i=>op1 (E i) F S op base)=fun i=>match tgt F op base with
   |none=>(rG (E i) F S .dead op base cB).bind fun x=>some (x.1,[],aIr F op)
   |some id=>(S[id]?).bind fun o=>(rG (E i) F S o op base cB).bind fun x=>some (x.1,a7i id x.2,id::aIr F op):=by
   funext i
   unfold op1
   rw[aDJ h1]
   cases tgt F op base with
   |none=>simp only;rw[aEk]
   |some id=>
    simp only
    rw[pQ]
    congr 1;funext o
    rw[aEk]
  rw[this]
  cases tgt F op base with
  |none=>exact Λ.bind _ _ (a4c hE _ _ _ _ _) fun _=>Λ.const _
  |some id=>exact Λ.bind _ _ (Λ.const _) fun o=>Λ.bind _ _ (a4c hE _ _ _ _ _) fun _=>Λ.const _
theorem aVf {A:Type} (hE:aHx Λ E) (draw:Bool) (base:Nat) (k:I→Fr→St→Option A) (hk:∀F S,Λ.R (fun i=>k i F S)):∀(ops:List rK) (seen:List aRA) (F:Fr) (S:St),Λ.R (fun i=>aIZ (E i) draw base ops seen F S (k i))
 |[],seen,F,S=>hk F S
 |o::rest,seen,F,S=>by
  have skip:∀F:Fr,Λ.R (fun i=>aIZ (E i) draw base rest (match (generalizing:=false) draw with |true=>seen++[([],[])]|false=>[]) (F.put o.dst .und) S (k i)):=fun F=>aVf hE draw base k hk rest _ _ _
  have run:∀F:Fr,Λ.R (fun i=>opK (E i) F S o.op base fun v us rd=>check (!draw ||aCf (us.map (·.1),rd) o.bef seen 0) (aIZ (E i) draw base rest (match (generalizing:=false) draw with |true=>seen++[(us.map (·.1),rd)]|false=>[]) (F.put o.dst v) (zF us S) (k i))):=by
   intro F
   have:(fun i=>opK (E i) F S o.op base fun v us rd=>check (!draw ||aCf (us.map (·.1),rd) o.bef seen 0) (aIZ (E i) draw base rest (match (generalizing:=false) draw with |true=>seen++[(us.map (·.1),rd)]|false=>[]) (F.put o.dst v) (zF us S) (k i)))=
    fun i=>(op1 (E i) F S o.op base).bind fun x=>check (!draw ||aCf (x.2.1.map (·.1),x.2.2) o.bef seen 0) (aIZ (E i) draw base rest (match (generalizing:=false) draw with |true=>seen++[(x.2.1.map (·.1),x.2.2)]|false=>[]) (F.put o.dst x.1) (zF x.2.1 S) (k i)):=by
    funext i;rw[aY4]
   rw[this]
   refine Λ.bind _ _ (bAh hE _ _ _ _) fun x=> ?_
   generalize (!draw ||aCf (x.2.1.map (·.1),x.2.2) o.bef seen 0)=b
   cases b with
   |false=>simp only[check];exact Λ.const _
   |true=>simp only[check];exact aVf hE draw base k hk rest _ _ _
  simp only[aIZ]
  split
  ·exact run F
  ·split
   ·split
    ·split
     ·exact run _
     ·exact skip _
    ·split
     ·exact skip _
     ·exact run _
   ·exact skip _
   ·exact Λ.const _
theorem aVg {A:Type} (k:I→eB→Fr→St→Option A) (hk:∀e F S,Λ.R (fun i=>k i e F S)):∀(outs:List (eB×Shape)) (i0:Nat) (ps:List PV),Λ.R (fun i=>aZ3 (k i) outs i0 ps)
 |[],_,_=>Λ.const _
 |[(e,sh)],_,ps=>by simp only[aZ3,unpack];exact hk _ _ _
 |(e,sh)::b::r,0,ps=>by simp only[aZ3,unpack];exact hk _ _ _
 |(e,sh)::b::r,j+1,ps=>by simp only[aZ3];exact aVg k hk (b::r) j ps
theorem aOr (hE:aHx Λ E):∀(c:rB) {A:Type} (F:Fr) (S:St) (k:I→eB→Fr→St→Option A),(∀e F S,Λ.R (fun i=>k i e F S))→Λ.R (fun i=>vM (E i) c F S (k i)):=by
 intro c
 induction c with
 |skip=>intro A F S k hk;exact hk _ _ _
 |ghost g c ih=>
  intro A F S k hk
  have:(fun i=>vM (E i) (.ghost g c) F S (k i))=fun i=>(eN g F S fun F S=>some (F,S)).bind fun p=>vM (E i) c p.1 p.2 (k i):=by
   funext i;simp only[vM];rw[aTb]
  rw[this]
  exact Λ.bind _ _ (Λ.const _) fun p=>ih _ _ _ hk
 |post g c ih=>
  intro A F S k hk
  simp only[vM]
  refine ih F S _ fun e F S=> ?_
  cases e with
  |normal=>
   have:(fun i=>eN g F S (k i .normal))=fun i=>(eN g F S fun F S=>some (F,S)).bind fun p=>k i .normal p.1 p.2:=by
    funext i;rw[aTb]
   simp only[this]
   exact Λ.bind _ _ (Λ.const _) fun p=>hk _ _ _
  |exit id=>exact hk _ _ _
  |ret=>exact hk _ _ _
 |region fz ops draw n=>
  intro A F S k hk
  have:(fun i=>vM (E i) (.region fz ops draw n) F S (k i))=fun i=>(aBy fz F S fun F S=>some (F,S)).bind fun p=>aIZ (E i) draw p.2.length ops [] p.1 (p.2++List.replicate n .fresh) (k i .normal):=by
   funext i;simp only[vM];rw[aND]
  rw[this]
  exact Λ.bind _ _ (Λ.const _) fun p=>aVf hE _ _ _ (fun F S=>hk _ _ _) _ _ _ _
 |seq a b iha ihb=>
  intro A F S k hk
  simp only[vM]
  refine iha F S _ fun e F S=> ?_
  cases e with
  |normal=>exact ihb F S k hk
  |exit id=>exact hk _ _ _
  |ret=>exact hk _ _ _
 |cond c a b iha ihb=>
  intro A F S k hk
  simp only[vM]
  split
  ·split
   ·exact iha F S k hk
   ·exact ihb F S k hk
  ·exact Λ.const _
 |block id c ih=>
  intro A F S k hk
  simp only[vM]
  refine ih F S _ fun e F S=> ?_
  cases e with
  |normal=>exact hk _ _ _
  |exit id'=>
   simp only
   split
   ·exact hk _ _ _
   ·exact hk _ _ _
  |ret=>exact hk _ _ _
 |loop sh outs c ih=>
  intro A F S k hk
  simp only[vM]
  split
  ·rename_i ps hp
   refine Λ.bind _ _ (hE.fix c sh outs (fun X hX ps=> ?_) ps) fun x=>aVg k hk outs _ _
   simp only[stepOf,aHp,unpack]
   refine ih _ _ _ fun e F S=> ?_
   cases e with
   |normal=>
    simp only
    split
    ·exact hX _
    ·exact Λ.const _
   |exit id=>exact Λ.const _
   |ret=>exact Λ.const _
  ·exact Λ.const _
 |join outs c ih=>
  intro A F S k hk
  simp only[vM]
  exact Λ.bind _ _ (ih F S _ fun e F S=>Λ.const _) fun x=>aVg k hk outs _ _
 |exit id=>intro A F S k hk;exact hk _ _ _
 |ret=>intro A F S k hk;exact hk _ _ _
 |bad=>intro A F S k hk;exact Λ.const _
theorem aVh (hE:aHx Λ E) (f:nC) (rows:List Row):Λ.R (fun i=>yC (E i) f rows):=by
 unfold yC
 split
 ·refine aOr hE _ _ _ _ fun e F S=> ?_
  cases e<;>exact Λ.const _
 ·exact Λ.const _
theorem aVi (hE:aHx Λ E) (f:o8) (ps:List PV):Λ.R (fun i=>aCg (E i) f ps):=by
 unfold aCg unpack
 refine aOr hE _ _ _ _ fun e F S=> ?_
 cases e<;>exact Λ.const _
end
def OLe {A:Type} (a b:Option A):Prop:=∀x,a=some x→b=some x
def aVj:Logic Bool where
 R a:=OLe (a false) (a true)
 const _:=fun _ h=>h
 bind a f ha hf:=fun y h=>by
  obtain ⟨x,h1,h2⟩:=Option.bind_eq_some_iff.1 h
  exact Option.bind_eq_some_iff.2 ⟨x,ha x h1,hf x y h2⟩
theorem aBh {step step':(List PV→Option (Nat×List PV))→List PV→Option (Nat×List PV)} (h:∀X X',(∀ps,OLe (X ps) (X' ps))→∀ps,OLe (step X ps) (step' X' ps)):∀(n m:Nat),n≤m→∀ps,OLe (aDx step n ps) (aDx step' m ps)
 |0,_,_,_=>fun _ h=>by simp[aDx]at h
 |n+1,0,hnm,_=>by omega
 |n+1,m+1,hnm,ps=>h _ _ (aBh h n m (by omega)) ps
theorem aKn (E:Env) (c:rB) (sh:Shape) (outs:List (eB×Shape)) (X X':List PV→Option (Nat×List PV)) (hX:∀ps,OLe (X ps) (X' ps)) (ps:List PV):OLe (stepOf E c sh outs X ps) (stepOf E c sh outs X' ps):=by
 have hR:aHx aVj (fun _:Bool=>E):=⟨fun f r=>aVj.const _,fun f r=>aVj.const _,fun c sh outs h ps=>aVj.const _⟩
 simp only[stepOf,aHp,unpack]
 refine aOr hR c _ _ (fun b e F S=>match e with
  | .normal=>(match pack sh F S with |some ps'=>(match b with |false=>X ps' |true=>X' ps')|none=>none)
  |e=>aEh e F S outs 0) fun e F S=> ?_
 cases e with
 |normal=>
  simp only[aVj]
  split
  ·exact hX _
  ·exact fun _ h=>h
 |exit id=>exact fun _ h=>h
 |ret=>exact fun _ h=>h
section
variable (T:Nat→yF)
theorem aVk:∀n,aHx aVj (fun b:Bool=>match b with |false=>tC T n |true=>tC T (n+1))
 |0=>⟨fun f r=>fun x h=>by simp[tC]at h,fun f r=>fun x h=>by simp[tC]at h,fun c sh outs h ps=>fun x hx=>by simp[tC]at hx⟩
 |n+1=>by
  have ih:=aVk n
  refine ⟨fun f r=> ?_,fun f r=> ?_,fun c sh outs h ps=> ?_⟩
  ·show OLe ((tC T (n+1)).pc f r) ((tC T (n+1+1)).pc f r)
   simp only[tC]
   cases T f with
   |code af=>exact aVh ih af r
   |given ps rs g=>exact fun _ h=>h
   |_=>exact fun _ h=>h
  ·show OLe ((tC T (n+1)).ic f r) ((tC T (n+1+1)).ic f r)
   simp only[tC]
   cases T f with
   |imp af=>exact aVi ih af r
   |_=>exact fun _ h=>h
  ·show OLe ((tC T (n+1)).fix (stepOf (tC T (n+1)) c sh outs) ps) ((tC T (n+1+1)).fix (stepOf (tC T (n+1+1)) c sh outs) ps)
   exact aBh (fun X X' hX ps=>h (fun b=>match b with |false=>X |true=>X') hX ps) (n+1) (n+2) (by omega) ps
theorem a4d {n m:Nat} (h:n≤m) (f:Nat) (r:List Row):OLe ((tC T n).pc f r) ((tC T m).pc f r):=by
 induction h with
 |refl=>exact fun _ h=>h
 |step _ ih=>exact fun x hx=>(aVk T _).pc f r x (ih x hx)
theorem a4e {n m:Nat} (h:n≤m) (f:Nat) (r:List PV):OLe ((tC T n).ic f r) ((tC T m).ic f r):=by
 induction h with
 |refl=>exact fun _ h=>h
 |step _ ih=>exact fun x hx=>(aVk T _).ic f r x (ih x hx)
end
def aTC:Logic (Option Nat)where
 R a:=(∀x,a none=some x→∃n0,∀n,n0≤n→a (some n)=some x)∧∀n x,a (some n)=some x→a none=some x
 const a:=⟨fun x h=>⟨0,fun _ _=>h⟩,fun _ _ h=>h⟩
 bind a f ha hf:=by
  refine ⟨fun y h=> ?_,fun n y h=> ?_⟩
  ·obtain ⟨x,h1,h2⟩:=Option.bind_eq_some_iff.1 h
   obtain ⟨n1,g1⟩:=ha.1 x h1
   obtain ⟨n2,g2⟩:=(hf x).1 y h2
   exact ⟨n1+n2,fun n hn=>Option.bind_eq_some_iff.2 ⟨x,g1 n (by omega),g2 n (by omega)⟩⟩
  ·obtain ⟨x,h1,h2⟩:=Option.bind_eq_some_iff.1 h
   exact Option.bind_eq_some_iff.2 ⟨x,ha.2 n x h1,(hf x).2 n y h2⟩
open Classical in
noncomputable def a5w {A:Type} (a:Nat→Option A):Option A:=if h:∃n x,a n=some x then a (Classical.choose h)else none
theorem jY {A:Type} {a:Nat→Option A} (hm:∀n m,n≤m→OLe (a n) (a m)) {x:A}:a5w a=some x↔∃n,a n=some x:=by
 unfold a5w
 constructor
 ·intro h
  split at h
  ·exact ⟨_,h⟩
  ·cases h
 ·rintro ⟨n,hn⟩
  have hex:∃n x,a n=some x:=⟨n,x,hn⟩
  rw[dif_pos hex]
  obtain ⟨y,hy⟩:=Classical.choose_spec hex
  have h1:=hm _ (Classical.choose hex+n) (Nat.le_add_right _ _) y hy
  have h2:=hm n (Classical.choose hex+n) (Nat.le_add_left _ _) x hn
  rw[h1]at h2
  rw[hy,h2]
noncomputable def cA (T:Nat→yF):Env:=⟨fun f r=>a5w fun n=>(tC T n).pc f r,fun f r=>a5w fun n=>(tC T n).ic f r,fun step ps=>a5w fun n=>aDx step n ps⟩
section
variable (T:Nat→yF)
theorem qQ {f:Nat} {r out:List Row}:(cA T).pc f r=some out↔∃n,(tC T n).pc f r=some out:=jY (fun n m h=>a4d T h f r)
theorem aY9 {f:Nat} {r out:List PV}:(cA T).ic f r=some out↔∃n,(tC T n).ic f r=some out:=jY (fun n m h=>a4e T h f r)
theorem a4f (n:Nat) (step:(List PV→Option (Nat×List PV))→List PV→Option (Nat×List PV)) (ps:List PV):(tC T n).fix step ps=aDx step n ps:=by cases n<;>rfl
theorem a4g:aHx aTC (fun o:Option Nat=>match o with |some n=>tC T n |none=>cA T):=by
 refine ⟨fun f r=>⟨fun x h=> ?_,fun n x h=>(qQ T).2 ⟨n,h⟩⟩,fun f r=>⟨fun x h=> ?_,fun n x h=>(aY9 T).2 ⟨n,h⟩⟩,fun c sh outs h ps=> ?_⟩
 ·obtain ⟨n,hn⟩:=(qQ T).1 h
  exact ⟨n,fun m hm=>a4d T hm f r x hn⟩
 ·obtain ⟨n,hn⟩:=(aY9 T).1 h
  exact ⟨n,fun m hm=>a4e T hm f r x hn⟩
 ·have hj:∀j ps,aTC.R (fun i=>aDx (stepOf (match i with |some n=>tC T n |none=>cA T) c sh outs) j ps):=by
   intro j
   induction j with
   |zero=>exact fun ps=>aTC.const none
   |succ j ih=>exact fun ps=>h (fun i=>aDx (stepOf (match i with |some n=>tC T n |none=>cA T) c sh outs) j) ih ps
  refine ⟨fun x hx=> ?_,fun n x hx=> ?_⟩
  ·have hx:a5w (fun n=>aDx (stepOf (cA T) c sh outs) n ps)=some x:=hx
   obtain ⟨j,hx⟩:=(jY (fun n m h=>aBh (aKn (cA T) c sh outs) n m h ps)).1 hx
   obtain ⟨n0,h0⟩:=(hj j ps).1 x hx
   refine ⟨n0+j,fun n hn=> ?_⟩
   show (tC T n).fix (stepOf (tC T n) c sh outs) ps=some x
   rw[a4f]
   exact aBh (aKn _ c sh outs) j n (by omega) ps x (h0 n (by omega))
  ·have hx:(tC T n).fix (stepOf (tC T n) c sh outs) ps=some x:=hx
   rw[a4f]at hx
   have:=(hj n ps).2 n x hx
   exact (jY (fun n m h=>aBh (aKn (cA T) c sh outs) n m h ps)).2 ⟨n,this⟩
theorem aUq {A:Type} {a b:Option A} (h:∀x,a=some x↔b=some x):a=b:=by
 cases a with
 |none=>cases b with
  |none=>rfl
  |some y=>exact ((h y).2 rfl)
 |some x=>exact ((h x).1 rfl).symm
theorem lA {f:Nat} {af:nC} (hf:T f= .code af) (r:List Row):(cA T).pc f r=yC (cA T) af r:=by
 have hR:=aVh (a4g T) af r
 refine aUq fun x=>⟨fun h=> ?_,fun h=> ?_⟩
 ·obtain ⟨n,hn⟩:=(qQ T).1 h
  cases n with
  |zero=>simp[tC]at hn
  |succ n=>
   simp only[tC,hf]at hn
   exact hR.2 n x hn
 ·obtain ⟨n0,h0⟩:=hR.1 x h
  refine (qQ T).2 ⟨n0+1, ?_⟩
  simp only[tC,hf]
  exact h0 n0 (Nat.le_refl _)
theorem jH {f:Nat} {af:o8} (hf:T f= .imp af) (r:List PV):(cA T).ic f r=aCg (cA T) af r:=by
 have hR:=aVi (a4g T) af r
 refine aUq fun x=>⟨fun h=> ?_,fun h=> ?_⟩
 ·obtain ⟨n,hn⟩:=(aY9 T).1 h
  cases n with
  |zero=>simp[tC]at hn
  |succ n=>
   simp only[tC,hf]at hn
   exact hR.2 n x hn
 ·obtain ⟨n0,h0⟩:=hR.1 x h
  refine (aY9 T).2 ⟨n0+1, ?_⟩
  simp only[tC,hf]
  exact h0 n0 (Nat.le_refl _)
theorem aXV {f:Nat} {ps rs:List L} {g:List Row→Option (List Row)} (hf:T f= .given ps rs g) (r:List Row):(cA T).pc f r=g r:=by
 refine aUq fun x=>⟨fun h=> ?_,fun h=> ?_⟩
 ·obtain ⟨n,hn⟩:=(qQ T).1 h
  cases n with
  |zero=>simp[tC]at hn
  |succ n=>simpa only[tC,hf]using hn
 ·exact (qQ T).2 ⟨1,by simpa only[tC,hf]using h⟩
theorem a7y (c:rB) (sh:Shape) (outs:List (eB×Shape)) (ps:List PV):
 (cA T).fix (stepOf (cA T) c sh outs) ps=stepOf (cA T) c sh outs ((cA T).fix (stepOf (cA T) c sh outs)) ps:=by
 have hm:=fun ps n m h=>aBh (aKn (cA T) c sh outs) n m h ps
 refine aUq fun x=>⟨fun h=> ?_,fun h=> ?_⟩
 ·obtain ⟨n,hn⟩:=(jY (hm ps)).1 h
  cases n with
  |zero=>simp[aDx]at hn
  |succ n=>exact aKn (cA T) c sh outs _ _ (fun ps y hy=>(jY (hm ps)).2 ⟨n,hy⟩) ps x hn
 ·
  have hR:aHx aTC (fun _:Option Nat=>cA T):=⟨fun f r=>aTC.const _,fun f r=>aTC.const _,fun c sh outs h ps=>aTC.const _⟩
  have hX:∀ps,aTC.R (fun i:Option Nat=>match i with |some n=>aDx (stepOf (cA T) c sh outs) n ps |none=>(cA T).fix (stepOf (cA T) c sh outs) ps):=by
   intro ps
   refine ⟨fun x hx=> ?_,fun n x hx=>(jY (hm ps)).2 ⟨n,hx⟩⟩
   obtain ⟨n,hn⟩:=(jY (hm ps)).1 hx
   exact ⟨n,fun m hmn=>hm ps n m hmn x hn⟩
  have key:aTC.R (fun i:Option Nat=>stepOf (cA T) c sh outs (fun ps=>match i with |some n=>aDx (stepOf (cA T) c sh outs) n ps |none=>(cA T).fix (stepOf (cA T) c sh outs) ps) ps):=by
   simp only[stepOf,aHp,unpack]
   refine aOr hR c _ _ (fun i e F S=>match e with
    | .normal=>(match pack sh F S with |some ps'=>(match i with |some n=>aDx (stepOf (cA T) c sh outs) n ps' |none=>(cA T).fix (stepOf (cA T) c sh outs) ps')|none=>none)
    |e=>aEh e F S outs 0) fun e F S=> ?_
   cases e with
   |normal=>
    simp only
    split
    ·exact hX _
    ·exact aTC.const _
   |exit id=>exact aTC.const _
   |ret=>exact aTC.const _
  obtain ⟨n0,h0⟩:=key.1 x h
  exact (jY (hm ps)).2 ⟨n0+1,h0 n0 (Nat.le_refl _)⟩
end
end Go.Ev
