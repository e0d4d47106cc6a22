/-
  Functions: the evaluator's answer is what a call returns.
-/
import Derived.Test.YtdhebofenihjmaaGreatDoorEvT
import Derived.Laws.Sem
set_option linter.all false
set_option maxRecDepth 100000
namespace Go.Ev
variable {E:Env} {P:Program} {T:Nat→yF} {S S':yA} {pl wD:Pl} {St dD:Ev.St} {F F':Fr} {a:Act} {w w':World}
variable {S0:yA} {w0:World} {n:Nat}
abbrev aGb (S0:yA) (w0:World) (n:Nat):Ctx:=⟨fun _=>False,S0,w0,n,0,fun _ _=>False,fun _ _ h=>h.elim⟩
def yA.all (S0:yA) (w0 w:World):yA:=fun b o=>if b<w0.heap.size then S0 b o else w.cell? ⟨b,o,none⟩
theorem Inv.bGK (hI:Inv P T (aGb S0 w0 n) S pl St F a w) (b o:Nat) (hb:b<w0.heap.size):S b o=S0 b o:=hI.grow.new b o hb (fun h=>h)
theorem Inv.yng (hI:Inv P T (aGb S0 w0 n) S pl St F a w) (b:Nat) (hb:nW pl St b):w0.heap.size≤b:=(hI.rZ b hb).resolve_left (fun h=>h)
theorem Inv.aRO (hI:Inv P T (aGb S0 w0 n) S pl St F a w):S.le (yA.all S0 w0 w):=by
 intro b o v h
 simp only[yA.all]
 split
 ·rename_i hb;rw[←hI.bGK b o hb];exact h
 ·exact hI.cO.yM _ _ _ h
theorem Inv.a7i (hI:Inv P T (aGb S0 w0 n) S pl St F a w) (h0:tD S0 w0):Grow (fun _=>False) S0 w0 (yA.all S0 w0 w) w:=
 ⟨hI.grow.os,hI.grow.tape,hI.grow.output,hI.grow.size,hI.grow.block,yA.le_trans hI.grow.mono hI.aRO,fun b o hb _=>by simp[yA.all,hb]⟩
theorem Inv.a7j (hI:Inv P T (aGb S0 w0 n) S pl St F a w):tD (yA.all S0 w0 w) w:=by
 intro b o v h
 simp only[yA.all]at h
 split at h
 ·rename_i hb;rw[←hI.bGK b o hb]at h;exact hI.cO.yM _ _ _ h
 ·exact h
def elB (P:Program) (l:L) (ol:Option L):Bool:=match ol with
 |none=>true
 |some le=>(match l with | .one (.sl e)=>aF5 P e le |_=>false)
theorem a3V {id v:Nat} {e:TypeId} {le:L} {c:C} (hI:Inv P T (aGb S0 w0 n) S pl St F a w) (ho:St[id]? =some (.arr v le c)) (rows:List Row) (hc:c= .sl rows):
 ∃cells:List Value,rC P T (yA.all S0 w0 w) le cells rows∧(∀p,p<rows.length*le.n→yA.all S0 w0 w (pl.blk id) p=some (cells.getD p undef))∧rows.length≤pl.cap id:=by
 subst hc
 rcases hI.cO.objs _ _ ho with hq |⟨qP,cur,e2,i2,hq,hh,q1,q2,q3,q4,q5,q6,q7⟩
 ·cases hq
 ·cases hq
  have hrr:rC P T S le cur.toList rows:=⟨by rw[show cur.toList.length=cur.size from Array.length_toList,q6];exact Nat.mul_le_mul_right _ q4,q7⟩
  refine ⟨cur.toList,hrr.mono hI.aRO,fun p hp=> ?_,q4⟩
  have hy:=hI.yng (pl.blk id) ⟨id,_,ho,rfl,rfl,rfl⟩
  have hge:¬pl.blk id<w0.heap.size:=by omega
  simp only[yA.all,if_neg hge]
  rw[cell_of_row w _ _ _ _ _ hh]
  have hpl:p<cur.toList.length:=Nat.lt_of_lt_of_le hp hrr.len
  have hpc:p<cur.size:=by simpa using hpl
  simp[List.getD_eq_getElem?_getD,hpc]
theorem aRP {l:L} {ol:Option L} {av:AV} {v:Value} {row:Row} (hI:Inv P T (aGb S0 w0 n) S pl St F a w) (hel:elB P l ol=true) (hv:iB P T S pl St av v) (h:toD St l ol av=some row):cF P T (yA.all S0 w0 w) l v row:=by
 unfold toD at h
 split at h
 ·rename_i l' r
  split at h
  ·rename_i hb
   obtain rfl:=L.beq_eq hb
   simp only[Option.some.injEq]at h
   subst h
   have:=hv.aBR
   rw[this.nrm];exact this.mono hI.aRO
  ·simp at h
 ·rename_i id bO
  split at h
  ·rename_i l' r e
   split at h
   ·rename_i hb
    obtain rfl:=L.beq_eq hb
    simp only[Option.some.injEq]at h
    subst h
    have:=aG2 hI.cO _ _ hv
    rw[e]at this
    have:=this.aBR
    rw[this.nrm];exact this.mono hI.aRO
   ·simp at h
  ·simp at h
 ·rename_i vs
  split at h
  ·rename_i l' r e
   split at h
   ·rename_i hb
    obtain rfl:=L.beq_eq hb
    simp only[Option.some.injEq]at h
    subst h
    have:=aG2 hI.cO _ _ hv
    rw[e]at this
    have:=this.aBR
    rw[this.nrm];exact this.mono hI.aRO
   ·simp at h
  ·simp at h
 ·rename_i id bO
  split at h
  ·rename_i le
   split at h
   ·rename_i v' l' c ho
    split at h
    ·rename_i hb
     simp only[Bool.and_eq_true]at hb
     obtain rfl:=Nat.eq_of_beq_eq_true hb.1
     obtain rfl:=L.beq_eq hb.2
     simp only[Option.some.injEq]at h
     subst h
     simp only[elB]at hel
     split at hel
     ·rename_i e
      have hw:=hv.bQ ho
      refine ⟨c,rfl, ?_⟩
      cases hc:c with
      |bA=>rw[hw.1 hc];exact .bA
      |sl rows=>
       rw[hw.2 rows hc]
       obtain ⟨cells,g1,g2,g3⟩:=a3V (e:=e) hI ho rows hc
       exact g1.rep (o:=0) (aC hel) g3 (fun p hp=>by rw[Nat.zero_add];exact g2 p hp)
      |_=>
       rcases hI.cO.objs _ _ ho with hq |⟨qP,cur,e2,i2,hq,_⟩<;>rw[hc]at hq<;>cases hq
     ·simp at hel
    ·simp at h
   ·simp at h
  ·simp at h
 ·rename_i id bO off len
  split at h
  ·rename_i le
   split at h
   ·rename_i v' l' c ho
    split at h
    ·rename_i hb
     simp only[Bool.and_eq_true]at hb
     obtain rfl:=Nat.eq_of_beq_eq_true hb.1
     obtain rfl:=L.beq_eq hb.2
     simp only[Option.some.injEq]at h
     subst h
     simp only[elB]at hel
     split at hel
     ·rename_i e
      refine ⟨_,rfl, ?_⟩
      rcases hI.cO.objs _ _ ho with hq |⟨rows,cur,e2,i2,hq,_⟩
      ·subst hq;exact (hv.aNl ho).elim
      ·subst hq
       obtain ⟨ad,cap,rfl,h1,h2,h3⟩:=hv.a2k ho
       obtain ⟨cells,g1,g2,g3⟩:=a3V (e:=e) hI ho rows rfl
       have hlen:((rows.drop off).take len).length=len:=by simp;omega
       have hL:=aC hel
       simp only[C.rows]
       by_cases hz:len=0
       ·subst hz
        have:(rows.drop off).take 0=[]:=by simp
        rw[this]
        exact .sl (fun _ _=>undef) hL rfl (by omega) (by simp) (fun h=>absurd rfl h) (fun i j hi _=>by omega) (fun i j k hi _=>by omega)
       ·rw[h3 hz]
        have aF7:=rC.rep (P:=P) (T:=T) (S:=yA.all S0 w0 w) (l:=le) (cells:=cells.drop (off*le.n)) (rows:=(rows.drop off).take len) (e:=e) (b:=pl.blk id) (o:=off*le.n) (cap:=cap)
         ⟨by
           have:=g1.len
           rw[hlen,List.length_drop]
           have hm:=Nat.mul_le_mul_right le.n h2
           rw[Nat.add_mul]at hm;omega,fun i r hi=>by
           have hi':=(List.getElem?_eq_some_iff.1 hi).1
           rw[hlen]at hi'
           have hr:rows[off+i]? =some r:=by
            rw[List.getElem?_take,if_pos hi',List.getElem?_drop]at hi;exact hi
           have:=g1.row (off+i) r hr
           rw[List.drop_drop,←Nat.add_mul];exact this⟩ hL (by rw[hlen];exact h1) (fun p hp=>by
           rw[hlen]at hp
           have hm:=Nat.mul_le_mul_right le.n h2
           rw[Nat.add_mul]at hm
           rw[g2 (off*le.n+p) (by omega)]
           simp[List.getD_eq_getElem?_getD])
        rw[hlen]at aF7
        exact aF7
     ·simp at hel
    ·simp at h
   ·simp at h
  ·simp at h
 ·simp at h
def aKd (P:Program):List ResultVar→List L→List (Bool×Nat×Option L)→Bool
 |[],[],[]=>true
 | .tmp t::rv,l::ls,(false,t',ol)::r=>Nat.beq t t'&&elB P l ol&&aKd P rv ls r
 | .cell a t::rv,l::ls,(true,a',ol)::r=>Nat.beq a a'&&aF5 P t l&&Nat.blt 0 l.n&&elB P l ol&&aKd P rv ls r
 |_,_,_=>false
def aES (tmps:Array Value):ResultVar→Sem Value
 | .tmp t=>pure (tmps.getD t undef)
 | .cell a t=>do loadVar t (←asAddr (tmps.getD a undef))
theorem aXK (hI:Inv P T (aGb S0 w0 n) S pl St F a w):∀(rvs:List ResultVar) (ls:List L) (rs:List (Bool×Nat×Option L)) (out:List Row),aKd P rvs ls rs=true→aYw F St ls rs=some out→
 ∃vs,(rvs.mapM (aES a.tmps)).run P w= .ok vs w∧fE P T (yA.all S0 w0 w) ls vs out
 |[],[],[],out,_,h=>by
  simp only[aYw,Option.some.injEq]at h
  subst h
  exact ⟨[],by simp,.nil⟩
 |rv::rvs,l::ls,(cell,t,ol)::rs,out,hok,h=>by
  simp only[aYw]at h
  split at h
  ·rename_i ra rb ha hb
   simp only[Option.some.injEq]at h
   subst h
   have step:∀v,(aES a.tmps rv).run P w= .ok v w→cF P T (yA.all S0 w0 w) l v ra→aKd P rvs ls rs=true→
    ∃vs,((rv::rvs).mapM (aES a.tmps)).run P w= .ok vs w∧fE P T (yA.all S0 w0 w) (l::ls) vs (ra::rb):=by
    intro v hr aF7 hok
    obtain ⟨vs,h1,h2⟩:=aXK hI rvs ls rs rb hok hb
    exact ⟨v::vs,by rw[List.mapM_cons];simp[hr,h1],.cons aF7 h2⟩
   cases cell with
   |false=>
    cases rv with
    |tmp t'=>
     simp only[aKd,Bool.and_eq_true]at hok
     obtain rfl:=Nat.eq_of_beq_eq_true hok.1.1
     exact step _ (by simp[aES]) (aRP hI hok.1.2 (hI.frame _) ha) hok.2
    |cell _ _=>simp[aKd]at hok
   |true=>
    cases rv with
    |tmp t'=>simp[aKd]at hok
    |cell a' ty=>
     simp only[aKd,Bool.and_eq_true]at hok
     obtain ⟨⟨⟨⟨k1,k2⟩,k3⟩,k4⟩,k5⟩:=hok
     obtain rfl:=Nat.eq_of_beq_eq_true k1
     have hpos:0<l.n:=by simpa using k3
     have hL:=aC k2
     have run:∀(id:Nat) (cur:Array Value) (e:TypeId),w.heap[pl.blk id]? =some (.cells cur e (0,0))→cur.size=l.n→a.tmps.getD a' undef= .pointer (some ⟨pl.blk id,0,none⟩)→
      (aES a.tmps (.cell a' ty)).run P w= .ok (mkV l fun j=>cur.toList.getD j undef) w:=by
      intro id cur e hh hsz aKU
      have hrun:=xU (P:=P) hL ⟨pl.blk id,0,none⟩ rfl w (fun j=>cur.toList.getD j undef) hpos (fun j hj=>by
       simp only[Nat.zero_add]
       rw[cell_of_row w _ _ _ _ _ hh]
       have hjc:j<cur.size:=by omega
       simp[List.getD_eq_getElem?_getD,hjc])
      have hp':a.tmps[a']?.getD undef= .pointer (some ⟨pl.blk id,0,none⟩):=by simpa using aKU
      simp[aES,hp',asAddr,hrun]
     simp only at ha
     split at ha
     ·rename_i id hg
      have hv:=hI.frame a'
      rw[hg]at hv
      split at ha
      ·rename_i l' row ho
       split at ha
       ·rename_i hlb
        obtain rfl:=L.beq_eq hlb
        simp only[Option.some.injEq]at ha
        subst ha
        obtain ⟨cur,e,hh,hr⟩:=hI.cO.objs _ _ ho
        have hrm:=hr.mono hI.aRO
        exact step _ (run id cur e hh (by have:=hr.mL;simpa[L.n]using this) (hv.aUC ho)) (cF.mk hrm.aBQ hrm.cell) k5
       ·simp at ha
      ·rename_i c vs ho
       obtain ⟨cur,e,hh,hsz,hr,hr1⟩:=hI.cO.objs _ _ ho
       split at ha
       ·rename_i ks
        have bJn:iB P T S pl St (.agg vs) (.agg cur):= .aUL hsz (fun i hi=>hr1 i hi) hr
        have aF7:=aRP hI (ol:=none) rfl bJn ha
        obtain ⟨cs,hcs,hrr⟩:=aF7
        simp only[Value.agg.injEq]at hcs
        subst hcs
        have hcl:cur.size=(L.agg ks).n:=by have:=hrr.mL;simpa[L.n,L.ks]using this
        refine step _ (run id cur e hh hcl (hv.sO ho)) ?_ k5
        exact cF.mk (l:= .agg ks) hrr.aBQ (fun j k hj=>by simpa[List.getD_eq_getElem?_getD]using hrr.cell j k hj)
       ·rename_i k v
        have aF7:=aRP hI k4 (hr 0 v rfl) ha
        refine step _ (run id cur e hh (by rw[hsz];rfl) (hv.sO ho)) ?_ k5
        simpa[mkV,List.getD_eq_getElem?_getD]using aF7
       ·simp at ha
      ·simp at ha
     ·simp at ha
  ·simp at h
 |[],[],_::_,_,h,_=>by simp[aKd]at h
 |[],_::_,[],_,h,_=>by simp[aKd]at h
 |[],_::_,_::_,_,h,_=>by simp[aKd]at h
 |_::_,[],[],_,_,h=>by simp_all[aYw,aKd]
 |_::_,[],_::_,_,_,h=>by simp[aYw]at h
 |_::_,_::_,[],_,_,h=>by simp[aYw]at h
def nB (P:Program) (T:Nat→yF) (f:Nat) (af:oC):Bool:=
 match P.funcs[f]? with
 |some fn=>(fn.name != "runtime.NumGoroutine")&&(match fn.body with |some c=>cG P T fn.ntmps 0 af.body c |none=>false)&&Nat.ble af.ps.length fn.ntmps&&aKd P fn.results.toList af.rs af.res
 |none=>false
theorem fE.tail {l ls v vs row rows} (h:fE P T S (l::ls) (v::vs) (row::rows)):fE P T S ls vs rows:=
 ⟨by simpa using h.aNo,by simpa using h.aBQ,fun i l' hi=>by simpa[aA]using h.arg (i+1) l' (by simpa using hi)⟩
theorem aXL:∀(ls:List L) (rows:List Row) (vs:List Value) (j:Nat),fE P T S ls vs rows→∀t val,(j≤t→t<j+ls.length→val=vs.getD (t - j) undef)→iB P T S pl [] ((frame ls rows j).get t) val
 |[],_,_,_,_,t,val,_=> .undef
 |l::ls,[],_,_,h,_,_,_=>by have:=h.aBQ;simp at this
 |l::ls,_::_,[],_,h,_,_,_=>by have:=h.aNo;simp at this
 |l::ls,row::rows,v::vs,j,h,t,val,hval=>by
  simp only[frame,Fr.aER,List.headD_cons,List.tail_cons]
  by_cases e:j=t
  ·subst e
   rw[if_pos rfl]
   have hv:=hval (Nat.le_refl _) (by simp)
   have h0:=h.arg 0 l rfl
   simp only[aA,List.getD_cons_zero]at h0
   simp only[Nat.sub_self,List.getD_cons_zero]at hv
   rw[hv,h0.nrm];exact .d h0
  ·rw[if_neg e]
   refine aXL ls rows vs (j+1) h.tail t val (fun h1 h2=> ?_)
   rw[hval (by omega) (by simp;omega)]
   have:t - j=(t - (j+1))+1:=by omega
   rw[this,List.getD_cons_succ]
theorem results_eq (fn:Func) (tmps:Array Value):results fn tmps=(do let vs ←fn.results.mapM (aES tmps);pure (if h:vs.size=1 then vs[0]else .tuple vs)):=by
 unfold results
 have:(fun x:ResultVar=>aES tmps x)=aES tmps:=rfl
 congr 1
theorem a5g {f:Nat} {af:oC} {rows out:List Row} {S0:yA} {w0:World} {vs:List Value} (hm:P.follows .mixedOrders=true) (hpc:aQn P T E) (a7h:a3U E.fix) (hok:nB P T f af=true) (h:cD E af rows=some out)
 (h0:tD S0 w0) (hgl:hO P T S0) (hgz:xM T w0) (hargs:fE P T S0 af.ps vs rows):
 (callFunc f vs.toArray).run P w0= .ok (.enter f vs.toArray) w0∧
 Calls P f vs.toArray w0 fun e w'=>∃out' S',e= .returned (aPe out')∧Grow (fun _=>False) S0 w0 S' w'∧tD S' w'∧fE P T S' af.rs out' out:=by
 unfold nB at hok
 split at hok
 ·rename_i fn hfn
  simp only[Bool.and_eq_true]at hok
  obtain ⟨⟨⟨hname,hbody⟩,hle⟩,hres⟩:=hok
  split at hbody
  ·rename_i c hc
   have hle:af.ps.length≤fn.ntmps:=by simpa using hle
   have hname:¬fn.name= "runtime.NumGoroutine" :=by simpa using hname
   refine ⟨by simp[callFunc,hfn,hname,hc], ?_⟩
   have hvl:=hargs.aNo
   have hI:Inv P T (aGb S0 w0 fn.ntmps) S0 ⟨fun _=>0,fun _=>0⟩ [] (frame af.ps rows 0) {tmps:=vs.toArray++Array.replicate (fn.ntmps - vs.toArray.size) undef,defers:=[]} w0:=by
    refine ⟨⟨h0,fun id o h=>by simp at h,fun id o h=>by simp at h,fun i j o o' h=>by simp at h,hgl,fun g t l row e=>⟨hgz g t l row e,fun id o h=>by simp at h⟩⟩,fun t=> ?_,by simp;omega,rfl,.refl _ _ _,fun b hb=>(by obtain ⟨id,o,h,_⟩:=hb;simp at h),fun _ _ h=>h.elim⟩
    refine aXL af.ps rows vs 0 hargs t _ (fun _ h2=> ?_)
    have h2:t<vs.length:=by omega
    simp[Array.getElem?_append,h2]
   unfold cD at h
   split at h
   ·refine calls_of_wp hfn hc (aU4 hm hpc a7h af.body c hbody hI h (fun e F St S pl a w hI h=> ?_))
    have fin:aYw F St af.rs af.res=some out→a.defers=[]∧∃v,(results fn a.tmps).run P w= .ok v w∧(∃out' S',(Ending.returned v)= .returned (aPe out')∧Grow (fun _=>False) S0 w0 S' w∧tD S' w∧fE P T S' af.rs out' out):=by
     intro h
     obtain ⟨vs',h1,h2⟩:=aXK hI fn.results.toList af.rs af.res out hres h
     refine ⟨hI.defers,aPe vs', ?_,vs',_,rfl,hI.a7i h0,hI.a7j,h2⟩
     have hq:(fn.results.mapM (aES a.tmps)).run P w= .ok vs'.toArray w:=by
      rw[Array.mapM_eq_mapM_toList]
      simp[h1]
     rw[results_eq,Sem.run_bind,hq]
     simp only[Result.andThen_ok,Sem.run_pure]
     match vs' with
     |[]=>rfl
     |[v]=>rfl
     |_::_::_=>rfl
    cases e with
    |normal=>exact fin h
    |exit id=>simp at h
    |ret=>exact fin h
   ·simp at h
  ·simp at hbody
 ·simp at hok
def aIn (P:Program) (T:Nat→yF) (f:Nat) (ps rs:List L) (g:List Row→Option (List Row)):Prop:=
 ∀rows out,g rows=some out→∀S w vs,tD S w→hO P T S→xM T w→fE P T S ps vs rows→
  (callFunc f vs.toArray).run P w= .ok (.enter f vs.toArray) w∧
  Calls P f vs.toArray w fun e w'=>∃out' S',e= .returned (aPe out')∧Grow (fun _=>False) S w S' w'∧tD S' w'∧fE P T S' rs out' out
def aS3 (P:Program):ResultVar→a2e→Bool
 | .tmp t,.tmp t'=>Nat.beq t t'
 | .cell a t,.var a' l=>Nat.beq a a'&&aF5 P t l&&Nat.blt 0 l.n
 | .cell a t,.cells a' n=>Nat.beq a a'&&a6E P t n
 | .cell a t,.a6l a'=>Nat.beq a a'&&a0b P t
 |_,_=>false
def a5h (P:Program):List ResultVar→List a2e→Bool
 |[],[]=>true
 |rv::rvs,r::rs=>aS3 P rv r&&a5h P rvs rs
 |_,_=>false
def aQw:List (Nat×Sh)→Nat→Bool
 |[],_=>true
 |(n,_)::r,i=>Nat.beq n i&&aQw r (i+1)
def aN (P:Program) (T:Nat→yF) (af:u6):Bool:=
 match P.funcs[af.fn]? with
 |some fn=>(fn.name != "runtime.NumGoroutine")&&(match fn.body with |some c=>cG P T fn.ntmps af.entry.objs.length af.body c |none=>false)&&Nat.ble af.entry.slots.length fn.ntmps&&aQw af.entry.slots 0&&a5h P fn.results.toList af.res&&Nat.ble af.entry.objs.length af.exit.m&&aJ2 af.entry.objs af.exit.objs
 |none=>false
theorem aU5:∀(ss:List (Nat×Sh)) (ps:List PV) (i:Nat),aQw ss i=true→∃yL r,aMY (ss.map (·.2)) ps=(yL,r)∧(mK ss ps).2=r∧yL.length=ss.length∧
 ∀t,(mK ss ps).1.get t=if i≤t∧t<i+ss.length then yL.getD (t - i) .undef else .undef
 |[],ps,i,_=>⟨[],ps,rfl,rfl,rfl,fun t=>by
    simp only[mK,List.length_nil]
    rw[if_neg (by omega)];rfl⟩
 |(n,s)::ss,ps,i,h=>by
  simp only[aQw,Bool.and_eq_true]at h
  obtain rfl:=Nat.eq_of_beq_eq_true h.1
  obtain ⟨yL,r,h1,h2,h3,h4⟩:=aU5 ss (unV s ps).2 (n+1) h.2
  refine ⟨(unV s ps).1::yL,r, ?_, ?_,by simp[h3],fun t=> ?_⟩
  ·simp only[List.map_cons,aMY,h1]
  ·simp only[mK,h2]
  ·simp only[mK,Fr.aER]
   by_cases e:n=t
   ·subst e
    rw[if_pos rfl,if_pos (by simp)]
    simp
   ·rw[if_neg e,h4 t]
    by_cases h5:n+1≤t∧t<n+1+ss.length
    ·rw[if_pos h5,if_pos (by simp only[List.length_cons];omega)]
     have:t - n=(t - (n+1))+1:=by omega
     rw[this,List.getD_cons_succ]
    ·rw[if_neg h5,if_neg (by simp only[List.length_cons];omega)]
theorem aYY {Γ:Ctx} (hI:Inv P T Γ S pl St F a w) {rv:ResultVar} {r:a2e} {av:AV} (hok:aS3 P rv r=true) (h:aRu F St r=some av):
 ∃v,(aES a.tmps rv).run P w= .ok v w∧iB P T S pl St av v:=by
 have addr:∀{a' id:Nat} {o:Obj},F.get a'= .ptr id 0→St[id]? =some o→((∃l row,o= .var l row)∨∃c vs,o= .cells c vs)→a.tmps[a']?.getD undef= .pointer (some ⟨pl.blk id,0,none⟩):=by
  intro a' id o hg ho hk
  have hv:=hI.frame a'
  rw[hg]at hv
  simpa using hv.aUI ho hk
 cases rv with
 |tmp t=>
  cases r with
  |tmp t'=>
   simp only[aS3]at hok
   obtain rfl:=Nat.eq_of_beq_eq_true hok
   simp only[aRu,Option.some.injEq]at h
   subst h
   exact ⟨_,by simp[aES],hI.frame t⟩
  |_=>simp[aS3]at hok
 |cell a' t=>
  cases r with
  |tmp t'=>simp[aS3]at hok
  |var a2 l=>
   simp only[aS3,Bool.and_eq_true]at hok
   obtain rfl:=Nat.eq_of_beq_eq_true hok.1.1
   have hL:=aC hok.1.2
   have hpos:0<l.n:=by simpa using hok.2
   simp only[aRu]at h
   split at h
   ·rename_i id hg
    split at h
    ·rename_i l' row ho
     split at h
     ·rename_i hb
      obtain rfl:=L.beq_eq hb
      simp only[Option.some.injEq]at h
      subst h
      obtain ⟨cur,e,hh,hr⟩:=hI.cO.objs _ _ ho
      have hsz:cur.size=l.n:=by have:=hr.mL;simpa[L.n]using this
      have hrun:=xU (P:=P) hL ⟨pl.blk id,0,none⟩ rfl w (fun j=>cur.toList.getD j undef) hpos (fun j hj=>by
       simp only[Nat.zero_add]
       rw[cell_of_row w _ _ _ _ _ hh]
       have hjc:j<cur.size:=by omega
       simp[List.getD_eq_getElem?_getD,hjc])
      refine ⟨mkV l fun j=>cur.toList.getD j undef,by simp[aES,addr hg ho (.inl ⟨_,_,rfl⟩),asAddr,hrun],.d (cF.mk hr.aBQ hr.cell)⟩
     ·simp at h
    ·simp at h
   ·simp at h
  |cells a2 n=>
   simp only[aS3,Bool.and_eq_true]at hok
   obtain rfl:=Nat.eq_of_beq_eq_true hok.1
   obtain ⟨g1,g2⟩:=aUK hok.2 w
   simp only[aRu]at h
   split at h
   ·rename_i id hg
    split at h
    ·rename_i c vs ho
     split at h
     ·rename_i hb
      have hn:=Nat.eq_of_beq_eq_true hb
      simp only[Option.some.injEq]at h
      subst h
      obtain ⟨cur,e,hh,hsz,hr,hr1⟩:=hI.cO.objs _ _ ho
      have aQh:=run_loadCells_list (P:=P) w ⟨pl.blk id,0,none⟩ cur.toList (fun j u hj=>by
       rw[add_eq _ rfl,cell_of_row w _ _ _ _ _ hh,Nat.zero_add];simpa using hj)
      have hcl:cur.toList.length=n:=by simpa[hsz]using hn
      rw[hcl]at aQh
      refine ⟨.agg cur,by simp[aES,addr hg ho (.inr ⟨_,_,rfl⟩),asAddr,loadVar,g1,g2,aQh],.aUL hsz (fun i hi=>hr1 i hi) hr⟩
     ·simp at h
    ·simp at h
   ·simp at h
  |a6l a2=>
   simp only[aS3,Bool.and_eq_true]at hok
   obtain rfl:=Nat.eq_of_beq_eq_true hok.1
   simp only[aRu]at h
   split at h
   ·rename_i id hg
    split at h
    ·rename_i c v ho
     simp only[Option.some.injEq]at h
     subst h
     obtain ⟨cur,e,hh,hsz,hr,hr1⟩:=hI.cO.objs _ _ ho
     have hlt:0<cur.size:=by rw[hsz];simp
     refine ⟨cur.toList.getD 0 undef, ?_,by simpa using hr 0 v rfl⟩
     simp only[aES,asAddr,Sem.run_bind]
     have hp:=addr hg ho (.inr ⟨_,_,rfl⟩)
     have hp':a.tmps.getD a' undef= .pointer (some ⟨pl.blk id,0,none⟩):=by simpa using hp
     rw[hp']
     simp only[Sem.run_pure,Result.andThen_ok,loadVar,Sem.run_bind,aSH hok.2,Bool.false_eq_true,if_false,run_load,aRx hh hlt]
    ·simp at h
   ·simp at h
theorem aOT {Γ:Ctx} (hI:Inv P T Γ S pl St F a w):∀(rvs:List ResultVar) (rs:List a2e) (yL:List AV),a5h P rvs rs=true→aOa F St rs=some yL→
 ∃vs,(rvs.mapM (aES a.tmps)).run P w= .ok vs w∧vs.length=yL.length∧∀i av,yL[i]? =some av→iB P T S pl St av (vs.getD i undef)
 |[],[],yL,_,h=>by
  simp only[aOa,Option.some.injEq]at h
  subst h
  exact ⟨[],by simp,rfl,fun i av h=>by simp at h⟩
 |rv::rvs,r::rs,yL,hok,h=>by
  simp only[a5h,Bool.and_eq_true]at hok
  simp only[aOa]at h
  split at h
  ·rename_i u us h1 h2
   simp only[Option.some.injEq]at h
   subst h
   obtain ⟨v,e1,e2⟩:=aYY hI hok.1 h1
   obtain ⟨vs,g1,g2,g3⟩:=aOT hI rvs rs us hok.2 h2
   refine ⟨v::vs,by rw[List.mapM_cons];simp[e1,g1],by simp[g2],fun i av hi=> ?_⟩
   cases i with
   |zero=>simp at hi;subst hi;simpa using e2
   |succ i=>simpa using g3 i av (by simpa using hi)
  ·simp at h
 |[],_::_,_,h,_=>by simp[a5h]at h
 |_::_,[],_,h,_=>by simp[a5h]at h
def a2D (P:Program) (T:Nat→yF) (S:yA) (pl:Pl) (St:Ev.St) (w:World) (n:Nat):Ctx:=
 ⟨nW pl St,S,w,n,St.length,fun av v=>iB P T S pl St av v∧∃id,id<St.length∧(av= .map id∨av= .vE id∨∃off,av= .ptr id off),fun av v h=>h.2⟩
theorem a5i {af:u6} {ps ps':List PV} (hm:P.follows .mixedOrders=true) (hpc:aQn P T E) (a7h:a3U E.fix) (hok:aN P T af=true) (h:aB2 E af ps=some ps')
 {yL:List AV} {r:List PV} {vals:Nat→Value} (hun:aMY (af.entry.slots.map (·.2)) ps=(yL,r)) (hSt:St=aJ1 af.entry.objs r) (hs:mW P T S pl St w) (hv:∀i av,yL[i]? =some av→iB P T S pl St av (vals i)):
 (callFunc af.fn ((List.range yL.length).map vals).toArray).run P w= .ok (.enter af.fn ((List.range yL.length).map vals).toArray) w∧
 Calls P af.fn ((List.range yL.length).map vals).toArray w fun e w'=>∃(S2:yA) (rM:Pl) (St2:Ev.St) (aQm:List AV) (r2:List PV) (out:List Value),
  aMY (af.exit.slots.map (·.2)) ps'=(aQm,r2)∧St2=aJ1 af.exit.objs r2∧e= .returned (aPe out)∧out.length=aQm.length∧
  mW P T S2 rM St2 w'∧Grow (nW pl St) S w S2 w'∧(∀i av,aQm[i]? =some av→iB P T S2 rM St2 av (out.getD i undef))∧
  (∀b,nW rM St2 b→nW pl St b∨w.heap.size≤b)∧
  (∀(j:Nat) (o o':Obj),St[j]? =some o→St2[j]? =some o'→((∃l row,o'= .var l row)∨(∃c vs,o'= .cells c vs)∨∃kl vl es,o'= .map kl vl es)→rM.blk j=pl.blk j)∧aUd pl St rM St2:=by
 unfold aN at hok
 split at hok
 ·rename_i fn hfn
  simp only[Bool.and_eq_true]at hok
  obtain ⟨⟨⟨⟨⟨⟨hname,hbody⟩,hle⟩,bJo⟩,hres⟩,hlen⟩,kT⟩:=hok
  split at hbody
  ·rename_i c hc
   have hle:af.entry.slots.length≤fn.ntmps:=by simpa using hle
   have hname:¬fn.name= "runtime.NumGoroutine" :=by simpa using hname
   refine ⟨by simp[callFunc,hfn,hname,hc], ?_⟩
   obtain ⟨bJk,r',u1,u2,u3,u4⟩:=aU5 af.entry.slots ps 0 bJo
   rw[hun]at u1
   simp only[Prod.mk.injEq]at u1
   obtain ⟨rfl,rfl⟩:=u1
   have hSl:St.length=af.entry.objs.length:=by rw[hSt,aIl]
   have hI:Inv P T (a2D P T S pl St w fn.ntmps) S pl St (mK af.entry.slots ps).1 {tmps:=((List.range yL.length).map vals).toArray++Array.replicate (fn.ntmps - ((List.range yL.length).map vals).toArray.size) undef,defers:=[]} w:=by
    refine ⟨hs,fun t=> ?_,by simp[a2D];omega,rfl,.refl _ _ _,fun b hb=> .inl hb,fun _ _ hq=>hq.1⟩
    rw[u4 t]
    by_cases ht:0≤t∧t<0+af.entry.slots.length
    ·rw[if_pos ht,Nat.sub_zero]
     have htl:t<yL.length:=by omega
     have:=hv t (yL[t]) (List.getElem?_eq_getElem htl)
     have e1:yL.getD t .undef=yL[t]:=by simp[List.getD_eq_getElem?_getD,htl]
     rw[e1]
     have e2:((((List.range yL.length).map vals).toArray++Array.replicate (fn.ntmps - ((List.range yL.length).map vals).toArray.size) undef).getD t undef)=vals t:=by
      simp[Array.getElem?_append,htl]
     rw[e2];exact this
    ·rw[if_neg ht];exact .undef
   unfold aB2 unpack at h
   have hsplit:mK af.entry.slots ps=((mK af.entry.slots ps).1,(mK af.entry.slots ps).2):=rfl
   rw[hsplit]at h
   simp only[u2,←hSt]at h
   refine calls_of_wp hfn hc (aU4 (Γ:=a2D P T S pl St w fn.ntmps) hm hpc a7h af.body c (by show cG P T fn.ntmps St.length af.body c=true;rw[hSl];exact hbody) hI h (fun e F2 St2 S2 rM a2 w2 hI2 h2=> ?_))
   have fin:((aOa F2 St2 af.res).bind fun vs=>aP5 af.exit vs St2)=some ps'→a2.defers=[]∧∃v,(results fn a2.tmps).run P w2= .ok v w2∧(∃(S2:yA) (rM:Pl) (St2:Ev.St) (aQm:List AV) (r2:List PV) (out:List Value),
    aMY (af.exit.slots.map (·.2)) ps'=(aQm,r2)∧St2=aJ1 af.exit.objs r2∧Ending.returned v= .returned (aPe out)∧out.length=aQm.length∧
    mW P T S2 rM St2 w2∧Grow (nW pl St) S w S2 w2∧(∀i av,aQm[i]? =some av→iB P T S2 rM St2 av (out.getD i undef))∧
    (∀b,nW rM St2 b→nW pl St b∨w.heap.size≤b)∧
    (∀(j:Nat) (o o':Obj),St[j]? =some o→St2[j]? =some o'→((∃l row,o'= .var l row)∨(∃c vs,o'= .cells c vs)∨∃kl vl es,o'= .map kl vl es)→rM.blk j=pl.blk j)∧aUd pl St rM St2):=by
    intro h3
    obtain ⟨rvs,h4,h5⟩:=Option.bind_eq_some_iff.1 h3
    obtain ⟨out,g1,g2,g3⟩:=aOT hI2 fn.results.toList af.res rvs hres h4
    have hlen:af.entry.objs.length≤af.exit.m:=by simpa using hlen
    obtain ⟨ids,aQm,r2,St3,k1,k2,k3,_,bNI,k4,k5,k6,k8,k7⟩:=aS1 (vals:=fun i=>out.getD i undef) hI2.cO g3 h5
    refine ⟨hI2.defers,aPe out, ?_,S2,rM.sub ids,St3,aQm,r2,out,k1,k2,rfl,by omega,k4,hI2.grow,k5,fun b hb=>hI2.rZ b (k6 b hb),fun j o o' hj hj' hk=> ?_,fun j o l c i av hj hj'=> ?_⟩
    ·have hq:(fn.results.mapM (aES a2.tmps)).run P w2= .ok out.toArray w2:=by
      rw[Array.mapM_eq_mapM_toList]
      simp[g1]
     rw[results_eq,Sem.run_bind,hq]
     simp only[Result.andThen_ok,Sem.run_pure]
     match out with
     |[]=>rfl
     |[v]=>rfl
     |_::_::_=>rfl
    ·
     have hjl:j<St.length:=(List.getElem?_eq_some_iff.1 hj).1
     obtain ⟨s1,q1,q2⟩:=aF8 _ _ j o (by rw[←hSt];exact hj)
     obtain ⟨s2,q3,q4⟩:=aF8 _ _ j o' (by rw[←k2];exact hj')
     obtain ⟨_,t1,t2,t3,t4,t5⟩:=aKa kT q1 q3
     obtain ⟨o2,d1,d2⟩:=k7 j o' hj'
     obtain ⟨_,hjj⟩:=k8 j (by omega)
     have hsub:(rM.sub ids).blk j=rM.blk j:=by show rM.blk (ids.getD j 0)=_;rw[hjj]
     rw[hjj]at d1
     rw[hsub]
     rcases hk with ⟨l,row,rfl⟩|⟨c,vs,rfl⟩|⟨kl,vl,es,rfl⟩
     ·have ho:∃l row,o= .var l row:=by
       cases s2 with
       |var l2=>obtain ⟨l0,rfl⟩:=t1 _ rfl;obtain ⟨a6U,rfl⟩:=q2;exact ⟨_,_,rfl⟩
       |cells c vs=>cases vs with
        |nil=>cases q4
        |cons _ _=>obtain ⟨_,q⟩:=q4;cases q
       |arr l=>obtain ⟨_,q⟩:=q4;cases q
       |map kl vl=>obtain ⟨_,q⟩:=q4;cases q
       |zA e l=>obtain ⟨_,q⟩:=q4;cases q
       |vE l s=>obtain ⟨_,_,_,q⟩:=q4;cases q
      obtain ⟨l0,a6U,rfl⟩:=ho
      have hr:=hI2.kept (.ptr j 0) (.pointer (some ⟨pl.blk j,0,none⟩)) ⟨.aT8 hj rfl,j,hjl,.inr (.inr ⟨0,rfl⟩)⟩
      obtain ⟨l1,bJp,rfl⟩:=d2.2.1 _ _ rfl
      have:=hr.aUC d1
      simp at this;exact this.symm
     ·have ho:∃c vs,o= .cells c vs:=by
       cases s2 with
       |cells c2 vs2=>cases vs2 with
        |nil=>cases q4
        |cons v2 vs2=>
         obtain ⟨c0,v0,vs0,rfl⟩:=t2 _ _ _ rfl
         obtain ⟨vs1,rfl⟩:=q2;exact ⟨_,_,rfl⟩
       |var l=>obtain ⟨_,q⟩:=q4;cases q
       |arr l=>obtain ⟨_,q⟩:=q4;cases q
       |map kl vl=>obtain ⟨_,q⟩:=q4;cases q
       |zA e l=>obtain ⟨_,q⟩:=q4;cases q
       |vE l s=>obtain ⟨_,_,_,q⟩:=q4;cases q
      obtain ⟨l0,a6U,rfl⟩:=ho
      have hr:=hI2.kept (.ptr j 0) (.pointer (some ⟨pl.blk j,0,none⟩)) ⟨.aOb hj rfl,j,hjl,.inr (.inr ⟨0,rfl⟩)⟩
      obtain ⟨l1,bJp,rfl⟩:=d2.2.2.1 _ _ rfl
      have:=hr.sO d1
      simp at this;exact this.symm
     ·have ho:∃kl vl es,o= .map kl vl es:=by
       cases s2 with
       |map kl2 vl2=>obtain ⟨kl0,vl0,rfl⟩:=t4 _ _ rfl;obtain ⟨es0,rfl⟩:=q2;exact ⟨_,_,_,rfl⟩
       |cells c vs=>cases vs with
        |nil=>cases q4
        |cons _ _=>obtain ⟨_,q⟩:=q4;cases q
       |var l=>obtain ⟨_,q⟩:=q4;cases q
       |arr l=>obtain ⟨_,q⟩:=q4;cases q
       |zA e l=>obtain ⟨_,q⟩:=q4;cases q
       |vE l s=>obtain ⟨_,_,_,q⟩:=q4;cases q
      obtain ⟨kl0,vl0,es0,rfl⟩:=ho
      have h0:iB P T S pl St (.map j) (.map (some (pl.blk j))):= .map rfl hj (by simp) (fun _ _ _ _=>rfl)
      have hr:=hI2.kept (.map j) (.map (some (pl.blk j))) ⟨h0,j,hjl,.inl rfl⟩
      obtain ⟨kl1,vl1,es1,rfl⟩:=d2.2.2.2.2.1 _ _ _ rfl
      cases hr with
      |map z0 z1 z2 z3=>
       rw[d1]at z1;obtain rfl:=Option.some.inj z1
       have:=z3 _ _ _ rfl
       simp at this;exact this.symm
    ·
     have hjl:j<St.length:=(List.getElem?_eq_some_iff.1 hj).1
     obtain ⟨s1,q1,q2⟩:=aF8 _ _ j o (by rw[←hSt];exact hj)
     obtain ⟨s2,q3,q4⟩:=aF8 _ _ j _ (by rw[←k2];exact hj')
     obtain ⟨_,t1,t2,t3,t4,t5⟩:=aKa kT q1 q3
     obtain ⟨o2,d1,d2⟩:=k7 j _ hj'
     obtain ⟨_,hjj⟩:=k8 j (by omega)
     have hsub:(rM.sub ids).blk j=rM.blk j:=by show rM.blk (ids.getD j 0)=_;rw[hjj]
     have bGM:(rM.sub ids).cap j=rM.cap j:=by show rM.cap (ids.getD j 0)=_;rw[hjj]
     rw[hjj]at d1
     have ho:∃c0 i0 av0,o= .vE l c0 i0 av0:=by
      cases s2 with
      |vE l2 s=>
       obtain ⟨_,_,_,q⟩:=q4
       simp only[Obj.vE.injEq]at q
       obtain ⟨rfl,_⟩:=q
       obtain ⟨s0,rfl⟩:=t5.2.1 _ _ rfl
       exact q2
      |cells c vs=>cases vs with
       |nil=>cases q4
       |cons _ _=>obtain ⟨_,q⟩:=q4;cases q
      |var l=>obtain ⟨_,q⟩:=q4;cases q
      |arr l=>obtain ⟨_,q⟩:=q4;cases q
      |map kl vl=>obtain ⟨_,q⟩:=q4;cases q
      |zA e l=>obtain ⟨_,q⟩:=q4;cases q
     obtain ⟨c0,i0,av0,rfl⟩:=ho
     obtain ⟨av1,rfl⟩:=d2.2.2.2.2.2.2.1 _ _ _ _ rfl
     refine ⟨c0,i0,av0,rfl, ?_⟩
     rw[hsub,bGM]
     rcases hs.objs _ _ hj with rfl |⟨cH,_,_,_,rfl,_⟩
     ·have h0:iB P T S pl St (.vE j) (.slice none 0 0):= .vE rfl hj (by simp) (fun _ _ _ _=>rfl) (fun _ _ _ _ e=>by simp at e)
      have hr:=(hI2.kept (.vE j) _ ⟨h0,j,hjl,.inr (.inl rfl)⟩).aNm d1
      exact ⟨fun _=>rfl,fun rows e=>absurd (hr.2 rows e) (by simp)⟩
     ·have h0:iB P T S pl St (.vE j) (.slice (some ⟨pl.blk j,0,none⟩) cH.length (pl.cap j)):= .vE rfl hj (by simp) (fun _ _ _ e=>by simp at e) (fun _ _ _ _ e=>by simp only[Obj.vE.injEq,C.sl.injEq]at e;rw[e.2.1])
      have hr:=(hI2.kept (.vE j) _ ⟨h0,j,hjl,.inr (.inl rfl)⟩).aNm d1
      refine ⟨fun e=>absurd (hr.1 e) (by simp),fun rows e=>⟨cH,rfl, ?_⟩⟩
      have:=hr.2 rows e
      simp at this
      exact ⟨this.2.1,this.1.symm,this.2.2.symm⟩
   cases e with
   |normal=>exact fin h2
   |exit id=>simp at h2
   |ret=>exact fin h2
  ·simp at hbody
 ·simp at hok
def a0J (P:Program) (T:Nat→yF):Prop:=∀f,match T f with
 | .none=>True
 | .cmp=>aXp P f
 | .ixb=>aXo P f
 | .fR _ _ _=>True
 | .imp af=>aN P T af=true
 | .code af=>nB P T f af=true
 | .given ps rs g=>aIn P T f ps rs g
theorem a7k (T:Nat→yF):∀m,a3U (tC T m).fix
 |0=>fun step ps x h=>by simp[tC]at h
 |m+1=>fun step ps x h=>⟨m+1,h⟩
theorem aOj (hm:P.follows .mixedOrders=true) (hT:a0J P T):∀m,aQn P T (tC T m)
 |0=>⟨⟨⟨fun f hf=>by have:=hT f;rw[hf]at this;exact this,fun f hf=>by have:=hT f;rw[hf]at this;exact this⟩,fun f rows out ps rs h=>by simp[tC]at h⟩,fun i af hi ps ps' h=>by simp[tC]at h⟩
 |m+1=>by
  refine ⟨⟨⟨fun f hf=>by have:=hT f;rw[hf]at this;exact this,fun f hf=>by have:=hT f;rw[hf]at this;exact this⟩, ?_⟩, ?_⟩
  ·intro f rows out ps rs h aHW S w vs hst hgl hgz hargs
   have hf:=hT f
   simp only[tC]at h
   cases hTf:T f with
   |none=>rw[hTf]at h;simp at h
   |cmp=>rw[hTf]at h;simp at h
   |ixb=>rw[hTf]at h;simp at h
   |fR _ _ _=>rw[hTf]at h;simp at h
   |imp _=>rw[hTf]at h;simp at h
   |code af=>
    rw[hTf]at h hf aHW
    simp only[yF.sig,Option.some.injEq,Prod.mk.injEq]at aHW
    obtain ⟨rfl,rfl⟩:=aHW
    exact a5g hm (aOj hm hT m) (a7k T m) hf h hst hgl hgz hargs
   |given ps' rs' g=>
    rw[hTf]at h hf aHW
    simp only[yF.sig,Option.some.injEq,Prod.mk.injEq]at aHW
    obtain ⟨rfl,rfl⟩:=aHW
    exact hf rows out h S w vs hst hgl hgz hargs
  ·intro i af hi ps ps' h S pl St w yL r vals hun hSt hs hv
   have hf:=hT i
   rw[hi]at hf
   simp only[tC,hi]at h
   exact a5i hm (aOj hm hT m) (a7k T m) hf h hun hSt hs hv
end Go.Ev
namespace Go.Ev
section
variable {A B:Type}
theorem aS4 {F:Fr} {S:St} (ls:List L) (xs:List rD) (k:List Row→Option A):rowsOf F S ls xs k=(rowsOf F S ls xs some).bind k:=by
 rw[dH];rfl
theorem fQ (S:St) (id:Nat) (k:Obj→Option A):aHa S id k=(S[id]?).bind k:=by unfold aHa;split<;>rename_i e<;>rw[e]<;>rfl
theorem aLq (n:Nat) (t:TypeId) (ol:Option L) (F:Fr) (S:St) (k:Fr→St→Option A):aKX n t ol F S k=(aKX n t ol F S fun F S=>some (F,S)).bind fun p=>k p.1 p.2:=by
 unfold aKX
 cases ol with
 |some l=>
  simp only
  split
  ·simp only[fQ,Option.bind_assoc]
   congr 1;funext o
   rw[vH]
   congr 1;funext l' c
   rw[jC];rfl
  ·simp only[fQ,Option.bind_assoc]
   congr 1;funext o
   cases o<;>simp only[jC]<;>rfl
  ·rfl
 |none=>
  simp only
  split
  ·simp only[fQ,Option.bind_assoc]
   congr 1;funext o
   cases o<;>rfl
  ·rfl
theorem aNv:∀(fz:List (Nat×TypeId×Option L)) (F:Fr) (S:St) (k:Fr→St→Option A),aBm fz F S k=(aBm fz F S fun F S=>some (F,S)).bind fun p=>k p.1 p.2
 |[],F,S,k=>rfl
 |(n,t,ol)::r,F,S,k=>by
  simp only[aBm]
  rw[aLq]
  conv=>rhs;rw[aLq,Option.bind_assoc]
  congr 1;funext p
  rw[aNv r]
theorem aS5 (g:aSD) (F:Fr) (S:St) (k:Fr→St→Option A):wM g F S k=(wM g F S fun F S=>some (F,S)).bind fun p=>k p.1 p.2:=by
 cases g with
 |lft n off e l=>
  cases off with
  |none=>
   simp only[wM]
   split
   ·simp only[jC];rfl
   ·rfl
  |some off=>
   simp only[wM]
   split
   ·simp only[fQ,Option.bind_assoc]
    congr 1;funext o
    cases o<;>simp only
    case cells c vs=>
     split
     ·simp only[jC];rfl
     ·rfl
    all_goals rfl
   ·rfl
 |a9r n e l=>simp only[wM];exact aLq _ _ _ _ _ _
 |a9q n off e l=>
  simp only[wM]
  split
  ·simp only[fQ,Option.bind_assoc]
   congr 1;funext o
   cases o<;>simp only
   case cells c vs=>
    split
    ·simp only[jC];rfl
    ·rfl
   all_goals rfl
  ·rfl
 |a9s n l=>
  simp only[wM]
  split
  ·simp only[fQ,Option.bind_assoc]
   congr 1;funext o
   simp only[vH,jC];rfl
  ·rfl
 |a9u n=>
  simp only[wM]
  split
  ·simp only[fQ,Option.bind_assoc]
   congr 1;funext o
   simp only[oK,zX];rfl
  ·rfl
 |a9t n e l=>
  simp only[wM]
  split
  ·simp only[fQ,Option.bind_assoc]
   congr 1;funext o
   simp only[oK]
   congr 1;funext l' rows i av
   split
   ·simp only[fQ,Option.bind_assoc,vH,jC,sI];rfl
   ·rfl
  ·rfl
 |frz n off e l=>
  simp only[wM]
  split
  ·simp only[fQ,Option.bind_assoc]
   congr 1;funext o
   cases o<;>simp only
   case cells c vs=>
    split
    ·simp only[Option.bind_assoc,vH,jC];rfl
    ·rfl
   all_goals rfl
  ·rfl
end
structure Logic (I:Type)where
 R:∀{A:Type},(I→Option A)→Prop
 const:∀{A:Type} (a:Option A),R (fun _=>a)
 bind:∀{A B:Type} (a:I→Option A) (f:I→A→Option B),R a→(∀x,R (fun i=>f i x))→R (fun i=>(a i).bind (f i))
def stepOf (E:Env) (c:rB) (sh:Shape) (outs:List (eB×Shape)):(List PV→Option (Nat×List PV))→List PV→Option (Nat×List PV):=aHb (fun F S k=>oM E c F S k) sh outs
structure aHj {I:Type} (Λ:Logic I) (E:I→Env):Prop where
 pc:∀f r,Λ.R (fun i=>(E i).pc f r)
 ic:∀f r,Λ.R (fun i=>(E i).ic f r)
 fix:∀c sh outs,(∀X:I→List PV→Option (Nat×List PV),(∀ps,Λ.R (fun i=>X i ps))→∀ps,Λ.R (fun i=>stepOf (E i) c sh outs (X i) ps))→∀ps,Λ.R (fun i=>(E i).fix (stepOf (E i) c sh outs) ps)
section
variable {I:Type} {Λ:Logic I} {E:I→Env}
theorem a90 {E E':Env} {F:Fr} {S:St} (o:Obj) (op:jP) (base:Nat) (h1:∀f ps rs xs,op≠ .call f ps rs xs) (h2:∀t ps rs x xs,op≠ .callv t ps rs x xs):rG E F S o op base cB=rG E' F S o op base cB:=by
 cases op<;>first
  |rfl
  |exact absurd rfl (h1 _ _ _ _)
  |exact absurd rfl (h2 _ _ _ _ _)
theorem a3W (hE:aHj Λ E) (F:Fr) (S:St) (o:Obj) (op:jP) (base:Nat):Λ.R (fun i=>rG (E i) F S o op base cB):=by
 by_cases h1:∃f ps rs xs,op= .call f ps rs xs
 ·obtain ⟨f,ps,rs,xs,rfl⟩:=h1
  have:(fun i=>rG (E i) F S o (.call f ps rs xs) base cB)=fun i=>(rowsOf F S ps xs some).bind fun rows=>((E i).pc f rows).bind fun out=>cB (aZS rs out) none:=by
   funext i;simp only[rG];rw[aS4]
  rw[this]
  exact Λ.bind _ _ (Λ.const _) fun rows=>Λ.bind _ _ (hE.pc f rows) fun _=>Λ.const _
 ·by_cases h2:∃t ps rs x xs,op= .callv t ps rs x xs
  ·obtain ⟨t,ps,rs,x,xs,rfl⟩:=h2
   simp only[rG]
   split
   ·rename_i t' r e
    cases hb:Nat.beq t t' with
    |false=>simp only[check];exact Λ.const _
    |true=>
     simp only[check]
     have:(fun i=>rowsOf F S ps xs fun rows=>(aOH (E i) (at_ r 0) rows).bind fun out=>cB (aZS rs out) none)=fun i=>(rowsOf F S ps xs some).bind fun rows=>(aOH (E i) (at_ r 0) rows).bind fun out=>cB (aZS rs out) none:=by
      funext i;rw[aS4]
     rw[this]
     refine Λ.bind _ _ (Λ.const _) fun rows=>Λ.bind _ _ ?_ fun _=>Λ.const _
     unfold aOH
     split
     ·exact hE.pc _ _
     ·exact Λ.const _
   ·exact Λ.const _
  ·have:(fun i=>rG (E i) F S o op base cB)=fun _=>rG ⟨fun _ _=>none,fun _ _=>none,fun _ _=>none⟩ F S o op base cB:=by
    funext i
    exact a90 o op base (fun f ps rs xs e=>h1 ⟨f,ps,rs,xs,e⟩) (fun t ps rs x xs e=>h2 ⟨t,ps,rs,x,xs,e⟩)
   rw[this];exact Λ.const _
theorem a92 (hE:aHj Λ E) (F:Fr) (S:St) (op:jP) (base:Nat):Λ.R (fun i=>op1 (E i) F S op base):=by
 by_cases hc:∃i f en ex ids new x args,op= .aBZ i f en ex ids new x args
 ·obtain ⟨j,f,en,ex,ids,new,x,args,rfl⟩:=hc
  simp only[op1,opK]
  have bJq:∀{A:Type} (k:I→List AV→Option A),(∀vs,Λ.R (fun i=>k i vs))→Λ.R (fun i=>vM F f x args (k i)):=by
   intro A k hk
   unfold vM
   cases x with
   |none=>exact hk _
   |some y=>
    simp only
    split
    ·rename_i f' caps e
     cases hb:Nat.beq f f' with
     |false=>simp only[check];exact Λ.const _
     |true=>simp only[check];exact hk _
    ·exact Λ.const _
  refine bJq _ fun vs=> ?_
  generalize (Shape.under ids.length en&&Shape.under (ids++xE (base+new) (ex.objs.length - ids.length)).length ex&&aId S (xE (base+new) (ex.objs.length - ids.length))&&nodupB (ids++xE (base+new) (ex.objs.length - ids.length))&&Nat.ble ids.length ex.objs.length&&aJ2 en.objs ex.objs)=b
  cases b with
  |false=>simp only[check];exact Λ.const _
  |true=>
   simp only[check]
   exact Λ.bind _ _ (Λ.const _) fun ps=>Λ.bind _ _ (hE.ic j ps) fun ps'=>Λ.const _
 ·have h1:∀i f en ex ids new x args,op≠ .aBZ i f en ex ids new x args:=fun i f en ex ids new x args e=>hc ⟨i,f,en,ex,ids,new,x,args,e⟩
  have:(fun i=>op1 (E i) F S op base)=fun i=>match tgt F op base with
   |none=>(rG (E i) F S .dead op base cB).bind fun x=>some (x.1,[],aIe F op)
   |some id=>(S[id]?).bind fun o=>(rG (E i) F S o op base cB).bind fun x=>some (x.1,a65 id x.2,id::aIe F op):=by
   funext i
   unfold op1
   rw[aDu h1]
   cases tgt F op base with
   |none=>simp only;rw[aD5]
   |some id=>
    simp only
    rw[fQ]
    congr 1;funext o
    rw[aD5]
  rw[this]
  cases tgt F op base with
  |none=>exact Λ.bind _ _ (a3W hE _ _ _ _ _) fun _=>Λ.const _
  |some id=>exact Λ.bind _ _ (Λ.const _) fun o=>Λ.bind _ _ (a3W hE _ _ _ _ _) fun _=>Λ.const _
theorem aU6 {A:Type} (hE:aHj Λ E) (draw:Bool) (base:Nat) (k:I→Fr→St→Option A) (hk:∀F S,Λ.R (fun i=>k i F S)):∀(ops:List lK) (seen:List aRt) (F:Fr) (S:St),Λ.R (fun i=>aIN (E i) draw base ops seen F S (k i))
 |[],seen,F,S=>hk F S
 |o::rest,seen,F,S=>by
  have skip:∀F:Fr,Λ.R (fun i=>aIN (E i) draw base rest (match (generalizing:=false) draw with |true=>seen++[([],[])]|false=>[]) (F.put o.dst .und) S (k i)):=fun F=>aU6 hE draw base k hk rest _ _ _
  have run:∀F:Fr,Λ.R (fun i=>opK (E i) F S o.op base fun v us rd=>check (!draw ||aB1 (us.map (·.1),rd) o.bef seen 0) (aIN (E i) draw base rest (match (generalizing:=false) draw with |true=>seen++[(us.map (·.1),rd)]|false=>[]) (F.put o.dst v) (zF us S) (k i))):=by
   intro F
   have:(fun i=>opK (E i) F S o.op base fun v us rd=>check (!draw ||aB1 (us.map (·.1),rd) o.bef seen 0) (aIN (E i) draw base rest (match (generalizing:=false) draw with |true=>seen++[(us.map (·.1),rd)]|false=>[]) (F.put o.dst v) (zF us S) (k i)))=
    fun i=>(op1 (E i) F S o.op base).bind fun x=>check (!draw ||aB1 (x.2.1.map (·.1),x.2.2) o.bef seen 0) (aIN (E i) draw base rest (match (generalizing:=false) draw with |true=>seen++[(x.2.1.map (·.1),x.2.2)]|false=>[]) (F.put o.dst x.1) (zF x.2.1 S) (k i)):=by
    funext i;rw[aYU]
   rw[this]
   refine Λ.bind _ _ (a92 hE _ _ _ _) fun x=> ?_
   generalize (!draw ||aB1 (x.2.1.map (·.1),x.2.2) o.bef seen 0)=b
   cases b with
   |false=>simp only[check];exact Λ.const _
   |true=>simp only[check];exact aU6 hE draw base k hk rest _ _ _
  simp only[aIN]
  split
  ·exact run F
  ·split
   ·split
    ·split
     ·exact run _
     ·exact skip _
    ·split
     ·exact skip _
     ·exact run _
   ·exact skip _
   ·exact Λ.const _
theorem aU7 {A:Type} (k:I→eB→Fr→St→Option A) (hk:∀e F S,Λ.R (fun i=>k i e F S)):∀(outs:List (eB×Shape)) (i0:Nat) (ps:List PV),Λ.R (fun i=>aZU (k i) outs i0 ps)
 |[],_,_=>Λ.const _
 |[(e,sh)],_,ps=>by simp only[aZU,unpack];exact hk _ _ _
 |(e,sh)::b::r,0,ps=>by simp only[aZU,unpack];exact hk _ _ _
 |(e,sh)::b::r,j+1,ps=>by simp only[aZU];exact aU7 k hk (b::r) j ps
theorem aOk (hE:aHj Λ E):∀(c:rB) {A:Type} (F:Fr) (S:St) (k:I→eB→Fr→St→Option A),(∀e F S,Λ.R (fun i=>k i e F S))→Λ.R (fun i=>oM (E i) c F S (k i)):=by
 intro c
 induction c with
 |skip=>intro A F S k hk;exact hk _ _ _
 |ghost g c ih=>
  intro A F S k hk
  have:(fun i=>oM (E i) (.ghost g c) F S (k i))=fun i=>(wM g F S fun F S=>some (F,S)).bind fun p=>oM (E i) c p.1 p.2 (k i):=by
   funext i;simp only[oM];rw[aS5]
  rw[this]
  exact Λ.bind _ _ (Λ.const _) fun p=>ih _ _ _ hk
 |post g c ih=>
  intro A F S k hk
  simp only[oM]
  refine ih F S _ fun e F S=> ?_
  cases e with
  |normal=>
   have:(fun i=>wM g F S (k i .normal))=fun i=>(wM g F S fun F S=>some (F,S)).bind fun p=>k i .normal p.1 p.2:=by
    funext i;rw[aS5]
   simp only[this]
   exact Λ.bind _ _ (Λ.const _) fun p=>hk _ _ _
  |exit id=>exact hk _ _ _
  |ret=>exact hk _ _ _
 |region fz ops draw n=>
  intro A F S k hk
  have:(fun i=>oM (E i) (.region fz ops draw n) F S (k i))=fun i=>(aBm fz F S fun F S=>some (F,S)).bind fun p=>aIN (E i) draw p.2.length ops [] p.1 (p.2++List.replicate n .fresh) (k i .normal):=by
   funext i;simp only[oM];rw[aNv]
  rw[this]
  exact Λ.bind _ _ (Λ.const _) fun p=>aU6 hE _ _ _ (fun F S=>hk _ _ _) _ _ _ _
 |seq a b iha ihb=>
  intro A F S k hk
  simp only[oM]
  refine iha F S _ fun e F S=> ?_
  cases e with
  |normal=>exact ihb F S k hk
  |exit id=>exact hk _ _ _
  |ret=>exact hk _ _ _
 |cond c a b iha ihb=>
  intro A F S k hk
  simp only[oM]
  split
  ·split
   ·exact iha F S k hk
   ·exact ihb F S k hk
  ·exact Λ.const _
 |block id c ih=>
  intro A F S k hk
  simp only[oM]
  refine ih F S _ fun e F S=> ?_
  cases e with
  |normal=>exact hk _ _ _
  |exit id'=>
   simp only
   split
   ·exact hk _ _ _
   ·exact hk _ _ _
  |ret=>exact hk _ _ _
 |loop sh outs c ih=>
  intro A F S k hk
  simp only[oM]
  split
  ·rename_i ps hp
   refine Λ.bind _ _ (hE.fix c sh outs (fun X hX ps=> ?_) ps) fun x=>aU7 k hk outs _ _
   simp only[stepOf,aHb,unpack]
   refine ih _ _ _ fun e F S=> ?_
   cases e with
   |normal=>
    simp only
    split
    ·exact hX _
    ·exact Λ.const _
   |exit id=>exact Λ.const _
   |ret=>exact Λ.const _
  ·exact Λ.const _
 |join outs c ih=>
  intro A F S k hk
  simp only[oM]
  exact Λ.bind _ _ (ih F S _ fun e F S=>Λ.const _) fun x=>aU7 k hk outs _ _
 |exit id=>intro A F S k hk;exact hk _ _ _
 |ret=>intro A F S k hk;exact hk _ _ _
 |bad=>intro A F S k hk;exact Λ.const _
theorem aU8 (hE:aHj Λ E) (f:oC) (rows:List Row):Λ.R (fun i=>cD (E i) f rows):=by
 unfold cD
 split
 ·refine aOk hE _ _ _ _ fun e F S=> ?_
  cases e<;>exact Λ.const _
 ·exact Λ.const _
theorem aU9 (hE:aHj Λ E) (f:u6) (ps:List PV):Λ.R (fun i=>aB2 (E i) f ps):=by
 unfold aB2 unpack
 refine aOk hE _ _ _ _ fun e F S=> ?_
 cases e<;>exact Λ.const _
end
def OLe {A:Type} (a b:Option A):Prop:=∀x,a=some x→b=some x
def aVa:Logic Bool where
 R a:=OLe (a false) (a true)
 const _:=fun _ h=>h
 bind a f ha hf:=fun y h=>by
  obtain ⟨x,h1,h2⟩:=Option.bind_eq_some_iff.1 h
  exact Option.bind_eq_some_iff.2 ⟨x,ha x h1,hf x y h2⟩
theorem aA5 {step step':(List PV→Option (Nat×List PV))→List PV→Option (Nat×List PV)} (h:∀X X',(∀ps,OLe (X ps) (X' ps))→∀ps,OLe (step X ps) (step' X' ps)):∀(n m:Nat),n≤m→∀ps,OLe (aDi step n ps) (aDi step' m ps)
 |0,_,_,_=>fun _ h=>by simp[aDi]at h
 |n+1,0,hnm,_=>by omega
 |n+1,m+1,hnm,ps=>h _ _ (aA5 h n m (by omega)) ps
theorem aKe (E:Env) (c:rB) (sh:Shape) (outs:List (eB×Shape)) (X X':List PV→Option (Nat×List PV)) (hX:∀ps,OLe (X ps) (X' ps)) (ps:List PV):OLe (stepOf E c sh outs X ps) (stepOf E c sh outs X' ps):=by
 have hR:aHj aVa (fun _:Bool=>E):=⟨fun f r=>aVa.const _,fun f r=>aVa.const _,fun c sh outs h ps=>aVa.const _⟩
 simp only[stepOf,aHb,unpack]
 refine aOk hR c _ _ (fun b e F S=>match e with
  | .normal=>(match pack sh F S with |some ps'=>(match b with |false=>X ps' |true=>X' ps')|none=>none)
  |e=>aD2 e F S outs 0) fun e F S=> ?_
 cases e with
 |normal=>
  simp only[aVa]
  split
  ·exact hX _
  ·exact fun _ h=>h
 |exit id=>exact fun _ h=>h
 |ret=>exact fun _ h=>h
section
variable (T:Nat→yF)
theorem aVb:∀n,aHj aVa (fun b:Bool=>match b with |false=>tC T n |true=>tC T (n+1))
 |0=>⟨fun f r=>fun x h=>by simp[tC]at h,fun f r=>fun x h=>by simp[tC]at h,fun c sh outs h ps=>fun x hx=>by simp[tC]at hx⟩
 |n+1=>by
  have ih:=aVb n
  refine ⟨fun f r=> ?_,fun f r=> ?_,fun c sh outs h ps=> ?_⟩
  ·show OLe ((tC T (n+1)).pc f r) ((tC T (n+1+1)).pc f r)
   simp only[tC]
   cases T f with
   |code af=>exact aU8 ih af r
   |given ps rs g=>exact fun _ h=>h
   |_=>exact fun _ h=>h
  ·show OLe ((tC T (n+1)).ic f r) ((tC T (n+1+1)).ic f r)
   simp only[tC]
   cases T f with
   |imp af=>exact aU9 ih af r
   |_=>exact fun _ h=>h
  ·show OLe ((tC T (n+1)).fix (stepOf (tC T (n+1)) c sh outs) ps) ((tC T (n+1+1)).fix (stepOf (tC T (n+1+1)) c sh outs) ps)
   exact aA5 (fun X X' hX ps=>h (fun b=>match b with |false=>X |true=>X') hX ps) (n+1) (n+2) (by omega) ps
theorem a3X {n m:Nat} (h:n≤m) (f:Nat) (r:List Row):OLe ((tC T n).pc f r) ((tC T m).pc f r):=by
 induction h with
 |refl=>exact fun _ h=>h
 |step _ ih=>exact fun x hx=>(aVb T _).pc f r x (ih x hx)
theorem a3Y {n m:Nat} (h:n≤m) (f:Nat) (r:List PV):OLe ((tC T n).ic f r) ((tC T m).ic f r):=by
 induction h with
 |refl=>exact fun _ h=>h
 |step _ ih=>exact fun x hx=>(aVb T _).ic f r x (ih x hx)
end
def aTu:Logic (Option Nat)where
 R a:=(∀x,a none=some x→∃n0,∀n,n0≤n→a (some n)=some x)∧∀n x,a (some n)=some x→a none=some x
 const a:=⟨fun x h=>⟨0,fun _ _=>h⟩,fun _ _ h=>h⟩
 bind a f ha hf:=by
  refine ⟨fun y h=> ?_,fun n y h=> ?_⟩
  ·obtain ⟨x,h1,h2⟩:=Option.bind_eq_some_iff.1 h
   obtain ⟨n1,g1⟩:=ha.1 x h1
   obtain ⟨n2,g2⟩:=(hf x).1 y h2
   exact ⟨n1+n2,fun n hn=>Option.bind_eq_some_iff.2 ⟨x,g1 n (by omega),g2 n (by omega)⟩⟩
  ·obtain ⟨x,h1,h2⟩:=Option.bind_eq_some_iff.1 h
   exact Option.bind_eq_some_iff.2 ⟨x,ha.2 n x h1,(hf x).2 n y h2⟩
open Classical in
noncomputable def a5j {A:Type} (a:Nat→Option A):Option A:=if h:∃n x,a n=some x then a (Classical.choose h)else none
theorem aY {A:Type} {a:Nat→Option A} (hm:∀n m,n≤m→OLe (a n) (a m)) {x:A}:a5j a=some x↔∃n,a n=some x:=by
 unfold a5j
 constructor
 ·intro h
  split at h
  ·exact ⟨_,h⟩
  ·cases h
 ·rintro ⟨n,hn⟩
  have hex:∃n x,a n=some x:=⟨n,x,hn⟩
  rw[dif_pos hex]
  obtain ⟨y,hy⟩:=Classical.choose_spec hex
  have h1:=hm _ (Classical.choose hex+n) (Nat.le_add_right _ _) y hy
  have h2:=hm n (Classical.choose hex+n) (Nat.le_add_left _ _) x hn
  rw[h1]at h2
  rw[hy,h2]
noncomputable def eA (T:Nat→yF):Env:=⟨fun f r=>a5j fun n=>(tC T n).pc f r,fun f r=>a5j fun n=>(tC T n).ic f r,fun step ps=>a5j fun n=>aDi step n ps⟩
section
variable (T:Nat→yF)
theorem gQ {f:Nat} {r out:List Row}:(eA T).pc f r=some out↔∃n,(tC T n).pc f r=some out:=aY (fun n m h=>a3X T h f r)
theorem aYZ {f:Nat} {r out:List PV}:(eA T).ic f r=some out↔∃n,(tC T n).ic f r=some out:=aY (fun n m h=>a3Y T h f r)
theorem a3Z (n:Nat) (step:(List PV→Option (Nat×List PV))→List PV→Option (Nat×List PV)) (ps:List PV):(tC T n).fix step ps=aDi step n ps:=by cases n<;>rfl
theorem a30:aHj aTu (fun o:Option Nat=>match o with |some n=>tC T n |none=>eA T):=by
 refine ⟨fun f r=>⟨fun x h=> ?_,fun n x h=>(gQ T).2 ⟨n,h⟩⟩,fun f r=>⟨fun x h=> ?_,fun n x h=>(aYZ T).2 ⟨n,h⟩⟩,fun c sh outs h ps=> ?_⟩
 ·obtain ⟨n,hn⟩:=(gQ T).1 h
  exact ⟨n,fun m hm=>a3X T hm f r x hn⟩
 ·obtain ⟨n,hn⟩:=(aYZ T).1 h
  exact ⟨n,fun m hm=>a3Y T hm f r x hn⟩
 ·have hj:∀j ps,aTu.R (fun i=>aDi (stepOf (match i with |some n=>tC T n |none=>eA T) c sh outs) j ps):=by
   intro j
   induction j with
   |zero=>exact fun ps=>aTu.const none
   |succ j ih=>exact fun ps=>h (fun i=>aDi (stepOf (match i with |some n=>tC T n |none=>eA T) c sh outs) j) ih ps
  refine ⟨fun x hx=> ?_,fun n x hx=> ?_⟩
  ·have hx:a5j (fun n=>aDi (stepOf (eA T) c sh outs) n ps)=some x:=hx
   obtain ⟨j,hx⟩:=(aY (fun n m h=>aA5 (aKe (eA T) c sh outs) n m h ps)).1 hx
   obtain ⟨n0,h0⟩:=(hj j ps).1 x hx
   refine ⟨n0+j,fun n hn=> ?_⟩
   show (tC T n).fix (stepOf (tC T n) c sh outs) ps=some x
   rw[a3Z]
   exact aA5 (aKe _ c sh outs) j n (by omega) ps x (h0 n (by omega))
  ·have hx:(tC T n).fix (stepOf (tC T n) c sh outs) ps=some x:=hx
   rw[a3Z]at hx
   have:=(hj n ps).2 n x hx
   exact (aY (fun n m h=>aA5 (aKe (eA T) c sh outs) n m h ps)).2 ⟨n,this⟩
theorem aUh {A:Type} {a b:Option A} (h:∀x,a=some x↔b=some x):a=b:=by
 cases a with
 |none=>cases b with
  |none=>rfl
  |some y=>exact ((h y).2 rfl)
 |some x=>exact ((h x).1 rfl).symm
theorem nA {f:Nat} {af:oC} (hf:T f= .code af) (r:List Row):(eA T).pc f r=cD (eA T) af r:=by
 have hR:=aU8 (a30 T) af r
 refine aUh fun x=>⟨fun h=> ?_,fun h=> ?_⟩
 ·obtain ⟨n,hn⟩:=(gQ T).1 h
  cases n with
  |zero=>simp[tC]at hn
  |succ n=>
   simp only[tC,hf]at hn
   exact hR.2 n x hn
 ·obtain ⟨n0,h0⟩:=hR.1 x h
  refine (gQ T).2 ⟨n0+1, ?_⟩
  simp only[tC,hf]
  exact h0 n0 (Nat.le_refl _)
theorem eH {f:Nat} {af:u6} (hf:T f= .imp af) (r:List PV):(eA T).ic f r=aB2 (eA T) af r:=by
 have hR:=aU9 (a30 T) af r
 refine aUh fun x=>⟨fun h=> ?_,fun h=> ?_⟩
 ·obtain ⟨n,hn⟩:=(aYZ T).1 h
  cases n with
  |zero=>simp[tC]at hn
  |succ n=>
   simp only[tC,hf]at hn
   exact hR.2 n x hn
 ·obtain ⟨n0,h0⟩:=hR.1 x h
  refine (aYZ T).2 ⟨n0+1, ?_⟩
  simp only[tC,hf]
  exact h0 n0 (Nat.le_refl _)
theorem aXM {f:Nat} {ps rs:List L} {g:List Row→Option (List Row)} (hf:T f= .given ps rs g) (r:List Row):(eA T).pc f r=g r:=by
 refine aUh fun x=>⟨fun h=> ?_,fun h=> ?_⟩
 ·obtain ⟨n,hn⟩:=(gQ T).1 h
  cases n with
  |zero=>simp[tC]at hn
  |succ n=>simpa only[tC,hf]using hn
 ·exact (gQ T).2 ⟨1,by simpa only[tC,hf]using h⟩
theorem a7l (c:rB) (sh:Shape) (outs:List (eB×Shape)) (ps:List PV):
 (eA T).fix (stepOf (eA T) c sh outs) ps=stepOf (eA T) c sh outs ((eA T).fix (stepOf (eA T) c sh outs)) ps:=by
 have hm:=fun ps n m h=>aA5 (aKe (eA T) c sh outs) n m h ps
 refine aUh fun x=>⟨fun h=> ?_,fun h=> ?_⟩
 ·obtain ⟨n,hn⟩:=(aY (hm ps)).1 h
  cases n with
  |zero=>simp[aDi]at hn
  |succ n=>exact aKe (eA T) c sh outs _ _ (fun ps y hy=>(aY (hm ps)).2 ⟨n,hy⟩) ps x hn
 ·
  have hR:aHj aTu (fun _:Option Nat=>eA T):=⟨fun f r=>aTu.const _,fun f r=>aTu.const _,fun c sh outs h ps=>aTu.const _⟩
  have hX:∀ps,aTu.R (fun i:Option Nat=>match i with |some n=>aDi (stepOf (eA T) c sh outs) n ps |none=>(eA T).fix (stepOf (eA T) c sh outs) ps):=by
   intro ps
   refine ⟨fun x hx=> ?_,fun n x hx=>(aY (hm ps)).2 ⟨n,hx⟩⟩
   obtain ⟨n,hn⟩:=(aY (hm ps)).1 hx
   exact ⟨n,fun m hmn=>hm ps n m hmn x hn⟩
  have key:aTu.R (fun i:Option Nat=>stepOf (eA T) c sh outs (fun ps=>match i with |some n=>aDi (stepOf (eA T) c sh outs) n ps |none=>(eA T).fix (stepOf (eA T) c sh outs) ps) ps):=by
   simp only[stepOf,aHb,unpack]
   refine aOk hR c _ _ (fun i e F S=>match e with
    | .normal=>(match pack sh F S with |some ps'=>(match i with |some n=>aDi (stepOf (eA T) c sh outs) n ps' |none=>(eA T).fix (stepOf (eA T) c sh outs) ps')|none=>none)
    |e=>aD2 e F S outs 0) fun e F S=> ?_
   cases e with
   |normal=>
    simp only
    split
    ·exact hX _
    ·exact aTu.const _
   |exit id=>exact aTu.const _
   |ret=>exact aTu.const _
  obtain ⟨n0,h0⟩:=key.1 x h
  exact (aY (hm ps)).2 ⟨n0+1,h0 n0 (Nat.le_refl _)⟩
end
end Go.Ev
