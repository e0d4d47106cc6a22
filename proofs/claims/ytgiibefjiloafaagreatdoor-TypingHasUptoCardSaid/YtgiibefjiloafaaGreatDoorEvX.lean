/-
  Functions: the evaluator's answer is what a call returns.
-/
import Derived.Test.YtgiibefjiloafaaGreatDoorEvT
import Derived.Laws.Sem
set_option linter.all false
set_option maxRecDepth 100000
namespace Go.Ev
variable {E:Env} {P:Program} {T:Nat→AFn} {S S':Stab} {pl pl':Pl} {St St':Ev.St} {F F':Fr} {a:Act} {w w':World}
variable {S0:Stab} {w0:World} {n:Nat}
abbrev pureCtx (S0:Stab) (w0:World) (n:Nat):Ctx:=⟨fun _=>False,S0,w0,n,0,fun _ _=>False,fun _ _ h=>h.elim⟩
def Stab.all (S0:Stab) (w0 w:World):Stab:=fun b o=>if b<w0.heap.size then S0 b o else w.cell? ⟨b,o,none⟩
theorem Inv.gnew (hI:Inv P T (pureCtx S0 w0 n) S pl St F a w) (b o:Nat) (hb:b<w0.heap.size):S b o=S0 b o:=hI.grow.new b o hb (fun h=>h)
theorem Inv.yng (hI:Inv P T (pureCtx S0 w0 n) S pl St F a w) (b:Nat) (hb:Owns pl St b):w0.heap.size≤b:=(hI.young b hb).resolve_left (fun h=>h)
theorem Inv.le_all (hI:Inv P T (pureCtx S0 w0 n) S pl St F a w):S.le (Stab.all S0 w0 w):=by
 intro b o v h
 simp only[Stab.all]
 split
 ·rename_i hb;rw[←hI.gnew b o hb];exact h
 ·exact hI.sim.stab _ _ _ h
theorem Inv.grow_all (hI:Inv P T (pureCtx S0 w0 n) S pl St F a w) (h0:StabIn S0 w0):Grow (fun _=>False) S0 w0 (Stab.all S0 w0 w) w:=
 ⟨hI.grow.os,hI.grow.tape,hI.grow.output,hI.grow.size,hI.grow.block,Stab.le_trans hI.grow.mono hI.le_all,fun b o hb _=>by simp[Stab.all,hb]⟩
theorem Inv.stab_all (hI:Inv P T (pureCtx S0 w0 n) S pl St F a w):StabIn (Stab.all S0 w0 w) w:=by
 intro b o v h
 simp only[Stab.all]at h
 split at h
 ·rename_i hb;rw[←hI.gnew b o hb]at h;exact hI.sim.stab _ _ _ h
 ·exact h
def elB (P:Program) (l:L) (ol:Option L):Bool:=match ol with
 |none=>true
 |some le=>(match l with | .one (.sl e)=>layB P e le |_=>false)
theorem arr_all {id v:Nat} {e:TypeId} {le:L} {c:C} (hI:Inv P T (pureCtx S0 w0 n) S pl St F a w) (ho:St[id]? =some (.arr v le c)) (rows:List Row) (hc:c= .sl rows):
 ∃cells:List Value,RepRows P T (Stab.all S0 w0 w) le cells rows∧(∀p,p<rows.length*le.n→Stab.all S0 w0 w (pl.blk id) p=some (cells.getD p undef))∧rows.length≤pl.cap id:=by
 subst hc
 rcases hI.sim.objs _ _ ho with hq |⟨rows',cur,e2,i2,hq,hh,q1,q2,q3,q4,q5,q6,q7⟩
 ·cases hq
 ·cases hq
  have hrr:RepRows P T S le cur.toList rows:=⟨by rw[show cur.toList.length=cur.size from Array.length_toList,q6];exact Nat.mul_le_mul_right _ q4,q7⟩
  refine ⟨cur.toList,hrr.mono hI.le_all,fun p hp=> ?_,q4⟩
  have hy:=hI.yng (pl.blk id) ⟨id,_,ho,rfl,rfl,rfl⟩
  have hge:¬pl.blk id<w0.heap.size:=by omega
  simp only[Stab.all,if_neg hge]
  rw[cell_of_row w _ _ _ _ _ hh]
  have hpl:p<cur.toList.length:=Nat.lt_of_lt_of_le hp hrr.len
  have hpc:p<cur.size:=by simpa using hpl
  simp[List.getD_eq_getElem?_getD,hpc]
theorem toD_sound {l:L} {ol:Option L} {av:AV} {v:Value} {row:Row} (hI:Inv P T (pureCtx S0 w0 n) S pl St F a w) (hel:elB P l ol=true) (hv:RelV P T S pl St av v) (h:toD St l ol av=some row):RepL P T (Stab.all S0 w0 w) l v row:=by
 unfold toD at h
 split at h
 ·rename_i l' r
  split at h
  ·rename_i hb
   obtain rfl:=L.beq_eq hb
   simp only[Option.some.injEq]at h
   subst h
   have:=hv.of_d
   rw[this.nrm];exact this.mono hI.le_all
  ·simp at h
 ·rename_i id ver
  split at h
  ·rename_i l' r e
   split at h
   ·rename_i hb
    obtain rfl:=L.beq_eq hb
    simp only[Option.some.injEq]at h
    subst h
    have:=dat_sound hI.sim _ _ hv
    rw[e]at this
    have:=this.of_d
    rw[this.nrm];exact this.mono hI.le_all
   ·simp at h
  ·simp at h
 ·rename_i vs
  split at h
  ·rename_i l' r e
   split at h
   ·rename_i hb
    obtain rfl:=L.beq_eq hb
    simp only[Option.some.injEq]at h
    subst h
    have:=dat_sound hI.sim _ _ hv
    rw[e]at this
    have:=this.of_d
    rw[this.nrm];exact this.mono hI.le_all
   ·simp at h
  ·simp at h
 ·rename_i id ver
  split at h
  ·rename_i le
   split at h
   ·rename_i v' l' c ho
    split at h
    ·rename_i hb
     simp only[Bool.and_eq_true]at hb
     obtain rfl:=Nat.eq_of_beq_eq_true hb.1
     obtain rfl:=L.beq_eq hb.2
     simp only[Option.some.injEq]at h
     subst h
     simp only[elB]at hel
     split at hel
     ·rename_i e
      have hw:=hv.of_whole ho
      refine ⟨c,rfl, ?_⟩
      cases hc:c with
      |nils=>rw[hw.1 hc];exact .nils
      |sl rows=>
       rw[hw.2 rows hc]
       obtain ⟨cells,g1,g2,g3⟩:=arr_all (e:=e) hI ho rows hc
       exact g1.rep (o:=0) (layB_sound hel) g3 (fun p hp=>by rw[Nat.zero_add];exact g2 p hp)
      |_=>
       rcases hI.sim.objs _ _ ho with hq |⟨rows',cur,e2,i2,hq,_⟩<;>rw[hc]at hq<;>cases hq
     ·simp at hel
    ·simp at h
   ·simp at h
  ·simp at h
 ·rename_i id ver off len
  split at h
  ·rename_i le
   split at h
   ·rename_i v' l' c ho
    split at h
    ·rename_i hb
     simp only[Bool.and_eq_true]at hb
     obtain rfl:=Nat.eq_of_beq_eq_true hb.1
     obtain rfl:=L.beq_eq hb.2
     simp only[Option.some.injEq]at h
     subst h
     simp only[elB]at hel
     split at hel
     ·rename_i e
      refine ⟨_,rfl, ?_⟩
      rcases hI.sim.objs _ _ ho with hq |⟨rows,cur,e2,i2,hq,_⟩
      ·subst hq;exact (hv.own_not_nil ho).elim
      ·subst hq
       obtain ⟨ad,cap,rfl,h1,h2,h3⟩:=hv.of_own ho
       obtain ⟨cells,g1,g2,g3⟩:=arr_all (e:=e) hI ho rows rfl
       have hlen:((rows.drop off).take len).length=len:=by simp;omega
       have hL:=layB_sound hel
       simp only[C.rows]
       by_cases hz:len=0
       ·subst hz
        have:(rows.drop off).take 0=[]:=by simp
        rw[this]
        exact .sl (fun _ _=>undef) hL rfl (by omega) (by simp) (fun h=>absurd rfl h) (fun i j hi _=>by omega) (fun i j k hi _=>by omega)
       ·rw[h3 hz]
        have hrep:=RepRows.rep (P:=P) (T:=T) (S:=Stab.all S0 w0 w) (l:=le) (cells:=cells.drop (off*le.n)) (rows:=(rows.drop off).take len) (e:=e) (b:=pl.blk id) (o:=off*le.n) (cap:=cap)
         ⟨by
           have:=g1.len
           rw[hlen,List.length_drop]
           have hm:=Nat.mul_le_mul_right le.n h2
           rw[Nat.add_mul]at hm;omega,fun i r hi=>by
           have hi':=(List.getElem?_eq_some_iff.1 hi).1
           rw[hlen]at hi'
           have hr:rows[off+i]? =some r:=by
            rw[List.getElem?_take,if_pos hi',List.getElem?_drop]at hi;exact hi
           have:=g1.row (off+i) r hr
           rw[List.drop_drop,←Nat.add_mul];exact this⟩ hL (by rw[hlen];exact h1) (fun p hp=>by
           rw[hlen]at hp
           have hm:=Nat.mul_le_mul_right le.n h2
           rw[Nat.add_mul]at hm
           rw[g2 (off*le.n+p) (by omega)]
           simp[List.getD_eq_getElem?_getD])
        rw[hlen]at hrep
        exact hrep
     ·simp at hel
    ·simp at h
   ·simp at h
  ·simp at h
 ·simp at h
def okRes (P:Program):List ResultVar→List L→List (Bool×Nat×Option L)→Bool
 |[],[],[]=>true
 | .tmp t::rv,l::ls,(false,t',ol)::r=>Nat.beq t t'&&elB P l ol&&okRes P rv ls r
 | .cell a t::rv,l::ls,(true,a',ol)::r=>Nat.beq a a'&&layB P t l&&Nat.blt 0 l.n&&elB P l ol&&okRes P rv ls r
 |_,_,_=>false
def resOf (tmps:Array Value):ResultVar→Sem Value
 | .tmp t=>pure (tmps.getD t undef)
 | .cell a t=>do loadVar t (←asAddr (tmps.getD a undef))
theorem res_sound (hI:Inv P T (pureCtx S0 w0 n) S pl St F a w):∀(rvs:List ResultVar) (ls:List L) (rs:List (Bool×Nat×Option L)) (out:List Row),okRes P rvs ls rs=true→resK F St ls rs=some out→
 ∃vs,(rvs.mapM (resOf a.tmps)).run P w= .ok vs w∧ArgsOk P T (Stab.all S0 w0 w) ls vs out
 |[],[],[],out,_,h=>by
  simp only[resK,Option.some.injEq]at h
  subst h
  exact ⟨[],by simp, .nil⟩
 |rv::rvs,l::ls,(cell,t,ol)::rs,out,hok,h=>by
  simp only[resK]at h
  split at h
  ·rename_i ra rb ha hb
   simp only[Option.some.injEq]at h
   subst h
   have step:∀v,(resOf a.tmps rv).run P w= .ok v w→RepL P T (Stab.all S0 w0 w) l v ra→okRes P rvs ls rs=true→
    ∃vs,((rv::rvs).mapM (resOf a.tmps)).run P w= .ok vs w∧ArgsOk P T (Stab.all S0 w0 w) (l::ls) vs (ra::rb):=by
    intro v hr hrep hok
    obtain ⟨vs,h1,h2⟩:=res_sound hI rvs ls rs rb hok hb
    exact ⟨v::vs,by rw[List.mapM_cons];simp[hr,h1], .cons hrep h2⟩
   cases cell with
   |false=>
    cases rv with
    |tmp t'=>
     simp only[okRes,Bool.and_eq_true]at hok
     obtain rfl:=Nat.eq_of_beq_eq_true hok.1.1
     exact step _ (by simp[resOf]) (toD_sound hI hok.1.2 (hI.frame _) ha) hok.2
    |cell _ _=>simp[okRes]at hok
   |true=>
    cases rv with
    |tmp t'=>simp[okRes]at hok
    |cell a' ty=>
     simp only[okRes,Bool.and_eq_true]at hok
     obtain ⟨⟨⟨⟨k1,k2⟩,k3⟩,k4⟩,k5⟩:=hok
     obtain rfl:=Nat.eq_of_beq_eq_true k1
     have hpos:0<l.n:=by simpa using k3
     have hL:=layB_sound k2
     have run:∀(id:Nat) (cur:Array Value) (e:TypeId),w.heap[pl.blk id]? =some (.cells cur e (0,0))→cur.size=l.n→a.tmps.getD a' undef= .pointer (some ⟨pl.blk id,0,none⟩)→
      (resOf a.tmps (.cell a' ty)).run P w= .ok (mkV l fun j=>cur.toList.getD j undef) w:=by
      intro id cur e hh hsz hptr
      have hrun:=run_loadVar_cells (P:=P) hL ⟨pl.blk id,0,none⟩ rfl w (fun j=>cur.toList.getD j undef) hpos (fun j hj=>by
       simp only[Nat.zero_add]
       rw[cell_of_row w _ _ _ _ _ hh]
       have hjc:j<cur.size:=by omega
       simp[List.getD_eq_getElem?_getD,hjc])
      have hp':a.tmps[a']?.getD undef= .pointer (some ⟨pl.blk id,0,none⟩):=by simpa using hptr
      simp[resOf,hp',asAddr,hrun]
     simp only at ha
     split at ha
     ·rename_i id hg
      have hv:=hI.frame a'
      rw[hg]at hv
      split at ha
      ·rename_i l' row ho
       split at ha
       ·rename_i hlb
        obtain rfl:=L.beq_eq hlb
        simp only[Option.some.injEq]at ha
        subst ha
        obtain ⟨cur,e,hh,hr⟩:=hI.sim.objs _ _ ho
        have hrm:=hr.mono hI.le_all
        exact step _ (run id cur e hh (by have:=hr.clen;simpa[L.n]using this) (hv.of_ptr ho)) (RepL.mk hrm.rlen hrm.cell) k5
       ·simp at ha
      ·rename_i c vs ho
       obtain ⟨cur,e,hh,hsz,hr,hr1⟩:=hI.sim.objs _ _ ho
       split at ha
       ·rename_i ks
        have hagg:RelV P T S pl St (.agg vs) (.agg cur):= .agg_mk hsz (fun i hi=>hr1 i hi) hr
        have hrep:=toD_sound hI (ol:=none) rfl hagg ha
        obtain ⟨cs,hcs,hrr⟩:=hrep
        simp only[Value.agg.injEq]at hcs
        subst hcs
        have hcl:cur.size=(L.agg ks).n:=by have:=hrr.clen;simpa[L.n,L.ks]using this
        refine step _ (run id cur e hh hcl (hv.of_ptr_cells ho)) ?_ k5
        exact RepL.mk (l:= .agg ks) hrr.rlen (fun j k hj=>by simpa[List.getD_eq_getElem?_getD]using hrr.cell j k hj)
       ·rename_i k v
        have hrep:=toD_sound hI k4 (hr 0 v rfl) ha
        refine step _ (run id cur e hh (by rw[hsz];rfl) (hv.of_ptr_cells ho)) ?_ k5
        simpa[mkV,List.getD_eq_getElem?_getD]using hrep
       ·simp at ha
      ·simp at ha
     ·simp at ha
  ·simp at h
 |[],[],_::_,_,h,_=>by simp[okRes]at h
 |[],_::_,[],_,h,_=>by simp[okRes]at h
 |[],_::_,_::_,_,h,_=>by simp[okRes]at h
 |_::_,[],[],_,_,h=>by simp_all[resK,okRes]
 |_::_,[],_::_,_,_,h=>by simp[resK]at h
 |_::_,_::_,[],_,_,h=>by simp[resK]at h
def okFun (P:Program) (T:Nat→AFn) (f:Nat) (af:AFun):Bool:=
 match P.funcs[f]? with
 |some fn=>(fn.name != "runtime.NumGoroutine")&&(match fn.body with |some c=>okCode P T fn.ntmps 0 af.body c |none=>false)&&Nat.ble af.ps.length fn.ntmps&&okRes P fn.results.toList af.rs af.res
 |none=>false
theorem ArgsOk.tail {l ls v vs row rows} (h:ArgsOk P T S (l::ls) (v::vs) (row::rows)):ArgsOk P T S ls vs rows:=
 ⟨by simpa using h.vlen,by simpa using h.rlen,fun i l' hi=>by simpa[rowsAt]using h.arg (i+1) l' (by simpa using hi)⟩
theorem frame_rel:∀(ls:List L) (rows:List Row) (vs:List Value) (j:Nat),ArgsOk P T S ls vs rows→∀t val,(j≤t→t<j+ls.length→val=vs.getD (t - j) undef)→RelV P T S pl [] ((frame ls rows j).get t) val
 |[],_,_,_,_,t,val,_=> .undef
 |l::ls,[],_,_,h,_,_,_=>by have:=h.rlen;simp at this
 |l::ls,_::_,[],_,h,_,_,_=>by have:=h.vlen;simp at this
 |l::ls,row::rows,v::vs,j,h,t,val,hval=>by
  simp only[frame,Fr.get_cons,List.headD_cons,List.tail_cons]
  by_cases e:j=t
  ·subst e
   rw[if_pos rfl]
   have hv:=hval (Nat.le_refl _) (by simp)
   have h0:=h.arg 0 l rfl
   simp only[rowsAt,List.getD_cons_zero]at h0
   simp only[Nat.sub_self,List.getD_cons_zero]at hv
   rw[hv,h0.nrm];exact .d h0
  ·rw[if_neg e]
   refine frame_rel ls rows vs (j+1) h.tail t val (fun h1 h2=> ?_)
   rw[hval (by omega) (by simp;omega)]
   have:t - j=(t - (j+1))+1:=by omega
   rw[this,List.getD_cons_succ]
theorem results_eq (fn:Func) (tmps:Array Value):results fn tmps=(do let vs ←fn.results.mapM (resOf tmps);pure (if h:vs.size=1 then vs[0]else .tuple vs)):=by
 unfold results
 have:(fun x:ResultVar=>resOf tmps x)=resOf tmps:=rfl
 congr 1
theorem fun_sound {f:Nat} {af:AFun} {rows out:List Row} {S0:Stab} {w0:World} {vs:List Value} (hm:P.follows .mixedOrders=true) (hpc:EnvOk P T E) (hfix:FixOk E.fix) (hok:okFun P T f af=true) (h:runP E af rows=some out)
 (h0:StabIn S0 w0) (hgl:GlobOk P T S0) (hgz:GlobSz T w0) (hargs:ArgsOk P T S0 af.ps vs rows):
 (callFunc f vs.toArray).run P w0= .ok (.enter f vs.toArray) w0∧
 Calls P f vs.toArray w0 fun e w'=>∃out' S',e= .returned (retV out')∧Grow (fun _=>False) S0 w0 S' w'∧StabIn S' w'∧ArgsOk P T S' af.rs out' out:=by
 unfold okFun at hok
 split at hok
 ·rename_i fn hfn
  simp only[Bool.and_eq_true]at hok
  obtain ⟨⟨⟨hname,hbody⟩,hle⟩,hres⟩:=hok
  split at hbody
  ·rename_i c hc
   have hle:af.ps.length≤fn.ntmps:=by simpa using hle
   have hname:¬fn.name= "runtime.NumGoroutine" :=by simpa using hname
   refine ⟨by simp[callFunc,hfn,hname,hc], ?_⟩
   have hvl:=hargs.vlen
   have hI:Inv P T (pureCtx S0 w0 fn.ntmps) S0 ⟨fun _=>0,fun _=>0⟩ [] (frame af.ps rows 0) {tmps:=vs.toArray++Array.replicate (fn.ntmps - vs.toArray.size) undef,defers:=[]} w0:=by
    refine ⟨⟨h0,fun id o h=>by simp at h,fun id o h=>by simp at h,fun i j o o' h=>by simp at h,hgl,fun g t l row e=>⟨hgz g t l row e,fun id o h=>by simp at h⟩⟩,fun t=> ?_,by simp;omega,rfl, .refl _ _ _,fun b hb=>(by obtain ⟨id,o,h,_⟩:=hb;simp at h),fun _ _ h=>h.elim⟩
    refine frame_rel af.ps rows vs 0 hargs t _ (fun _ h2=> ?_)
    have h2:t<vs.length:=by omega
    simp[Array.getElem?_append,h2]
   unfold runP at h
   split at h
   ·refine calls_of_wp hfn hc (code_sound hm hpc hfix af.body c hbody hI h (fun e F St S pl a w hI h=> ?_))
    have fin:resK F St af.rs af.res=some out→a.defers=[]∧∃v,(results fn a.tmps).run P w= .ok v w∧(∃out' S',(Ending.returned v)= .returned (retV out')∧Grow (fun _=>False) S0 w0 S' w∧StabIn S' w∧ArgsOk P T S' af.rs out' out):=by
     intro h
     obtain ⟨vs',h1,h2⟩:=res_sound hI fn.results.toList af.rs af.res out hres h
     refine ⟨hI.defers,retV vs', ?_,vs',_,rfl,hI.grow_all h0,hI.stab_all,h2⟩
     have hq:(fn.results.mapM (resOf a.tmps)).run P w= .ok vs'.toArray w:=by
      rw[Array.mapM_eq_mapM_toList]
      simp[h1]
     rw[results_eq,Sem.run_bind,hq]
     simp only[Result.andThen_ok,Sem.run_pure]
     match vs' with
     |[]=>rfl
     |[v]=>rfl
     |_::_::_=>rfl
    cases e with
    |normal=>exact fin h
    |exit id=>simp at h
    |ret=>exact fin h
   ·simp at h
  ·simp at hbody
 ·simp at hok
def GivenOk (P:Program) (T:Nat→AFn) (f:Nat) (ps rs:List L) (g:List Row→Option (List Row)):Prop:=
 ∀rows out,g rows=some out→∀S w vs,StabIn S w→GlobOk P T S→GlobSz T w→ArgsOk P T S ps vs rows→
  (callFunc f vs.toArray).run P w= .ok (.enter f vs.toArray) w∧
  Calls P f vs.toArray w fun e w'=>∃out' S',e= .returned (retV out')∧Grow (fun _=>False) S w S' w'∧StabIn S' w'∧ArgsOk P T S' rs out' out
def resSB (P:Program):ResultVar→ResS→Bool
 | .tmp t, .tmp t'=>Nat.beq t t'
 | .cell a t, .var a' l=>Nat.beq a a'&&layB P t l&&Nat.blt 0 l.n
 | .cell a t, .cells a' n=>Nat.beq a a'&&aggB P t n
 | .cell a t, .cell1 a'=>Nat.beq a a'&&noAgg P t
 |_,_=>false
def resB (P:Program):List ResultVar→List ResS→Bool
 |[],[]=>true
 |rv::rvs,r::rs=>resSB P rv r&&resB P rvs rs
 |_,_=>false
def slotsNum:List (Nat×Sh)→Nat→Bool
 |[],_=>true
 |(n,_)::r,i=>Nat.beq n i&&slotsNum r (i+1)
def okImp (P:Program) (T:Nat→AFn) (af:AImp):Bool:=
 match P.funcs[af.fn]? with
 |some fn=>(fn.name != "runtime.NumGoroutine")&&(match fn.body with |some c=>okCode P T fn.ntmps af.entry.objs.length af.body c |none=>false)&&Nat.ble af.entry.slots.length fn.ntmps&&slotsNum af.entry.slots 0&&resB P fn.results.toList af.res&&Nat.ble af.entry.objs.length af.exit.m&&kindB af.entry.objs af.exit.objs
 |none=>false
theorem unSlots_vs:∀(ss:List (Nat×Sh)) (ps:List PV) (i:Nat),slotsNum ss i=true→∃avs r,unVs (ss.map (·.2)) ps=(avs,r)∧(unSlots ss ps).2=r∧avs.length=ss.length∧
 ∀t,(unSlots ss ps).1.get t=if i≤t∧t<i+ss.length then avs.getD (t - i) .undef else .undef
 |[],ps,i,_=>⟨[],ps,rfl,rfl,rfl,fun t=>by
    simp only[unSlots,List.length_nil]
    rw[if_neg (by omega)];rfl⟩
 |(n,s)::ss,ps,i,h=>by
  simp only[slotsNum,Bool.and_eq_true]at h
  obtain rfl:=Nat.eq_of_beq_eq_true h.1
  obtain ⟨avs,r,h1,h2,h3,h4⟩:=unSlots_vs ss (unV s ps).2 (n+1) h.2
  refine ⟨(unV s ps).1::avs,r, ?_, ?_,by simp[h3],fun t=> ?_⟩
  ·simp only[List.map_cons,unVs,h1]
  ·simp only[unSlots,h2]
  ·simp only[unSlots,Fr.get_cons]
   by_cases e:n=t
   ·subst e
    rw[if_pos rfl,if_pos (by simp)]
    simp
   ·rw[if_neg e,h4 t]
    by_cases h5:n+1≤t∧t<n+1+ss.length
    ·rw[if_pos h5,if_pos (by simp only[List.length_cons];omega)]
     have:t - n=(t - (n+1))+1:=by omega
     rw[this,List.getD_cons_succ]
    ·rw[if_neg h5,if_neg (by simp only[List.length_cons];omega)]
theorem resVal_sound {Γ:Ctx} (hI:Inv P T Γ S pl St F a w) {rv:ResultVar} {r:ResS} {av:AV} (hok:resSB P rv r=true) (h:resVal F St r=some av):
 ∃v,(resOf a.tmps rv).run P w= .ok v w∧RelV P T S pl St av v:=by
 have addr:∀{a' id:Nat} {o:Obj},F.get a'= .ptr id 0→St[id]? =some o→((∃l row,o= .var l row)∨∃c vs,o= .cells c vs)→a.tmps[a']?.getD undef= .pointer (some ⟨pl.blk id,0,none⟩):=by
  intro a' id o hg ho hk
  have hv:=hI.frame a'
  rw[hg]at hv
  simpa using hv.of_has ho hk
 cases rv with
 |tmp t=>
  cases r with
  |tmp t'=>
   simp only[resSB]at hok
   obtain rfl:=Nat.eq_of_beq_eq_true hok
   simp only[resVal,Option.some.injEq]at h
   subst h
   exact ⟨_,by simp[resOf],hI.frame t⟩
  |_=>simp[resSB]at hok
 |cell a' t=>
  cases r with
  |tmp t'=>simp[resSB]at hok
  |var a2 l=>
   simp only[resSB,Bool.and_eq_true]at hok
   obtain rfl:=Nat.eq_of_beq_eq_true hok.1.1
   have hL:=layB_sound hok.1.2
   have hpos:0<l.n:=by simpa using hok.2
   simp only[resVal]at h
   split at h
   ·rename_i id hg
    split at h
    ·rename_i l' row ho
     split at h
     ·rename_i hb
      obtain rfl:=L.beq_eq hb
      simp only[Option.some.injEq]at h
      subst h
      obtain ⟨cur,e,hh,hr⟩:=hI.sim.objs _ _ ho
      have hsz:cur.size=l.n:=by have:=hr.clen;simpa[L.n]using this
      have hrun:=run_loadVar_cells (P:=P) hL ⟨pl.blk id,0,none⟩ rfl w (fun j=>cur.toList.getD j undef) hpos (fun j hj=>by
       simp only[Nat.zero_add]
       rw[cell_of_row w _ _ _ _ _ hh]
       have hjc:j<cur.size:=by omega
       simp[List.getD_eq_getElem?_getD,hjc])
      refine ⟨mkV l fun j=>cur.toList.getD j undef,by simp[resOf,addr hg ho (.inl ⟨_,_,rfl⟩),asAddr,hrun], .d (RepL.mk hr.rlen hr.cell)⟩
     ·simp at h
    ·simp at h
   ·simp at h
  |cells a2 n=>
   simp only[resSB,Bool.and_eq_true]at hok
   obtain rfl:=Nat.eq_of_beq_eq_true hok.1
   obtain ⟨g1,g2⟩:=aggB_sound hok.2 w
   simp only[resVal]at h
   split at h
   ·rename_i id hg
    split at h
    ·rename_i c vs ho
     split at h
     ·rename_i hb
      have hn:=Nat.eq_of_beq_eq_true hb
      simp only[Option.some.injEq]at h
      subst h
      obtain ⟨cur,e,hh,hsz,hr,hr1⟩:=hI.sim.objs _ _ ho
      have hload:=run_loadCells_list (P:=P) w ⟨pl.blk id,0,none⟩ cur.toList (fun j u hj=>by
       rw[add_eq _ rfl,cell_of_row w _ _ _ _ _ hh,Nat.zero_add];simpa using hj)
      have hcl:cur.toList.length=n:=by simpa[hsz]using hn
      rw[hcl]at hload
      refine ⟨.agg cur,by simp[resOf,addr hg ho (.inr ⟨_,_,rfl⟩),asAddr,loadVar,g1,g2,hload], .agg_mk hsz (fun i hi=>hr1 i hi) hr⟩
     ·simp at h
    ·simp at h
   ·simp at h
  |cell1 a2=>
   simp only[resSB,Bool.and_eq_true]at hok
   obtain rfl:=Nat.eq_of_beq_eq_true hok.1
   simp only[resVal]at h
   split at h
   ·rename_i id hg
    split at h
    ·rename_i c v ho
     simp only[Option.some.injEq]at h
     subst h
     obtain ⟨cur,e,hh,hsz,hr,hr1⟩:=hI.sim.objs _ _ ho
     have hlt:0<cur.size:=by rw[hsz];simp
     refine ⟨cur.toList.getD 0 undef, ?_,by simpa using hr 0 v rfl⟩
     simp only[resOf,asAddr,Sem.run_bind]
     have hp:=addr hg ho (.inr ⟨_,_,rfl⟩)
     have hp':a.tmps.getD a' undef= .pointer (some ⟨pl.blk id,0,none⟩):=by simpa using hp
     rw[hp']
     simp only[Sem.run_pure,Result.andThen_ok,loadVar,Sem.run_bind,noAgg_sound hok.2,Bool.false_eq_true,if_false,run_load,cell_heap hh hlt]
    ·simp at h
   ·simp at h
theorem resVals_sound {Γ:Ctx} (hI:Inv P T Γ S pl St F a w):∀(rvs:List ResultVar) (rs:List ResS) (avs:List AV),resB P rvs rs=true→resVals F St rs=some avs→
 ∃vs,(rvs.mapM (resOf a.tmps)).run P w= .ok vs w∧vs.length=avs.length∧∀i av,avs[i]? =some av→RelV P T S pl St av (vs.getD i undef)
 |[],[],avs,_,h=>by
  simp only[resVals,Option.some.injEq]at h
  subst h
  exact ⟨[],by simp,rfl,fun i av h=>by simp at h⟩
 |rv::rvs,r::rs,avs,hok,h=>by
  simp only[resB,Bool.and_eq_true]at hok
  simp only[resVals]at h
  split at h
  ·rename_i u us h1 h2
   simp only[Option.some.injEq]at h
   subst h
   obtain ⟨v,e1,e2⟩:=resVal_sound hI hok.1 h1
   obtain ⟨vs,g1,g2,g3⟩:=resVals_sound hI rvs rs us hok.2 h2
   refine ⟨v::vs,by rw[List.mapM_cons];simp[e1,g1],by simp[g2],fun i av hi=> ?_⟩
   cases i with
   |zero=>simp at hi;subst hi;simpa using e2
   |succ i=>simpa using g3 i av (by simpa using hi)
  ·simp at h
 |[],_::_,_,h,_=>by simp[resB]at h
 |_::_,[],_,h,_=>by simp[resB]at h
def impCtx (P:Program) (T:Nat→AFn) (S:Stab) (pl:Pl) (St:Ev.St) (w:World) (n:Nat):Ctx:=
 ⟨Owns pl St,S,w,n,St.length,fun av v=>RelV P T S pl St av v∧∃id,id<St.length∧(av= .map id∨av= .hol id∨∃off,av= .ptr id off),fun av v h=>h.2⟩
theorem imp_sound {af:AImp} {ps ps':List PV} (hm:P.follows .mixedOrders=true) (hpc:EnvOk P T E) (hfix:FixOk E.fix) (hok:okImp P T af=true) (h:runI E af ps=some ps')
 {avs:List AV} {r:List PV} {vals:Nat→Value} (hun:unVs (af.entry.slots.map (·.2)) ps=(avs,r)) (hSt:St=unOs af.entry.objs r) (hs:Sim P T S pl St w) (hv:∀i av,avs[i]? =some av→RelV P T S pl St av (vals i)):
 (callFunc af.fn ((List.range avs.length).map vals).toArray).run P w= .ok (.enter af.fn ((List.range avs.length).map vals).toArray) w∧
 Calls P af.fn ((List.range avs.length).map vals).toArray w fun e w'=>∃(S2:Stab) (pl2:Pl) (St2:Ev.St) (avs2:List AV) (r2:List PV) (out:List Value),
  unVs (af.exit.slots.map (·.2)) ps'=(avs2,r2)∧St2=unOs af.exit.objs r2∧e= .returned (retV out)∧out.length=avs2.length∧
  Sim P T S2 pl2 St2 w'∧Grow (Owns pl St) S w S2 w'∧(∀i av,avs2[i]? =some av→RelV P T S2 pl2 St2 av (out.getD i undef))∧
  (∀b,Owns pl2 St2 b→Owns pl St b∨w.heap.size≤b)∧
  (∀(j:Nat) (o o':Obj),St[j]? =some o→St2[j]? =some o'→((∃l row,o'= .var l row)∨(∃c vs,o'= .cells c vs)∨∃kl vl es,o'= .map kl vl es)→pl2.blk j=pl.blk j)∧HolKept pl St pl2 St2:=by
 unfold okImp at hok
 split at hok
 ·rename_i fn hfn
  simp only[Bool.and_eq_true]at hok
  obtain ⟨⟨⟨⟨⟨⟨hname,hbody⟩,hle⟩,hnum⟩,hres⟩,hlen⟩,hkind⟩:=hok
  split at hbody
  ·rename_i c hc
   have hle:af.entry.slots.length≤fn.ntmps:=by simpa using hle
   have hname:¬fn.name= "runtime.NumGoroutine" :=by simpa using hname
   refine ⟨by simp[callFunc,hfn,hname,hc], ?_⟩
   obtain ⟨avs',r',u1,u2,u3,u4⟩:=unSlots_vs af.entry.slots ps 0 hnum
   rw[hun]at u1
   simp only[Prod.mk.injEq]at u1
   obtain ⟨rfl,rfl⟩:=u1
   have hSl:St.length=af.entry.objs.length:=by rw[hSt,unOs_length]
   have hI:Inv P T (impCtx P T S pl St w fn.ntmps) S pl St (unSlots af.entry.slots ps).1 {tmps:=((List.range avs.length).map vals).toArray++Array.replicate (fn.ntmps - ((List.range avs.length).map vals).toArray.size) undef,defers:=[]} w:=by
    refine ⟨hs,fun t=> ?_,by simp[impCtx];omega,rfl, .refl _ _ _,fun b hb=> .inl hb,fun _ _ hq=>hq.1⟩
    rw[u4 t]
    by_cases ht:0≤t∧t<0+af.entry.slots.length
    ·rw[if_pos ht,Nat.sub_zero]
     have htl:t<avs.length:=by omega
     have:=hv t (avs[t]) (List.getElem?_eq_getElem htl)
     have e1:avs.getD t .undef=avs[t]:=by simp[List.getD_eq_getElem?_getD,htl]
     rw[e1]
     have e2:((((List.range avs.length).map vals).toArray++Array.replicate (fn.ntmps - ((List.range avs.length).map vals).toArray.size) undef).getD t undef)=vals t:=by
      simp[Array.getElem?_append,htl]
     rw[e2];exact this
    ·rw[if_neg ht];exact .undef
   unfold runI unpack at h
   have hsplit:unSlots af.entry.slots ps=((unSlots af.entry.slots ps).1,(unSlots af.entry.slots ps).2):=rfl
   rw[hsplit]at h
   simp only[u2,←hSt]at h
   refine calls_of_wp hfn hc (code_sound (Γ:=impCtx P T S pl St w fn.ntmps) hm hpc hfix af.body c (by show okCode P T fn.ntmps St.length af.body c=true;rw[hSl];exact hbody) hI h (fun e F2 St2 S2 pl2 a2 w2 hI2 h2=> ?_))
   have fin:((resVals F2 St2 af.res).bind fun vs=>packX af.exit vs St2)=some ps'→a2.defers=[]∧∃v,(results fn a2.tmps).run P w2= .ok v w2∧(∃(S2:Stab) (pl2:Pl) (St2:Ev.St) (avs2:List AV) (r2:List PV) (out:List Value),
    unVs (af.exit.slots.map (·.2)) ps'=(avs2,r2)∧St2=unOs af.exit.objs r2∧Ending.returned v= .returned (retV out)∧out.length=avs2.length∧
    Sim P T S2 pl2 St2 w2∧Grow (Owns pl St) S w S2 w2∧(∀i av,avs2[i]? =some av→RelV P T S2 pl2 St2 av (out.getD i undef))∧
    (∀b,Owns pl2 St2 b→Owns pl St b∨w.heap.size≤b)∧
    (∀(j:Nat) (o o':Obj),St[j]? =some o→St2[j]? =some o'→((∃l row,o'= .var l row)∨(∃c vs,o'= .cells c vs)∨∃kl vl es,o'= .map kl vl es)→pl2.blk j=pl.blk j)∧HolKept pl St pl2 St2):=by
    intro h3
    obtain ⟨rvs,h4,h5⟩:=Option.bind_eq_some_iff.1 h3
    obtain ⟨out,g1,g2,g3⟩:=resVals_sound hI2 fn.results.toList af.res rvs hres h4
    have hlen:af.entry.objs.length≤af.exit.m:=by simpa using hlen
    obtain ⟨ids,avs2,r2,St3,k1,k2,k3,_,kren,k4,k5,k6,k8,k7⟩:=packX_sound (vals:=fun i=>out.getD i undef) hI2.sim g3 h5
    refine ⟨hI2.defers,retV out, ?_,S2,pl2.sub ids,St3,avs2,r2,out,k1,k2,rfl,by omega,k4,hI2.grow,k5,fun b hb=>hI2.young b (k6 b hb),fun j o o' hj hj' hk=> ?_,fun j o l c i av hj hj'=> ?_⟩
    ·have hq:(fn.results.mapM (resOf a2.tmps)).run P w2= .ok out.toArray w2:=by
      rw[Array.mapM_eq_mapM_toList]
      simp[g1]
     rw[results_eq,Sem.run_bind,hq]
     simp only[Result.andThen_ok,Sem.run_pure]
     match out with
     |[]=>rfl
     |[v]=>rfl
     |_::_::_=>rfl
    ·
     have hjl:j<St.length:=(List.getElem?_eq_some_iff.1 hj).1
     obtain ⟨s1,q1,q2⟩:=unOs_sh _ _ j o (by rw[←hSt];exact hj)
     obtain ⟨s2,q3,q4⟩:=unOs_sh _ _ j o' (by rw[←k2];exact hj')
     obtain ⟨_,t1,t2,t3,t4,t5⟩:=kindB_get hkind q1 q3
     obtain ⟨o2,d1,d2⟩:=k7 j o' hj'
     obtain ⟨_,hjj⟩:=k8 j (by omega)
     have hsub:(pl2.sub ids).blk j=pl2.blk j:=by show pl2.blk (ids.getD j 0)=_;rw[hjj]
     rw[hjj]at d1
     rw[hsub]
     rcases hk with ⟨l,row,rfl⟩|⟨c,vs,rfl⟩|⟨kl,vl,es,rfl⟩
     ·have ho:∃l row,o= .var l row:=by
       cases s2 with
       |var l2=>obtain ⟨l0,rfl⟩:=t1 _ rfl;obtain ⟨row0,rfl⟩:=q2;exact ⟨_,_,rfl⟩
       |cells c vs=>cases vs with
        |nil=>cases q4
        |cons _ _=>obtain ⟨_,q⟩:=q4;cases q
       |arr l=>obtain ⟨_,q⟩:=q4;cases q
       |map kl vl=>obtain ⟨_,q⟩:=q4;cases q
       |sarr e l=>obtain ⟨_,q⟩:=q4;cases q
       |hol l s=>obtain ⟨_,_,_,q⟩:=q4;cases q
      obtain ⟨l0,row0,rfl⟩:=ho
      have hr:=hI2.kept (.ptr j 0) (.pointer (some ⟨pl.blk j,0,none⟩)) ⟨.ptr_var hj rfl,j,hjl, .inr (.inr ⟨0,rfl⟩)⟩
      obtain ⟨l1,row1,rfl⟩:=d2.2.1 _ _ rfl
      have:=hr.of_ptr d1
      simp at this;exact this.symm
     ·have ho:∃c vs,o= .cells c vs:=by
       cases s2 with
       |cells c2 vs2=>cases vs2 with
        |nil=>cases q4
        |cons v2 vs2=>
         obtain ⟨c0,v0,vs0,rfl⟩:=t2 _ _ _ rfl
         obtain ⟨vs1,rfl⟩:=q2;exact ⟨_,_,rfl⟩
       |var l=>obtain ⟨_,q⟩:=q4;cases q
       |arr l=>obtain ⟨_,q⟩:=q4;cases q
       |map kl vl=>obtain ⟨_,q⟩:=q4;cases q
       |sarr e l=>obtain ⟨_,q⟩:=q4;cases q
       |hol l s=>obtain ⟨_,_,_,q⟩:=q4;cases q
      obtain ⟨l0,row0,rfl⟩:=ho
      have hr:=hI2.kept (.ptr j 0) (.pointer (some ⟨pl.blk j,0,none⟩)) ⟨.ptr_cells hj rfl,j,hjl, .inr (.inr ⟨0,rfl⟩)⟩
      obtain ⟨l1,row1,rfl⟩:=d2.2.2.1 _ _ rfl
      have:=hr.of_ptr_cells d1
      simp at this;exact this.symm
     ·have ho:∃kl vl es,o= .map kl vl es:=by
       cases s2 with
       |map kl2 vl2=>obtain ⟨kl0,vl0,rfl⟩:=t4 _ _ rfl;obtain ⟨es0,rfl⟩:=q2;exact ⟨_,_,_,rfl⟩
       |cells c vs=>cases vs with
        |nil=>cases q4
        |cons _ _=>obtain ⟨_,q⟩:=q4;cases q
       |var l=>obtain ⟨_,q⟩:=q4;cases q
       |arr l=>obtain ⟨_,q⟩:=q4;cases q
       |sarr e l=>obtain ⟨_,q⟩:=q4;cases q
       |hol l s=>obtain ⟨_,_,_,q⟩:=q4;cases q
      obtain ⟨kl0,vl0,es0,rfl⟩:=ho
      have h0:RelV P T S pl St (.map j) (.map (some (pl.blk j))):= .map rfl hj (by simp) (fun _ _ _ _=>rfl)
      have hr:=hI2.kept (.map j) (.map (some (pl.blk j))) ⟨h0,j,hjl, .inl rfl⟩
      obtain ⟨kl1,vl1,es1,rfl⟩:=d2.2.2.2.2.1 _ _ _ rfl
      cases hr with
      |map z0 z1 z2 z3=>
       rw[d1]at z1;obtain rfl:=Option.some.inj z1
       have:=z3 _ _ _ rfl
       simp at this;exact this.symm
    ·
     have hjl:j<St.length:=(List.getElem?_eq_some_iff.1 hj).1
     obtain ⟨s1,q1,q2⟩:=unOs_sh _ _ j o (by rw[←hSt];exact hj)
     obtain ⟨s2,q3,q4⟩:=unOs_sh _ _ j _ (by rw[←k2];exact hj')
     obtain ⟨_,t1,t2,t3,t4,t5⟩:=kindB_get hkind q1 q3
     obtain ⟨o2,d1,d2⟩:=k7 j _ hj'
     obtain ⟨_,hjj⟩:=k8 j (by omega)
     have hsub:(pl2.sub ids).blk j=pl2.blk j:=by show pl2.blk (ids.getD j 0)=_;rw[hjj]
     have hsubc:(pl2.sub ids).cap j=pl2.cap j:=by show pl2.cap (ids.getD j 0)=_;rw[hjj]
     rw[hjj]at d1
     have ho:∃c0 i0 av0,o= .hol l c0 i0 av0:=by
      cases s2 with
      |hol l2 s=>
       obtain ⟨_,_,_,q⟩:=q4
       simp only[Obj.hol.injEq]at q
       obtain ⟨rfl,_⟩:=q
       obtain ⟨s0,rfl⟩:=t5.2.1 _ _ rfl
       exact q2
      |cells c vs=>cases vs with
       |nil=>cases q4
       |cons _ _=>obtain ⟨_,q⟩:=q4;cases q
      |var l=>obtain ⟨_,q⟩:=q4;cases q
      |arr l=>obtain ⟨_,q⟩:=q4;cases q
      |map kl vl=>obtain ⟨_,q⟩:=q4;cases q
      |sarr e l=>obtain ⟨_,q⟩:=q4;cases q
     obtain ⟨c0,i0,av0,rfl⟩:=ho
     obtain ⟨av1,rfl⟩:=d2.2.2.2.2.2.2.1 _ _ _ _ rfl
     refine ⟨c0,i0,av0,rfl, ?_⟩
     rw[hsub,hsubc]
     rcases hs.objs _ _ hj with rfl |⟨rows0,_,_,_,rfl,_⟩
     ·have h0:RelV P T S pl St (.hol j) (.slice none 0 0):= .hol rfl hj (by simp) (fun _ _ _ _=>rfl) (fun _ _ _ _ e=>by simp at e)
      have hr:=(hI2.kept (.hol j) _ ⟨h0,j,hjl, .inr (.inl rfl)⟩).of_hol d1
      exact ⟨fun _=>rfl,fun rows e=>absurd (hr.2 rows e) (by simp)⟩
     ·have h0:RelV P T S pl St (.hol j) (.slice (some ⟨pl.blk j,0,none⟩) rows0.length (pl.cap j)):= .hol rfl hj (by simp) (fun _ _ _ e=>by simp at e) (fun _ _ _ _ e=>by simp only[Obj.hol.injEq,C.sl.injEq]at e;rw[e.2.1])
      have hr:=(hI2.kept (.hol j) _ ⟨h0,j,hjl, .inr (.inl rfl)⟩).of_hol d1
      refine ⟨fun e=>absurd (hr.1 e) (by simp),fun rows e=>⟨rows0,rfl, ?_⟩⟩
      have:=hr.2 rows e
      simp at this
      exact ⟨this.2.1,this.1.symm,this.2.2.symm⟩
   cases e with
   |normal=>exact fin h2
   |exit id=>simp at h2
   |ret=>exact fin h2
  ·simp at hbody
 ·simp at hok
def TabOk (P:Program) (T:Nat→AFn):Prop:=∀f,match T f with
 | .none=>True
 | .cmp=>CmpFn P f
 | .ixb=>IxbFn P f
 | .glob _ _ _=>True
 | .imp af=>okImp P T af=true
 | .code af=>okFun P T f af=true
 | .given ps rs g=>GivenOk P T f ps rs g
theorem fix_ok (T:Nat→AFn):∀m,FixOk (envOf T m).fix
 |0=>fun step ps x h=>by simp[envOf]at h
 |m+1=>fun step ps x h=>⟨m+1,h⟩
theorem env_sound (hm:P.follows .mixedOrders=true) (hT:TabOk P T):∀m,EnvOk P T (envOf T m)
 |0=>⟨⟨⟨fun f hf=>by have:=hT f;rw[hf]at this;exact this,fun f hf=>by have:=hT f;rw[hf]at this;exact this⟩,fun f rows out ps rs h=>by simp[envOf]at h⟩,fun i af hi ps ps' h=>by simp[envOf]at h⟩
 |m+1=>by
  refine ⟨⟨⟨fun f hf=>by have:=hT f;rw[hf]at this;exact this,fun f hf=>by have:=hT f;rw[hf]at this;exact this⟩, ?_⟩, ?_⟩
  ·intro f rows out ps rs h hsig S w vs hst hgl hgz hargs
   have hf:=hT f
   simp only[envOf]at h
   cases hTf:T f with
   |none=>rw[hTf]at h;simp at h
   |cmp=>rw[hTf]at h;simp at h
   |ixb=>rw[hTf]at h;simp at h
   |glob _ _ _=>rw[hTf]at h;simp at h
   |imp _=>rw[hTf]at h;simp at h
   |code af=>
    rw[hTf]at h hf hsig
    simp only[AFn.sig,Option.some.injEq,Prod.mk.injEq]at hsig
    obtain ⟨rfl,rfl⟩:=hsig
    exact fun_sound hm (env_sound hm hT m) (fix_ok T m) hf h hst hgl hgz hargs
   |given ps' rs' g=>
    rw[hTf]at h hf hsig
    simp only[AFn.sig,Option.some.injEq,Prod.mk.injEq]at hsig
    obtain ⟨rfl,rfl⟩:=hsig
    exact hf rows out h S w vs hst hgl hgz hargs
  ·intro i af hi ps ps' h S pl St w avs r vals hun hSt hs hv
   have hf:=hT i
   rw[hi]at hf
   simp only[envOf,hi]at h
   exact imp_sound hm (env_sound hm hT m) (fix_ok T m) hf h hun hSt hs hv
end Go.Ev
namespace Go.Ev
section
variable {A B:Type}
theorem rowsOf_bind {F:Fr} {S:St} (ls:List L) (xs:List Opd) (k:List Row→Option A):rowsOf F S ls xs k=(rowsOf F S ls xs some).bind k:=by
 rw[rowsOf_nat];rfl
theorem getO_bind (S:St) (id:Nat) (k:Obj→Option A):getO S id k=(S[id]?).bind k:=by unfold getO;split<;>rename_i e<;>rw[e]<;>rfl
theorem freeze1_bind (n:Nat) (t:TypeId) (ol:Option L) (F:Fr) (S:St) (k:Fr→St→Option A):freeze1 n t ol F S k=(freeze1 n t ol F S fun F S=>some (F,S)).bind fun p=>k p.1 p.2:=by
 unfold freeze1
 cases ol with
 |some l=>
  simp only
  split
  ·simp only[getO_bind,Option.bind_assoc]
   congr 1;funext o
   rw[asArr_nat]
   congr 1;funext l' c
   rw[check_nat];rfl
  ·simp only[getO_bind,Option.bind_assoc]
   congr 1;funext o
   cases o<;>simp only[check_nat]<;>rfl
  ·rfl
 |none=>
  simp only
  split
  ·simp only[getO_bind,Option.bind_assoc]
   congr 1;funext o
   cases o<;>rfl
  ·rfl
theorem freezeAll_bind:∀(fz:List (Nat×TypeId×Option L)) (F:Fr) (S:St) (k:Fr→St→Option A),freezeAll fz F S k=(freezeAll fz F S fun F S=>some (F,S)).bind fun p=>k p.1 p.2
 |[],F,S,k=>rfl
 |(n,t,ol)::r,F,S,k=>by
  simp only[freezeAll]
  rw[freeze1_bind]
  conv=>rhs;rw[freeze1_bind,Option.bind_assoc]
  congr 1;funext p
  rw[freezeAll_bind r]
theorem ghostK_bind (g:Ghost) (F:Fr) (S:St) (k:Fr→St→Option A):ghostK g F S k=(ghostK g F S fun F S=>some (F,S)).bind fun p=>k p.1 p.2:=by
 cases g with
 |lft n off e l=>
  cases off with
  |none=>
   simp only[ghostK]
   split
   ·simp only[check_nat];rfl
   ·rfl
  |some off=>
   simp only[ghostK]
   split
   ·simp only[getO_bind,Option.bind_assoc]
    congr 1;funext o
    cases o<;>simp only
    case cells c vs=>
     split
     ·simp only[check_nat];rfl
     ·rfl
    all_goals rfl
   ·rfl
 |frzS n e l=>simp only[ghostK];exact freeze1_bind _ _ _ _ _ _
 |lftO n off e l=>
  simp only[ghostK]
  split
  ·simp only[getO_bind,Option.bind_assoc]
   congr 1;funext o
   cases o<;>simp only
   case cells c vs=>
    split
    ·simp only[check_nat];rfl
    ·rfl
   all_goals rfl
  ·rfl
 |opnH n l=>
  simp only[ghostK]
  split
  ·simp only[getO_bind,Option.bind_assoc]
   congr 1;funext o
   simp only[asArr_nat,check_nat];rfl
  ·rfl
 |clsF n=>
  simp only[ghostK]
  split
  ·simp only[getO_bind,Option.bind_assoc]
   congr 1;funext o
   simp only[asHol_nat,ite_nat];rfl
  ·rfl
 |clsH n e l=>
  simp only[ghostK]
  split
  ·simp only[getO_bind,Option.bind_assoc]
   congr 1;funext o
   simp only[asHol_nat]
   congr 1;funext l' rows i av
   split
   ·simp only[getO_bind,Option.bind_assoc,asArr_nat,check_nat,asRows_nat];rfl
   ·rfl
  ·rfl
 |frz n off e l=>
  simp only[ghostK]
  split
  ·simp only[getO_bind,Option.bind_assoc]
   congr 1;funext o
   cases o<;>simp only
   case cells c vs=>
    split
    ·simp only[Option.bind_assoc,asArr_nat,check_nat];rfl
    ·rfl
   all_goals rfl
  ·rfl
end
structure Logic (I:Type)where
 R:∀{A:Type},(I→Option A)→Prop
 const:∀{A:Type} (a:Option A),R (fun _=>a)
 bind:∀{A B:Type} (a:I→Option A) (f:I→A→Option B),R a→(∀x,R (fun i=>f i x))→R (fun i=>(a i).bind (f i))
def stepOf (E:Env) (c:ACode) (sh:Shape) (outs:List (Exit'×Shape)):(List PV→Option (Nat×List PV))→List PV→Option (Nat×List PV):=loopStep (fun F S k=>codeK E c F S k) sh outs
structure EnvRel {I:Type} (Λ:Logic I) (E:I→Env):Prop where
 pc:∀f r,Λ.R (fun i=>(E i).pc f r)
 ic:∀f r,Λ.R (fun i=>(E i).ic f r)
 fix:∀c sh outs,(∀X:I→List PV→Option (Nat×List PV),(∀ps,Λ.R (fun i=>X i ps))→∀ps,Λ.R (fun i=>stepOf (E i) c sh outs (X i) ps))→∀ps,Λ.R (fun i=>(E i).fix (stepOf (E i) c sh outs) ps)
section
variable {I:Type} {Λ:Logic I} {E:I→Env}
theorem opO_env {E E':Env} {F:Fr} {S:St} (o:Obj) (op:AOp) (base:Nat) (h1:∀f ps rs xs,op≠ .call f ps rs xs) (h2:∀t ps rs x xs,op≠ .callv t ps rs x xs):opO E F S o op base ret2=opO E' F S o op base ret2:=by
 cases op<;>first
  |rfl
  |exact absurd rfl (h1 _ _ _ _)
  |exact absurd rfl (h2 _ _ _ _ _)
theorem opO_rel (hE:EnvRel Λ E) (F:Fr) (S:St) (o:Obj) (op:AOp) (base:Nat):Λ.R (fun i=>opO (E i) F S o op base ret2):=by
 by_cases h1:∃f ps rs xs,op= .call f ps rs xs
 ·obtain ⟨f,ps,rs,xs,rfl⟩:=h1
  have:(fun i=>opO (E i) F S o (.call f ps rs xs) base ret2)=fun i=>(rowsOf F S ps xs some).bind fun rows=>((E i).pc f rows).bind fun out=>ret2 (resV rs out) none:=by
   funext i;simp only[opO];rw[rowsOf_bind]
  rw[this]
  exact Λ.bind _ _ (Λ.const _) fun rows=>Λ.bind _ _ (hE.pc f rows) fun _=>Λ.const _
 ·by_cases h2:∃t ps rs x xs,op= .callv t ps rs x xs
  ·obtain ⟨t,ps,rs,x,xs,rfl⟩:=h2
   simp only[opO]
   split
   ·rename_i t' r e
    cases hb:Nat.beq t t' with
    |false=>simp only[check];exact Λ.const _
    |true=>
     simp only[check]
     have:(fun i=>rowsOf F S ps xs fun rows=>(callC (E i) (at_ r 0) rows).bind fun out=>ret2 (resV rs out) none)=fun i=>(rowsOf F S ps xs some).bind fun rows=>(callC (E i) (at_ r 0) rows).bind fun out=>ret2 (resV rs out) none:=by
      funext i;rw[rowsOf_bind]
     rw[this]
     refine Λ.bind _ _ (Λ.const _) fun rows=>Λ.bind _ _ ?_ fun _=>Λ.const _
     unfold callC
     split
     ·exact hE.pc _ _
     ·exact Λ.const _
   ·exact Λ.const _
  ·have:(fun i=>opO (E i) F S o op base ret2)=fun _=>opO ⟨fun _ _=>none,fun _ _=>none,fun _ _=>none⟩ F S o op base ret2:=by
    funext i
    exact opO_env o op base (fun f ps rs xs e=>h1 ⟨f,ps,rs,xs,e⟩) (fun t ps rs x xs e=>h2 ⟨t,ps,rs,x,xs,e⟩)
   rw[this];exact Λ.const _
theorem op1_rel (hE:EnvRel Λ E) (F:Fr) (S:St) (op:AOp) (base:Nat):Λ.R (fun i=>op1 (E i) F S op base):=by
 by_cases hc:∃i f en ex ids new x args,op= .icall i f en ex ids new x args
 ·obtain ⟨j,f,en,ex,ids,new,x,args,rfl⟩:=hc
  simp only[op1,opK]
  have hcal:∀{A:Type} (k:I→List AV→Option A),(∀vs,Λ.R (fun i=>k i vs))→Λ.R (fun i=>calleeOf F f x args (k i)):=by
   intro A k hk
   unfold calleeOf
   cases x with
   |none=>exact hk _
   |some y=>
    simp only
    split
    ·rename_i f' caps e
     cases hb:Nat.beq f f' with
     |false=>simp only[check];exact Λ.const _
     |true=>simp only[check];exact hk _
    ·exact Λ.const _
  refine hcal _ fun vs=> ?_
  generalize (Shape.under ids.length en&&Shape.under (ids++numsFrom (base+new) (ex.objs.length - ids.length)).length ex&&freshAt S (numsFrom (base+new) (ex.objs.length - ids.length))&&nodupB (ids++numsFrom (base+new) (ex.objs.length - ids.length))&&Nat.ble ids.length ex.objs.length&&kindB en.objs ex.objs)=b
  cases b with
  |false=>simp only[check];exact Λ.const _
  |true=>
   simp only[check]
   exact Λ.bind _ _ (Λ.const _) fun ps=>Λ.bind _ _ (hE.ic j ps) fun ps'=>Λ.const _
 ·have h1:∀i f en ex ids new x args,op≠ .icall i f en ex ids new x args:=fun i f en ex ids new x args e=>hc ⟨i,f,en,ex,ids,new,x,args,e⟩
  have:(fun i=>op1 (E i) F S op base)=fun i=>match tgt F op base with
   |none=>(opO (E i) F S .dead op base ret2).bind fun x=>some (x.1,[],cidsO F op)
   |some id=>(S[id]?).bind fun o=>(opO (E i) F S o op base ret2).bind fun x=>some (x.1,objUps id x.2,id::cidsO F op):=by
   funext i
   unfold op1
   rw[opK_plain h1]
   cases tgt F op base with
   |none=>simp only;rw[opO_nat]
   |some id=>
    simp only
    rw[getO_bind]
    congr 1;funext o
    rw[opO_nat]
  rw[this]
  cases tgt F op base with
  |none=>exact Λ.bind _ _ (opO_rel hE _ _ _ _ _) fun _=>Λ.const _
  |some id=>exact Λ.bind _ _ (Λ.const _) fun o=>Λ.bind _ _ (opO_rel hE _ _ _ _ _) fun _=>Λ.const _
theorem opsK_rel {A:Type} (hE:EnvRel Λ E) (draw:Bool) (base:Nat) (k:I→Fr→St→Option A) (hk:∀F S,Λ.R (fun i=>k i F S)):∀(ops:List AOper) (seen:List Foot) (F:Fr) (S:St),Λ.R (fun i=>opsK (E i) draw base ops seen F S (k i))
 |[],seen,F,S=>hk F S
 |o::rest,seen,F,S=>by
  have skip:∀F:Fr,Λ.R (fun i=>opsK (E i) draw base rest (match (generalizing:=false) draw with |true=>seen++[([],[])]|false=>[]) (F.put o.dst .und) S (k i)):=fun F=>opsK_rel hE draw base k hk rest _ _ _
  have run:∀F:Fr,Λ.R (fun i=>opK (E i) F S o.op base fun v us rd=>check (!draw ||orderOk (us.map (·.1),rd) o.bef seen 0) (opsK (E i) draw base rest (match (generalizing:=false) draw with |true=>seen++[(us.map (·.1),rd)]|false=>[]) (F.put o.dst v) (updAll us S) (k i))):=by
   intro F
   have:(fun i=>opK (E i) F S o.op base fun v us rd=>check (!draw ||orderOk (us.map (·.1),rd) o.bef seen 0) (opsK (E i) draw base rest (match (generalizing:=false) draw with |true=>seen++[(us.map (·.1),rd)]|false=>[]) (F.put o.dst v) (updAll us S) (k i)))=
    fun i=>(op1 (E i) F S o.op base).bind fun x=>check (!draw ||orderOk (x.2.1.map (·.1),x.2.2) o.bef seen 0) (opsK (E i) draw base rest (match (generalizing:=false) draw with |true=>seen++[(x.2.1.map (·.1),x.2.2)]|false=>[]) (F.put o.dst x.1) (updAll x.2.1 S) (k i)):=by
    funext i;rw[opK_nat]
   rw[this]
   refine Λ.bind _ _ (op1_rel hE _ _ _ _) fun x=> ?_
   generalize (!draw ||orderOk (x.2.1.map (·.1),x.2.2) o.bef seen 0)=b
   cases b with
   |false=>simp only[check];exact Λ.const _
   |true=>simp only[check];exact opsK_rel hE draw base k hk rest _ _ _
  simp only[opsK]
  split
  ·exact run F
  ·split
   ·split
    ·split
     ·exact run _
     ·exact skip _
    ·split
     ·exact skip _
     ·exact run _
   ·exact skip _
   ·exact Λ.const _
theorem goOn_rel {A:Type} (k:I→Exit'→Fr→St→Option A) (hk:∀e F S,Λ.R (fun i=>k i e F S)):∀(outs:List (Exit'×Shape)) (i0:Nat) (ps:List PV),Λ.R (fun i=>goOn (k i) outs i0 ps)
 |[],_,_=>Λ.const _
 |[(e,sh)],_,ps=>by simp only[goOn,unpack];exact hk _ _ _
 |(e,sh)::b::r,0,ps=>by simp only[goOn,unpack];exact hk _ _ _
 |(e,sh)::b::r,j+1,ps=>by simp only[goOn];exact goOn_rel k hk (b::r) j ps
theorem codeK_rel (hE:EnvRel Λ E):∀(c:ACode) {A:Type} (F:Fr) (S:St) (k:I→Exit'→Fr→St→Option A),(∀e F S,Λ.R (fun i=>k i e F S))→Λ.R (fun i=>codeK (E i) c F S (k i)):=by
 intro c
 induction c with
 |skip=>intro A F S k hk;exact hk _ _ _
 |ghost g c ih=>
  intro A F S k hk
  have:(fun i=>codeK (E i) (.ghost g c) F S (k i))=fun i=>(ghostK g F S fun F S=>some (F,S)).bind fun p=>codeK (E i) c p.1 p.2 (k i):=by
   funext i;simp only[codeK];rw[ghostK_bind]
  rw[this]
  exact Λ.bind _ _ (Λ.const _) fun p=>ih _ _ _ hk
 |post g c ih=>
  intro A F S k hk
  simp only[codeK]
  refine ih F S _ fun e F S=> ?_
  cases e with
  |normal=>
   have:(fun i=>ghostK g F S (k i .normal))=fun i=>(ghostK g F S fun F S=>some (F,S)).bind fun p=>k i .normal p.1 p.2:=by
    funext i;rw[ghostK_bind]
   simp only[this]
   exact Λ.bind _ _ (Λ.const _) fun p=>hk _ _ _
  |exit id=>exact hk _ _ _
  |ret=>exact hk _ _ _
 |region fz ops draw n=>
  intro A F S k hk
  have:(fun i=>codeK (E i) (.region fz ops draw n) F S (k i))=fun i=>(freezeAll fz F S fun F S=>some (F,S)).bind fun p=>opsK (E i) draw p.2.length ops [] p.1 (p.2++List.replicate n .fresh) (k i .normal):=by
   funext i;simp only[codeK];rw[freezeAll_bind]
  rw[this]
  exact Λ.bind _ _ (Λ.const _) fun p=>opsK_rel hE _ _ _ (fun F S=>hk _ _ _) _ _ _ _
 |seq a b iha ihb=>
  intro A F S k hk
  simp only[codeK]
  refine iha F S _ fun e F S=> ?_
  cases e with
  |normal=>exact ihb F S k hk
  |exit id=>exact hk _ _ _
  |ret=>exact hk _ _ _
 |cond c a b iha ihb=>
  intro A F S k hk
  simp only[codeK]
  split
  ·split
   ·exact iha F S k hk
   ·exact ihb F S k hk
  ·exact Λ.const _
 |block id c ih=>
  intro A F S k hk
  simp only[codeK]
  refine ih F S _ fun e F S=> ?_
  cases e with
  |normal=>exact hk _ _ _
  |exit id'=>
   simp only
   split
   ·exact hk _ _ _
   ·exact hk _ _ _
  |ret=>exact hk _ _ _
 |loop sh outs c ih=>
  intro A F S k hk
  simp only[codeK]
  split
  ·rename_i ps hp
   refine Λ.bind _ _ (hE.fix c sh outs (fun X hX ps=> ?_) ps) fun x=>goOn_rel k hk outs _ _
   simp only[stepOf,loopStep,unpack]
   refine ih _ _ _ fun e F S=> ?_
   cases e with
   |normal=>
    simp only
    split
    ·exact hX _
    ·exact Λ.const _
   |exit id=>exact Λ.const _
   |ret=>exact Λ.const _
  ·exact Λ.const _
 |join outs c ih=>
  intro A F S k hk
  simp only[codeK]
  exact Λ.bind _ _ (ih F S _ fun e F S=>Λ.const _) fun x=>goOn_rel k hk outs _ _
 |exit id=>intro A F S k hk;exact hk _ _ _
 |ret=>intro A F S k hk;exact hk _ _ _
 |bad=>intro A F S k hk;exact Λ.const _
theorem runP_rel (hE:EnvRel Λ E) (f:AFun) (rows:List Row):Λ.R (fun i=>runP (E i) f rows):=by
 unfold runP
 split
 ·refine codeK_rel hE _ _ _ _ fun e F S=> ?_
  cases e<;>exact Λ.const _
 ·exact Λ.const _
theorem runI_rel (hE:EnvRel Λ E) (f:AImp) (ps:List PV):Λ.R (fun i=>runI (E i) f ps):=by
 unfold runI unpack
 refine codeK_rel hE _ _ _ _ fun e F S=> ?_
 cases e<;>exact Λ.const _
end
def OLe {A:Type} (a b:Option A):Prop:=∀x,a=some x→b=some x
def monoL:Logic Bool where
 R a:=OLe (a false) (a true)
 const _:=fun _ h=>h
 bind a f ha hf:=fun y h=>by
  obtain ⟨x,h1,h2⟩:=Option.bind_eq_some_iff.1 h
  exact Option.bind_eq_some_iff.2 ⟨x,ha x h1,hf x y h2⟩
theorem iterN_mono {step step':(List PV→Option (Nat×List PV))→List PV→Option (Nat×List PV)} (h:∀X X',(∀ps,OLe (X ps) (X' ps))→∀ps,OLe (step X ps) (step' X' ps)):∀(n m:Nat),n≤m→∀ps,OLe (iterN step n ps) (iterN step' m ps)
 |0,_,_,_=>fun _ h=>by simp[iterN]at h
 |n+1,0,hnm,_=>by omega
 |n+1,m+1,hnm,ps=>h _ _ (iterN_mono h n m (by omega)) ps
theorem step_mono (E:Env) (c:ACode) (sh:Shape) (outs:List (Exit'×Shape)) (X X':List PV→Option (Nat×List PV)) (hX:∀ps,OLe (X ps) (X' ps)) (ps:List PV):OLe (stepOf E c sh outs X ps) (stepOf E c sh outs X' ps):=by
 have hR:EnvRel monoL (fun _:Bool=>E):=⟨fun f r=>monoL.const _,fun f r=>monoL.const _,fun c sh outs h ps=>monoL.const _⟩
 simp only[stepOf,loopStep,unpack]
 refine codeK_rel hR c _ _ (fun b e F S=>match e with
  | .normal=>(match pack sh F S with |some ps'=>(match b with |false=>X ps' |true=>X' ps')|none=>none)
  |e=>packOut e F S outs 0) fun e F S=> ?_
 cases e with
 |normal=>
  simp only[monoL]
  split
  ·exact hX _
  ·exact fun _ h=>h
 |exit id=>exact fun _ h=>h
 |ret=>exact fun _ h=>h
section
variable (T:Nat→AFn)
theorem env_mono:∀n,EnvRel monoL (fun b:Bool=>match b with |false=>envOf T n |true=>envOf T (n+1))
 |0=>⟨fun f r=>fun x h=>by simp[envOf]at h,fun f r=>fun x h=>by simp[envOf]at h,fun c sh outs h ps=>fun x hx=>by simp[envOf]at hx⟩
 |n+1=>by
  have ih:=env_mono n
  refine ⟨fun f r=> ?_,fun f r=> ?_,fun c sh outs h ps=> ?_⟩
  ·show OLe ((envOf T (n+1)).pc f r) ((envOf T (n+1+1)).pc f r)
   simp only[envOf]
   cases T f with
   |code af=>exact runP_rel ih af r
   |given ps rs g=>exact fun _ h=>h
   |_=>exact fun _ h=>h
  ·show OLe ((envOf T (n+1)).ic f r) ((envOf T (n+1+1)).ic f r)
   simp only[envOf]
   cases T f with
   |imp af=>exact runI_rel ih af r
   |_=>exact fun _ h=>h
  ·show OLe ((envOf T (n+1)).fix (stepOf (envOf T (n+1)) c sh outs) ps) ((envOf T (n+1+1)).fix (stepOf (envOf T (n+1+1)) c sh outs) ps)
   exact iterN_mono (fun X X' hX ps=>h (fun b=>match b with |false=>X |true=>X') hX ps) (n+1) (n+2) (by omega) ps
theorem pc_mono {n m:Nat} (h:n≤m) (f:Nat) (r:List Row):OLe ((envOf T n).pc f r) ((envOf T m).pc f r):=by
 induction h with
 |refl=>exact fun _ h=>h
 |step _ ih=>exact fun x hx=>(env_mono T _).pc f r x (ih x hx)
theorem ic_mono {n m:Nat} (h:n≤m) (f:Nat) (r:List PV):OLe ((envOf T n).ic f r) ((envOf T m).ic f r):=by
 induction h with
 |refl=>exact fun _ h=>h
 |step _ ih=>exact fun x hx=>(env_mono T _).ic f r x (ih x hx)
end
def limL:Logic (Option Nat)where
 R a:=(∀x,a none=some x→∃n0,∀n,n0≤n→a (some n)=some x)∧∀n x,a (some n)=some x→a none=some x
 const a:=⟨fun x h=>⟨0,fun _ _=>h⟩,fun _ _ h=>h⟩
 bind a f ha hf:=by
  refine ⟨fun y h=> ?_,fun n y h=> ?_⟩
  ·obtain ⟨x,h1,h2⟩:=Option.bind_eq_some_iff.1 h
   obtain ⟨n1,g1⟩:=ha.1 x h1
   obtain ⟨n2,g2⟩:=(hf x).1 y h2
   exact ⟨n1+n2,fun n hn=>Option.bind_eq_some_iff.2 ⟨x,g1 n (by omega),g2 n (by omega)⟩⟩
  ·obtain ⟨x,h1,h2⟩:=Option.bind_eq_some_iff.1 h
   exact Option.bind_eq_some_iff.2 ⟨x,ha.2 n x h1,(hf x).2 n y h2⟩
open Classical in
noncomputable def limO {A:Type} (a:Nat→Option A):Option A:=if h:∃n x,a n=some x then a (Classical.choose h)else none
theorem limO_some {A:Type} {a:Nat→Option A} (hm:∀n m,n≤m→OLe (a n) (a m)) {x:A}:limO a=some x↔∃n,a n=some x:=by
 unfold limO
 constructor
 ·intro h
  split at h
  ·exact ⟨_,h⟩
  ·cases h
 ·rintro ⟨n,hn⟩
  have hex:∃n x,a n=some x:=⟨n,x,hn⟩
  rw[dif_pos hex]
  obtain ⟨y,hy⟩:=Classical.choose_spec hex
  have h1:=hm _ (Classical.choose hex+n) (Nat.le_add_right _ _) y hy
  have h2:=hm n (Classical.choose hex+n) (Nat.le_add_left _ _) x hn
  rw[h1]at h2
  rw[hy,h2]
noncomputable def lim (T:Nat→AFn):Env:=⟨fun f r=>limO fun n=>(envOf T n).pc f r,fun f r=>limO fun n=>(envOf T n).ic f r,fun step ps=>limO fun n=>iterN step n ps⟩
section
variable (T:Nat→AFn)
theorem lim_pc {f:Nat} {r out:List Row}:(lim T).pc f r=some out↔∃n,(envOf T n).pc f r=some out:=limO_some (fun n m h=>pc_mono T h f r)
theorem lim_ic {f:Nat} {r out:List PV}:(lim T).ic f r=some out↔∃n,(envOf T n).ic f r=some out:=limO_some (fun n m h=>ic_mono T h f r)
theorem env_fix (n:Nat) (step:(List PV→Option (Nat×List PV))→List PV→Option (Nat×List PV)) (ps:List PV):(envOf T n).fix step ps=iterN step n ps:=by cases n<;>rfl
theorem lim_rel:EnvRel limL (fun o:Option Nat=>match o with |some n=>envOf T n |none=>lim T):=by
 refine ⟨fun f r=>⟨fun x h=> ?_,fun n x h=>(lim_pc T).2 ⟨n,h⟩⟩,fun f r=>⟨fun x h=> ?_,fun n x h=>(lim_ic T).2 ⟨n,h⟩⟩,fun c sh outs h ps=> ?_⟩
 ·obtain ⟨n,hn⟩:=(lim_pc T).1 h
  exact ⟨n,fun m hm=>pc_mono T hm f r x hn⟩
 ·obtain ⟨n,hn⟩:=(lim_ic T).1 h
  exact ⟨n,fun m hm=>ic_mono T hm f r x hn⟩
 ·have hj:∀j ps,limL.R (fun i=>iterN (stepOf (match i with |some n=>envOf T n |none=>lim T) c sh outs) j ps):=by
   intro j
   induction j with
   |zero=>exact fun ps=>limL.const none
   |succ j ih=>exact fun ps=>h (fun i=>iterN (stepOf (match i with |some n=>envOf T n |none=>lim T) c sh outs) j) ih ps
  refine ⟨fun x hx=> ?_,fun n x hx=> ?_⟩
  ·have hx:limO (fun n=>iterN (stepOf (lim T) c sh outs) n ps)=some x:=hx
   obtain ⟨j,hx⟩:=(limO_some (fun n m h=>iterN_mono (step_mono (lim T) c sh outs) n m h ps)).1 hx
   obtain ⟨n0,h0⟩:=(hj j ps).1 x hx
   refine ⟨n0+j,fun n hn=> ?_⟩
   show (envOf T n).fix (stepOf (envOf T n) c sh outs) ps=some x
   rw[env_fix]
   exact iterN_mono (step_mono _ c sh outs) j n (by omega) ps x (h0 n (by omega))
  ·have hx:(envOf T n).fix (stepOf (envOf T n) c sh outs) ps=some x:=hx
   rw[env_fix]at hx
   have:=(hj n ps).2 n x hx
   exact (limO_some (fun n m h=>iterN_mono (step_mono (lim T) c sh outs) n m h ps)).2 ⟨n,this⟩
theorem opt_ext {A:Type} {a b:Option A} (h:∀x,a=some x↔b=some x):a=b:=by
 cases a with
 |none=>cases b with
  |none=>rfl
  |some y=>exact ((h y).2 rfl)
 |some x=>exact ((h x).1 rfl).symm
theorem lim_code {f:Nat} {af:AFun} (hf:T f= .code af) (r:List Row):(lim T).pc f r=runP (lim T) af r:=by
 have hR:=runP_rel (lim_rel T) af r
 refine opt_ext fun x=>⟨fun h=> ?_,fun h=> ?_⟩
 ·obtain ⟨n,hn⟩:=(lim_pc T).1 h
  cases n with
  |zero=>simp[envOf]at hn
  |succ n=>
   simp only[envOf,hf]at hn
   exact hR.2 n x hn
 ·obtain ⟨n0,h0⟩:=hR.1 x h
  refine (lim_pc T).2 ⟨n0+1, ?_⟩
  simp only[envOf,hf]
  exact h0 n0 (Nat.le_refl _)
theorem lim_imp {f:Nat} {af:AImp} (hf:T f= .imp af) (r:List PV):(lim T).ic f r=runI (lim T) af r:=by
 have hR:=runI_rel (lim_rel T) af r
 refine opt_ext fun x=>⟨fun h=> ?_,fun h=> ?_⟩
 ·obtain ⟨n,hn⟩:=(lim_ic T).1 h
  cases n with
  |zero=>simp[envOf]at hn
  |succ n=>
   simp only[envOf,hf]at hn
   exact hR.2 n x hn
 ·obtain ⟨n0,h0⟩:=hR.1 x h
  refine (lim_ic T).2 ⟨n0+1, ?_⟩
  simp only[envOf,hf]
  exact h0 n0 (Nat.le_refl _)
theorem lim_given {f:Nat} {ps rs:List L} {g:List Row→Option (List Row)} (hf:T f= .given ps rs g) (r:List Row):(lim T).pc f r=g r:=by
 refine opt_ext fun x=>⟨fun h=> ?_,fun h=> ?_⟩
 ·obtain ⟨n,hn⟩:=(lim_pc T).1 h
  cases n with
  |zero=>simp[envOf]at hn
  |succ n=>simpa only[envOf,hf]using hn
 ·exact (lim_pc T).2 ⟨1,by simpa only[envOf,hf]using h⟩
theorem lim_loop (c:ACode) (sh:Shape) (outs:List (Exit'×Shape)) (ps:List PV):
 (lim T).fix (stepOf (lim T) c sh outs) ps=stepOf (lim T) c sh outs ((lim T).fix (stepOf (lim T) c sh outs)) ps:=by
 have hm:=fun ps n m h=>iterN_mono (step_mono (lim T) c sh outs) n m h ps
 refine opt_ext fun x=>⟨fun h=> ?_,fun h=> ?_⟩
 ·obtain ⟨n,hn⟩:=(limO_some (hm ps)).1 h
  cases n with
  |zero=>simp[iterN]at hn
  |succ n=>exact step_mono (lim T) c sh outs _ _ (fun ps y hy=>(limO_some (hm ps)).2 ⟨n,hy⟩) ps x hn
 ·
  have hR:EnvRel limL (fun _:Option Nat=>lim T):=⟨fun f r=>limL.const _,fun f r=>limL.const _,fun c sh outs h ps=>limL.const _⟩
  have hX:∀ps,limL.R (fun i:Option Nat=>match i with |some n=>iterN (stepOf (lim T) c sh outs) n ps |none=>(lim T).fix (stepOf (lim T) c sh outs) ps):=by
   intro ps
   refine ⟨fun x hx=> ?_,fun n x hx=>(limO_some (hm ps)).2 ⟨n,hx⟩⟩
   obtain ⟨n,hn⟩:=(limO_some (hm ps)).1 hx
   exact ⟨n,fun m hmn=>hm ps n m hmn x hn⟩
  have key:limL.R (fun i:Option Nat=>stepOf (lim T) c sh outs (fun ps=>match i with |some n=>iterN (stepOf (lim T) c sh outs) n ps |none=>(lim T).fix (stepOf (lim T) c sh outs) ps) ps):=by
   simp only[stepOf,loopStep,unpack]
   refine codeK_rel hR c _ _ (fun i e F S=>match e with
    | .normal=>(match pack sh F S with |some ps'=>(match i with |some n=>iterN (stepOf (lim T) c sh outs) n ps' |none=>(lim T).fix (stepOf (lim T) c sh outs) ps')|none=>none)
    |e=>packOut e F S outs 0) fun e F S=> ?_
   cases e with
   |normal=>
    simp only
    split
    ·exact hX _
    ·exact limL.const _
   |exit id=>exact limL.const _
   |ret=>exact limL.const _
  obtain ⟨n0,h0⟩:=key.1 x h
  exact (limO_some (hm ps)).2 ⟨n0+1,h0 n0 (Nat.le_refl _)⟩
end
end Go.Ev
