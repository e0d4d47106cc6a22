/-
  Calls to which objects are handed: what comes in, renumbered.
-/
import Derived.Test.YtgiibefjiloafaaGreatDoorEvMm
set_option linter.all false
set_option maxRecDepth 100000
namespace Go.Ev
variable {E:Env} {P:Program} {T:Nat→AFn} {S S':Stab} {pl pl':Pl} {St St':Ev.St} {F F':Fr} {a:Act} {w w' w0:World}
def DownR (o o':Obj):Prop:=
 o'≠ .fresh∧(∀l row,o'= .var l row→∃l0 row0,o= .var l0 row0)∧(∀c vs,o'= .cells c vs→∃c0 vs0,o= .cells c0 vs0)∧
 (∀v l c,o'= .arr v l c→v=0∧∃v0,o= .arr v0 l c)∧(∀kl vl es,o'= .map kl vl es→∃kl0 vl0 es0,o= .map kl0 vl0 es0)∧
 (∀v e l c,o'= .sarr v e l c→v=0∧∃v0,o= .sarr v0 e l c)∧
 (∀l c i av,o'= .hol l c i av→∃av0,o= .hol l c i av0)∧
 (∀c vs c0 vs0,o'= .cells c vs→o= .cells c0 vs0→c0=c)
theorem DownR.cst {o o':Obj} (h:DownR o o') (hh:o'.has=true):o.cst=o'.cst:=by
 obtain ⟨h0,h1,h2,h3,h4,h5,h6,h7⟩:=h
 cases o' with
 |fresh=>simp[Obj.has]at hh
 |dead=>simp[Obj.has]at hh
 |var l row=>obtain ⟨_,_,rfl⟩:=h1 _ _ rfl;rfl
 |cells c vs=>
  obtain ⟨c0,_,rfl⟩:=h2 _ _ rfl
  rw[h7 _ _ _ _ rfl rfl]
  cases c<;>rfl
 |arr v l c=>obtain ⟨_,_,rfl⟩:=h3 _ _ _ rfl;rfl
 |map a b c=>obtain ⟨_,_,_,rfl⟩:=h4 _ _ _ rfl;rfl
 |sarr v e l c=>obtain ⟨_,_,rfl⟩:=h5 _ _ _ _ rfl;rfl
 |hol l rows i av=>obtain ⟨_,rfl⟩:=h6 _ _ _ _ rfl;rfl
theorem DownR.sn {o o':Obj} (h:DownR o o') (hh:o'.has=true):o.sn=o'.sn:=by
 obtain ⟨h0,h1,h2,h3,h4,h5,h6,h7⟩:=h
 cases o' with
 |fresh=>simp[Obj.has]at hh
 |dead=>simp[Obj.has]at hh
 |var l row=>obtain ⟨_,_,rfl⟩:=h1 _ _ rfl;rfl
 |cells c vs=>obtain ⟨_,_,rfl⟩:=h2 _ _ rfl;rfl
 |arr v l c=>obtain ⟨_,_,rfl⟩:=h3 _ _ _ rfl;rfl
 |map a b c=>obtain ⟨_,_,_,rfl⟩:=h4 _ _ _ rfl;rfl
 |sarr v e l c=>obtain ⟨_,_,rfl⟩:=h5 _ _ _ _ rfl;rfl
 |hol l rows i av=>obtain ⟨_,rfl⟩:=h6 _ _ _ _ rfl;rfl
def Ren (ids:List Nat) (pl:Pl) (St:Ev.St) (pl':Pl) (St':Ev.St):Prop:=
 (∀j:Nat,j<ids.length→∃o':Obj,St'[j]? =some o')∧
 (∀(j:Nat) (o':Obj),St'[j]? =some o'→∃o:Obj,St[ids.getD j 0]? =some o∧DownR o o'∧pl'.blk j=pl.blk (ids.getD j 0)∧pl'.cap j=pl.cap (ids.getD j 0))
theorem Ren.get {ids:List Nat} {j:Nat} {o:Obj} (hd:Ren ids pl St pl' St') (hlt:j<ids.length) (ho:St[ids.getD j 0]? =some o):∃o',St'[j]? =some o'∧DownR o o'∧pl'.blk j=pl.blk (ids.getD j 0)∧pl'.cap j=pl.cap (ids.getD j 0):=by
 obtain ⟨o',h⟩:=hd.1 j hlt
 obtain ⟨o2,h2,h3⟩:=hd.2 j o' h
 rw[ho]at h2;obtain rfl:=Option.some.inj h2
 exact ⟨o',h,h3⟩
def InV (P:Program) (T:Nat→AFn) (S:Stab) (ids:List Nat) (pl:Pl) (St:Ev.St) (s:Sh) (v:AV) (ps:List PV):Prop:=
 ∃v',(∀rest,unV s (ps++rest)=(v',rest))∧∀pl' St' val,Ren ids pl St pl' St'→RelV P T S pl St v val→RelV P T S pl' St' v' val
def InVs (P:Program) (T:Nat→AFn) (S:Stab) (ids:List Nat) (pl:Pl) (St:Ev.St) (ss:List Sh) (vs:List AV) (ps:List PV):Prop:=
 ∃vs',vs'.length=vs.length∧(∀rest,unVs ss (ps++rest)=(vs',rest))∧∀pl' St' (vals:Nat→Value),Ren ids pl St pl' St'→(∀i av,vs[i]? =some av→RelV P T S pl St av (vals i))→∀i av,vs'[i]? =some av→RelV P T S pl' St' av (vals i)
mutual
theorem packV_in (hs:Sim P T S pl St w) {ids:List Nat} {m:Nat} {co:Bool}:∀(s:Sh) (v:AV) (ps:List PV),Sh.under ids.length s=true→packV St m co (Sh.ren ids s) v=some ps→InV P T S ids pl St s v ps
 | .d l,v,ps,hu,h=>by
   have key:∀row,(∀val,RelV P T S pl St v val→RelV P T S pl St (.d l row) val)→InV P T S ids pl St (.d l) v [.r (nrm l row)]:=by
    intro row hr
    refine ⟨.d l (nrm l (nrm l row)),fun rest=>rfl,fun pl' St' val _ hv=> ?_⟩
    have:=(hr val hv).of_d
    rw[this.nrm,this.nrm];exact .d this
   cases v with
   |d l' row=>
    simp only[Sh.ren,packV]at h
    split at h
    ·rename_i hb
     obtain rfl:=L.beq_eq hb
     simp only[Option.some.injEq]at h
     subst h
     exact key row fun val hv=>hv
    ·simp at h
   |sw i' u=>
    simp only[Sh.ren,packV]at h
    split at h
    ·rename_i l' row e
     split at h
     ·rename_i hb
      obtain rfl:=L.beq_eq hb
      simp only[Option.some.injEq]at h
      subst h
      exact key row fun val hv=>by rw[←e];exact dat_sound hs _ _ hv
     ·simp at h
    ·simp at h
   |agg vs=>
    simp only[Sh.ren,packV]at h
    split at h
    ·rename_i l' row e
     split at h
     ·rename_i hb
      obtain rfl:=L.beq_eq hb
      simp only[Option.some.injEq]at h
      subst h
      exact key row fun val hv=>by rw[←e];exact dat_sound hs _ _ hv
     ·simp at h
    ·simp at h
   |_=>simp[Sh.ren,packV]at h
 | .sw i,v,ps,hu,h=>by
   have hlt:i<ids.length:=by simpa[Sh.under]using hu
   cases v with
   |sw i' v=>
    simp only[Sh.ren,packV]at h
    split at h
    ·rename_i v' e0 l0 c0 hob
     split at h
     ·rename_i hb
      simp only[Bool.and_eq_true]at hb
      obtain rfl:=Nat.eq_of_beq_eq_true hb.1.1
      obtain rfl:=Nat.eq_of_beq_eq_true hb.1.2
      simp only[Option.some.injEq]at h
      subst h
      refine ⟨.sw i 0,fun rest=>rfl,fun pl' St' val hd hv=> ?_⟩
      cases hv with
      |sw h0 h1 h2 hver h3 h4=>
       rw[hob]at h1;obtain rfl:=Option.some.inj h1
       obtain ⟨o',g1,⟨g2,g3,g4,g5,g6,g7⟩,b1,b2⟩:=hd.get hlt hob
       refine .sw h0 g1 g2 (fun v1 e l c q=>Nat.zero_le _) (fun e l q=> ?_) (fun e l rows q=> ?_)
       ·obtain ⟨_,v1,q⟩:=g7.1 _ _ _ _ q;cases q;exact h3 _ _ rfl
       ·obtain ⟨_,v1,q⟩:=g7.1 _ _ _ _ q;cases q;rw[b1,b2];exact h4 _ _ _ rfl
     ·simp at h
    ·simp at h
   |_=>simp[Sh.ren,packV]at h
 | .agg ss,v,ps,hu,h=>by
   cases v with
   |agg vs=>
    simp only[Sh.ren,packV]at h
    obtain ⟨vs',h1,h2,h3⟩:=packVs_in hs ss vs ps (by simpa[Sh.under]using hu) h
    refine ⟨.agg vs',fun rest=>by simp[unV,h2 rest],fun pl' St' val hd hv=> ?_⟩
    cases hv with
    |agg vals h0 hvals=>
     have:=RelV.agg (P:=P) (T:=T) (S:=S) (pl:=pl') (St:=St') vals (fun i hi=>h0 i (by omega)) (h3 pl' St' vals hd hvals)
     rw[h1]at this;exact this
   |d l row=>
    simp only[Sh.ren,packV]at h
    cases hp:packVs St m co (Sh.rens ids ss) (cellsOf l.ks row 0)with
    |none=>rw[hp]at h;simp at h
    |some ps'=>
    rw[hp]at h
    cases l with
    |one k=>simp at h
    |agg ks=>
     simp only[Option.some.injEq]at h
     subst h
     obtain ⟨vs',h1,h2,h3⟩:=packVs_in hs ss (cellsOf (L.agg ks).ks row 0) ps' (by simpa[Sh.under]using hu) hp
     refine ⟨.agg vs',fun rest=>by simp[unV,h2 rest],fun pl' St' val hd hv=> ?_⟩
     obtain ⟨c1,c2,c3⟩:=hv.cellsV (vs:=cellsOf (L.agg ks).ks row 0) rfl
     obtain ⟨cs,rfl,_⟩:=hv.of_d
     exact .agg_mk (by rw[h1];exact c1) c3 (h3 pl' St' _ hd c2)
   |_=>simp[Sh.ren,packV]at h
 | .ptr i off,v,ps,hu,h=>by
   have hlt:i<ids.length:=by simpa[Sh.under]using hu
   cases v with
   |ptr i' o'=>
    simp only[Sh.ren,packV]at h
    split at h
    ·rename_i hb
     simp only[Bool.and_eq_true]at hb
     obtain rfl:=Nat.eq_of_beq_eq_true hb.1.1
     obtain rfl:=Nat.eq_of_beq_eq_true hb.1.2
     simp only[Option.some.injEq]at h
     subst h
     refine ⟨.ptr i off,fun rest=>rfl,fun pl' St' val hd hv=> ?_⟩
     cases hv with
     |ptr h0 h1 h2 h3 h4=>
      obtain ⟨o',g1,⟨g2,g3,g4,g5,g6,g7⟩,b1,b2⟩:=hd.get hlt h1
      refine .ptr h0 g1 g2 (fun l row e=> ?_) (fun c vs e=> ?_)
      ·obtain ⟨l0,r0,q⟩:=g3 l row e;rw[b1];exact h3 _ _ q
      ·obtain ⟨l0,r0,q⟩:=g4 c vs e;rw[b1];exact h4 _ _ q
    ·simp at h
   |_=>simp[Sh.ren,packV]at h
 | .whole i,v,ps,hu,h=>by
   have hlt:i<ids.length:=by simpa[Sh.under]using hu
   cases v with
   |whole i' v=>
    simp only[Sh.ren,packV]at h
    split at h
    ·rename_i v' l0 c0 hob
     split at h
     ·rename_i hb
      simp only[Bool.and_eq_true]at hb
      obtain rfl:=Nat.eq_of_beq_eq_true hb.1.1
      obtain rfl:=Nat.eq_of_beq_eq_true hb.1.2
      simp only[Option.some.injEq]at h
      subst h
      refine ⟨.whole i 0,fun rest=>rfl,fun pl' St' val hd hv=> ?_⟩
      cases hv with
      |whole h0 h1 h2 hver h3 h4=>
       rw[hob]at h1;obtain rfl:=Option.some.inj h1
       obtain ⟨o',g1,⟨g2,g3,g4,g5,g6,g7⟩,b1,b2⟩:=hd.get hlt hob
       refine .whole h0 g1 g2 (fun v1 l c e=>Nat.zero_le _) (fun l e=> ?_) (fun l rows e=> ?_)
       ·obtain ⟨_,v1,q⟩:=g5 _ _ _ e;cases q;exact h3 _ rfl
       ·obtain ⟨_,v1,q⟩:=g5 _ _ _ e;cases q;rw[b1,b2];exact h4 _ _ rfl
     ·simp at h
    ·simp at h
   |_=>simp[Sh.ren,packV]at h
 | .fn f cs,v,ps,hu,h=>by
   cases v with
   |fn f' vs=>
    simp only[Sh.ren,packV]at h
    split at h
    ·rename_i hb
     obtain rfl:=Nat.eq_of_beq_eq_true hb
     obtain ⟨vs',h1,h2,h3⟩:=packVs_in hs cs vs ps (by simpa[Sh.under]using hu) h
     refine ⟨.fn f vs',fun rest=>by simp[unV,h2 rest],fun pl' St' val hd hv=> ?_⟩
     cases hv with
     |fn vals hvals=>
      have:=RelV.fn (P:=P) (T:=T) (S:=S) (pl:=pl') (St:=St') (f:=f) vals (h3 pl' St' vals hd hvals)
      rw[h1]at this;exact this
    ·simp at h
   |_=>simp[Sh.ren,packV]at h
 | .map i,v,ps,hu,h=>by
   have hlt:i<ids.length:=by simpa[Sh.under]using hu
   cases v with
   |map i'=>
    simp only[Sh.ren,packV]at h
    split at h
    ·rename_i hb
     simp only[Bool.and_eq_true]at hb
     obtain rfl:=Nat.eq_of_beq_eq_true hb.1
     simp only[Option.some.injEq]at h
     subst h
     refine ⟨.map i,fun rest=>rfl,fun pl' St' val hd hv=> ?_⟩
     cases hv with
     |map h0 h1 h2 h3=>
      obtain ⟨o',g1,⟨g2,g3,g4,g5,g6,g7⟩,b1,b2⟩:=hd.get hlt h1
      refine .map h0 g1 g2 (fun kl vl es e=> ?_)
      obtain ⟨a,b,c,q⟩:=g6 _ _ _ e;rw[b1];exact h3 _ _ _ q
    ·simp at h
   |_=>simp[Sh.ren,packV]at h
 | .ptrv i,v,ps,hu,h=>by
   have hlt:i<ids.length:=by simpa[Sh.under]using hu
   cases v with
   |ptr i' off=>
    simp only[Sh.ren,packV]at h
    split at h
    ·rename_i hb
     simp only[Bool.and_eq_true]at hb
     obtain rfl:=Nat.eq_of_beq_eq_true hb.1
     simp only[Option.some.injEq]at h
     subst h
     refine ⟨.ptr i off,fun rest=>rfl,fun pl' St' val hd hv=> ?_⟩
     cases hv with
     |ptr h0 h1 h2 h3 h4=>
      obtain ⟨o',g1,⟨g2,g3,g4,g5,g6,g7⟩,b1,b2⟩:=hd.get hlt h1
      refine .ptr h0 g1 g2 (fun l row e=> ?_) (fun c vs e=> ?_)
      ·obtain ⟨l0,r0,q⟩:=g3 l row e;rw[b1];exact h3 _ _ q
      ·obtain ⟨l0,r0,q⟩:=g4 c vs e;rw[b1];exact h4 _ _ q
    ·simp at h
   |_=>simp[Sh.ren,packV]at h
 | .aptr i,v,ps,hu,h=>by
   have hlt:i<ids.length:=by simpa[Sh.under]using hu
   cases v with
   |aptr i' v idx off=>
    simp only[Sh.ren,packV]at h
    split at h
    ·rename_i v' l0 c0 hob
     split at h
     ·rename_i hb
      simp only[Bool.and_eq_true]at hb
      obtain rfl:=Nat.eq_of_beq_eq_true hb.1.1
      obtain rfl:=Nat.eq_of_beq_eq_true hb.1.2
      simp only[Option.some.injEq]at h
      subst h
      refine ⟨.aptr i 0 idx off,fun rest=>rfl,fun pl' St' val hd hv=> ?_⟩
      cases hv with
      |aptr h0 h1 h2 hver h3=>
       rw[hob]at h1;obtain rfl:=Option.some.inj h1
       obtain ⟨o',g1,⟨g2,g3,g4,g5,g6,g7⟩,b1,b2⟩:=hd.get hlt hob
       refine .aptr h0 g1 g2 (fun v1 l c e=>Nat.zero_le _) (fun l c e=> ?_)
       obtain ⟨_,v1,q⟩:=g5 _ _ _ e;cases q;rw[b1];exact h3 _ _ rfl
     ·simp at h
    ·simp at h
   |_=>simp[Sh.ren,packV]at h
 | .hol i,v,ps,hu,h=>by
   have hlt:i<ids.length:=by simpa[Sh.under]using hu
   cases v with
   |hol i'=>
    simp only[Sh.ren,packV]at h
    split at h
    ·rename_i hb
     simp only[Bool.and_eq_true]at hb
     obtain rfl:=Nat.eq_of_beq_eq_true hb.1
     simp only[Option.some.injEq]at h
     subst h
     refine ⟨.hol i,fun rest=>rfl,fun pl' St' val hd hv=> ?_⟩
     cases hv with
     |hol h0 h1 h2 h3 h4=>
      obtain ⟨o',g1,⟨g2,g3,g4,g5,g6,g7⟩,b1,b2⟩:=hd.get hlt h1
      refine .hol h0 g1 g2 (fun l i av e=> ?_) (fun l rows i av e=> ?_)
      ·obtain ⟨a,q⟩:=g7.2.1 _ _ _ _ e;exact h3 _ _ _ q
      ·obtain ⟨a,q⟩:=g7.2.1 _ _ _ _ e;rw[b1,b2];exact h4 _ _ _ _ q
    ·simp at h
   |_=>simp[Sh.ren,packV]at h
theorem packVs_in (hs:Sim P T S pl St w) {ids:List Nat} {m:Nat} {co:Bool}:∀(ss:List Sh) (vs:List AV) (ps:List PV),Sh.unders ids.length ss=true→packVs St m co (Sh.rens ids ss) vs=some ps→InVs P T S ids pl St ss vs ps
 |[],[],ps,_,h=>by
  simp only[Sh.rens,packVs,Option.some.injEq]at h
  subst h
  exact ⟨[],rfl,fun rest=>rfl,fun _ _ _ _ _ i av h=>by simp at h⟩
 |[],_::_,ps,_,h=>by simp[Sh.rens,packVs]at h
 |_::_,[],ps,_,h=>by simp[Sh.rens,packVs]at h
 |s::ss,v::vs,ps,hu,h=>by
  simp only[Sh.unders,Bool.and_eq_true]at hu
  simp only[Sh.rens,packVs]at h
  split at h
  ·rename_i pa pb ha hb
   simp only[Option.some.injEq]at h
   subst h
   obtain ⟨v',h1,h2⟩:=packV_in hs s v pa hu.1 ha
   obtain ⟨vs',g1,g2,g3⟩:=packVs_in hs ss vs pb hu.2 hb
   refine ⟨v'::vs',by simp[g1],fun rest=>by simp[unVs,List.append_assoc,h1,g2],fun pl' St' vals hd hv i av hi=> ?_⟩
   cases i with
   |zero=>simp at hi;subst hi;exact h2 pl' St' _ hd (hv 0 v rfl)
   |succ i=>exact g3 pl' St' (fun j=>vals (j+1)) hd (fun j av hj=>hv (j+1) av (by simpa using hj)) i av (by simpa using hi)
  ·simp at h
end
theorem RepR.nrm_row {l:L} {cs:List Value} {row:Row} (h:RepR P T S l.ks cs row):Ev.nrm l row=row:=by
 cases l with
 |agg ks=>rfl
 |one k=>
  have h1:=h.rlen
  have h0:=h.cell 0 k rfl
  match row,h1 with
  |[c],_=>
   have:at_ [c] 0=c:=rfl
   rw[this]at h0
   exact nrm_of_rep h0
def InO (P:Program) (T:Nat→AFn) (S:Stab) (ids:List Nat) (pl:Pl) (St:Ev.St) (o o':Obj):Prop:=
 DownR o o'∧(o'.has=true→o.has=true)∧∀pl' St' w id j,Ren ids pl St pl' St'→pl'.blk j=pl.blk id→pl'.cap j=pl.cap id→ObjIs P T S pl St w id o→ObjIs P T S pl' St' w j o'
theorem in_dead {ids:List Nat} (o:Obj):InO P T S ids pl St o .dead:=
 ⟨⟨by simp,fun l row e=>(by cases e),fun c vs e=>(by cases e),fun v l c e=>(by cases e),fun a b c e=>(by cases e),fun v e l c q=>(by cases q),fun _ _ _ _ e=>(by cases e),fun _ _ _ _ e q=>(by cases e<;>cases q<;>rfl)⟩,fun h=>by simp[Obj.has]at h,fun _ _ _ _ _ _ _ _ _=>trivial⟩
theorem packO_in (hs:Sim P T S pl St w0) {ids:List Nat} {m:Nat} (s:OSh) (o:Obj) (ps:List PV) (hu:OSh.under ids.length s=true) (h:packO St m (s.ren ids) o=some ps):
 ∃o',(∀rest,unO s (ps++rest)=(o',rest))∧((∃(w:World) (id:Nat),ObjIs P T S pl St w id o)→InO P T S ids pl St o o'):=by
 cases s with
 |var l=>
  cases o with
  |var l' row=>
   simp only[OSh.ren,packO]at h
   split at h
   ·rename_i hb
    obtain rfl:=L.beq_eq hb
    simp only[Option.some.injEq]at h
    subst h
    refine ⟨.var l (nrm l (nrm l row)),fun rest=>rfl,fun ⟨w,id,cur,e,h1,h2⟩=> ?_⟩
    rw[h2.nrm_row,h2.nrm_row]
    refine ⟨⟨by simp,fun l row e=>⟨_,_,rfl⟩,fun c vs e=>(by cases e),fun v l c e=>(by cases e),fun a b c e=>(by cases e),fun v e l c q=>(by cases q),fun _ _ _ _ e=>(by cases e),fun _ _ _ _ e q=>(by cases e<;>cases q<;>rfl)⟩,fun h=>h,fun pl' St' w id j _ b1 b2 ho=> ?_⟩
    obtain ⟨cur,e,q1,q2⟩:=ho
    exact ⟨cur,e,by rw[b1];exact q1,q2⟩
   ·simp at h
  |_=>simp[OSh.ren,packO]at h
 |arr l=>
  cases o with
  |arr v l' c=>
   simp only[OSh.ren,packO]at h
   split at h
   ·rename_i hb
    obtain rfl:=L.beq_eq hb
    simp only[Option.some.injEq]at h
    subst h
    refine ⟨.arr 0 l c,fun rest=>rfl,fun _=> ?_⟩
    refine ⟨⟨by simp,fun l row e=>(by cases e),fun c vs e=>(by cases e),fun v l c e=> ?_,fun a b c e=>(by cases e),fun v e l c q=>(by cases q),fun _ _ _ _ e=>(by cases e),fun _ _ _ _ e q=>(by cases e<;>cases q<;>rfl)⟩,fun h=> ?_,fun pl' St' w id j hd b1 b2 ho=> ?_⟩
    ·cases e;exact ⟨rfl,_,rfl⟩
    ·cases c<;>exact h
    ·rcases ho with ho |⟨rows,cur,e,i,q0,q1,q2,q3,q4,q5,q6,q7,q8⟩
     ·exact .inl ho
     ·exact .inr ⟨rows,cur,e,i,q0,by rw[b1];exact q1,q2,q3,q4,by rw[b2];exact q5,by rw[b2];exact q6,by rw[b2];exact q7,q8⟩
   ·simp at h
  |_=>simp[OSh.ren,packO]at h
 |sarr e l=>
  cases o with
  |sarr v e' l' c=>
   simp only[OSh.ren,packO]at h
   split at h
   ·rename_i hb
    simp only[Bool.and_eq_true]at hb
    obtain rfl:=Nat.eq_of_beq_eq_true hb.1
    obtain rfl:=L.beq_eq hb.2
    simp only[Option.some.injEq]at h
    subst h
    refine ⟨.sarr 0 e l c,fun rest=>rfl,fun _=> ?_⟩
    refine ⟨⟨by simp,fun l row e=>(by cases e),fun c vs e=>(by cases e),fun v l c e=>(by cases e),fun a b c e=>(by cases e),fun v e l c q=> ?_,fun _ _ _ _ e=>(by cases e),fun _ _ _ _ e q=>(by cases e<;>cases q<;>rfl)⟩,fun h=> ?_,fun pl' St' w id j hd b1 b2 ho=> ?_⟩
    ·cases q;exact ⟨rfl,_,rfl⟩
    ·cases c<;>exact h
    ·rcases ho with ho |⟨rows,cur,e,i,q0,q1,q2,q3,q4,q5,q6,q7,q8,q9⟩
     ·exact .inl ho
     ·exact .inr ⟨rows,cur,e,i,q0,by rw[b1];exact q1,q2,q3,q4,by rw[b2];exact q5,by rw[b2];exact q6,by rw[b2];exact q7,q8,by rw[b1];exact q9⟩
   ·simp at h
  |_=>simp[OSh.ren,packO]at h
 |hol l s=>
  cases o with
  |hol l' c i av=>
   simp only[OSh.ren,packO]at h
   split at h
   ·rename_i hb
    obtain rfl:=L.beq_eq hb
    split at h
    ·rename_i ps' hp
     simp only[Option.some.injEq]at h
     subst h
     obtain ⟨av',g1,g2⟩:=packV_in hs s av ps' (by simpa[OSh.under]using hu) hp
     refine ⟨.hol l c i av',fun rest=> ?_,fun _=> ?_⟩
     ·simp only[List.cons_append,unO,List.tail_cons,g1 rest];rfl
     ·refine ⟨⟨by simp,fun l row e=>(by cases e),fun c vs e=>(by cases e),fun v l c e=>(by cases e),fun a b c e=>(by cases e),fun v e l c q=>(by cases q),fun _ _ _ _ e=>(by cases e;exact ⟨_,rfl⟩),fun _ _ _ _ e q=>(by cases e)⟩,fun h=> ?_,fun pl' St' w id j hd b1 b2 ho=> ?_⟩
      ·cases c<;>exact h
      rcases ho with ho |⟨rows,cur,e,inf,qc,q0,q1,q2,q3,q4,q5,q6,q7,q8⟩
      ·exact .inl ho
      ·exact .inr ⟨rows,cur,e,inf,qc,by rw[b1];exact q0,q1,q2,q3,by rw[b2];exact q4,by rw[b2];exact q5,by rw[b2];exact q6,q7,fun hi=>⟨(q8 hi).1,g2 pl' St' _ hd (q8 hi).2.1,(q8 hi).2.2⟩⟩
    ·simp at h
   ·simp at h
  |_=>simp[OSh.ren,packO]at h
 |map kl vl=>
  cases o with
  |map kl' vl' es=>
   simp only[OSh.ren,packO]at h
   split at h
   ·rename_i hb
    simp only[Bool.and_eq_true]at hb
    obtain rfl:=L.beq_eq hb.1
    obtain rfl:=L.beq_eq hb.2
    simp only[Option.some.injEq]at h
    subst h
    refine ⟨.map kl vl es,fun rest=>rfl,fun _=> ?_⟩
    refine ⟨⟨by simp,fun l row e=>(by cases e),fun c vs e=>(by cases e),fun v l c e=>(by cases e),fun a b c e=>⟨_,_,_,rfl⟩,fun v e l c q=>(by cases q),fun _ _ _ _ e=>(by cases e),fun _ _ _ _ e q=>(by cases e<;>cases q<;>rfl)⟩,fun h=>h,fun pl' St' w id j hd b1 b2 ho=> ?_⟩
    obtain ⟨ens,clock,q1,q2,q3⟩:=ho
    exact ⟨ens,clock,by rw[b1];exact q1,q2,q3⟩
   ·simp at h
  |_=>simp[OSh.ren,packO]at h
 |cells c vs=>
  cases vs with
  |nil=>
   cases o with
   |cells c' avs=>
    simp only[OSh.ren,Sh.rens,packO]at h
    split at h
    ·cases avs with
     |nil=>
      simp only[packVs,Option.some.injEq]at h;subst h
      exact ⟨.dead,fun rest=>rfl,fun _=>in_dead _⟩
     |cons _ _=>simp[packVs]at h
    ·simp at h
   |_=>
    simp only[OSh.ren,Sh.rens,packO,Option.some.injEq]at h;subst h
    exact ⟨.dead,fun rest=>rfl,fun _=>in_dead _⟩
  |cons s ss=>
   cases o with
   |cells c' avs=>
    simp only[OSh.ren,packO]at h
    split at h
    ·rename_i hb
     have hcc:c=c':=by simpa using hb
     subst hcc
     obtain ⟨vs',h1,h2,h3⟩:=packVs_in hs (s::ss) avs ps (by simpa[OSh.under]using hu) h
     refine ⟨.cells c vs',fun rest=>by simp[unO,h2 rest],fun _=> ?_⟩
     refine ⟨⟨by simp,fun l row e=>(by cases e),fun c vs e=>⟨_,_,rfl⟩,fun v l c e=>(by cases e),fun a b c e=>(by cases e),fun v e l c q=>(by cases q),fun _ _ _ _ e=>(by cases e),fun _ _ _ _ e q=>(by cases e<;>cases q<;>rfl)⟩,fun h=>rfl,fun pl' St' w id j hd b1 b2 ho=> ?_⟩
     obtain ⟨cur,e,q1,q2,q3,q4⟩:=ho
     exact ⟨cur,e,by rw[b1];exact q1,by rw[q2,h1],fun i av hi=>h3 pl' St' (fun i=>cur.getD i undef) hd q3 i av hi,q4⟩
    ·simp at h
   |_=>simp[OSh.ren,Sh.rens,packO]at h
theorem packAt_in (hs:Sim P T S pl St w0) {ids:List Nat} (hos:∀(id:Nat) (o:Obj),St[id]? =some o→∃(w:World) (j:Nat),ObjIs P T S pl St w j o):∀(is:List Nat) (ss:List OSh) (ps:List PV),ss.all (OSh.under ids.length)=true→packAt St ids is ss=some ps→
 ∃St':Ev.St,(∀rest,unOs ss (ps++rest)=St')∧St'.length=is.length∧ss.length=is.length∧∀(j:Nat) (o':Obj),St'[j]? =some o'→∃o:Obj,St[is.getD j 0]? =some o∧InO P T S ids pl St o o'
 |[],[],ps,_,h=>by
  simp only[packAt,Option.some.injEq]at h
  subst h
  exact ⟨[],fun rest=>rfl,rfl,rfl,fun j o' h=>by simp at h⟩
 |[],_::_,ps,_,h=>by simp[packAt]at h
 |_::_,[],ps,_,h=>by simp[packAt]at h
 |i::is,s::ss,ps,hu,h=>by
  simp only[List.all_cons,Bool.and_eq_true]at hu
  simp only[packAt]at h
  split at h
  ·rename_i o ho
   split at h
   ·rename_i pa pb ha hb
    simp only[Option.some.injEq]at h
    subst h
    obtain ⟨o',h1,h2⟩:=packO_in hs s o pa hu.1 ha
    obtain ⟨St',g1,g2,g2',g3⟩:=packAt_in hs hos is ss pb hu.2 hb
    refine ⟨o'::St',fun rest=>by simp[unOs,List.append_assoc,h1,g1],by simp[g2],by simp[g2'],fun j o1 hi=> ?_⟩
    cases j with
    |zero=>simp at hi;subst hi;exact ⟨o,by simpa using ho,h2 (hos i o ho)⟩
    |succ j=>
     obtain ⟨o2,q1,q2⟩:=g3 j o1 (by simpa using hi)
     exact ⟨o2,by simpa using q1,q2⟩
   ·simp at h
  ·simp at h
def Pl.sub (pl:Pl) (ids:List Nat):Pl:=⟨fun j=>pl.blk (ids.getD j 0),fun j=>pl.cap (ids.getD j 0)⟩
theorem packI_in {ids:List Nat} {en:Shape} {avs:List AV} {ps:List PV} {vals:Nat→Value} (hs:Sim P T S pl St w) (hnd:ids.Nodup) (hu:Shape.under ids.length en=true) (hv:∀i av,avs[i]? =some av→RelV P T S pl St av (vals i))
 (h:packI St ids en avs=some ps):
 ∃(vs:List AV) (r:List PV) (St':Ev.St),unVs (en.slots.map (·.2)) ps=(vs,r)∧St'=unOs en.objs r∧vs.length=avs.length∧St'.length=ids.length∧en.objs.length=ids.length∧Ren ids pl St (pl.sub ids) St'∧Sim P T S (pl.sub ids) St' w∧
  (∀i av,vs[i]? =some av→RelV P T S (pl.sub ids) St' av (vals i))∧(∀b,Owns (pl.sub ids) St' b→∃i∈ids,∃o,St[i]? =some o∧o.has=true∧o.cst=false∧pl.blk i=b)∧
  ∀(j:Nat) (o':Obj),St'[j]? =some o'→∃o:Obj,St[ids.getD j 0]? =some o∧DownR o o'∧(o'.has=true→o.has=true):=by
 simp only[Shape.under,Bool.and_eq_true]at hu
 unfold packI at h
 split at h
 ·rename_i pa pb ha hb
  simp only[Option.some.injEq]at h
  subst h
  have hun:Sh.unders ids.length (en.slots.map (·.2))=true:=by
   have:=hu.1
   clear ha
   generalize en.slots=ss at this⊢
   induction ss with
   |nil=>rfl
   |cons p ss ih=>
    simp only[List.all_cons,Bool.and_eq_true]at this
    simp only[List.map_cons,Sh.unders,this.1,ih this.2,Bool.and_self]
  obtain ⟨vs,v1,v2,v3⟩:=packVs_in hs (ids:=ids) _ avs pa hun ha
  obtain ⟨St',g1,g2,g2',g3⟩:=packAt_in hs (ids:=ids) (fun id o ho=>⟨w,id,hs.objs id o ho⟩) ids en.objs pb hu.2 hb
  have hren:Ren ids pl St (pl.sub ids) St':=by
   refine ⟨fun j hj=>⟨_,List.getElem?_eq_getElem (by rw[g2];exact hj)⟩,fun j o' ho'=> ?_⟩
   obtain ⟨o,q1,q2⟩:=g3 j o' ho'
   exact ⟨o,q1,q2.1,rfl,rfl⟩
  have hinj:∀i j,i<ids.length→j<ids.length→ids.getD i 0=ids.getD j 0→i=j:=by
   intro i j hi hj e
   rw[List.getD_eq_getElem?_getD,List.getD_eq_getElem?_getD,List.getElem?_eq_getElem hi,List.getElem?_eq_getElem hj]at e
   exact (List.getElem_inj hnd).1 e
  have hlt:∀(j:Nat) (o':Obj),St'[j]? =some o'→j<ids.length:=fun j o' h=>by rw[←g2];exact (List.getElem?_eq_some_iff.1 h).1
  refine ⟨vs,pb,St',v2 pb,by have:=g1 [];rw[List.append_nil]at this;exact this.symm,v1,g2,g2',hren, ?_,v3 _ _ vals hren hv,fun b hb=> ?_,fun j o' ho'=> ?_⟩
  ·refine ⟨hs.stab,fun j o' ho'=> ?_,fun j o' ho' hh off hoff=> ?_,fun i j o o' hi hj h1 h2 hbb=> ?_,hs.glob,fun g t l row e=>⟨(hs.glo g t l row e).1,fun j o' ho' hh=> ?_⟩⟩
   ·obtain ⟨o,q1,q2⟩:=g3 j o' ho'
    exact q2.2.2 _ St' w _ j hren rfl rfl (hs.objs _ o q1)
   ·obtain ⟨o,q1,q2⟩:=g3 j o' ho'
    exact hs.apart _ o q1 (q2.2.1 hh) off (by rw[q2.1.sn hh];exact hoff)
   ·obtain ⟨o1,q1,q2⟩:=g3 i o hi
    obtain ⟨o2,q3,q4⟩:=g3 j o' hj
    exact hinj i j (hlt i o hi) (hlt j o' hj) (hs.inj _ _ o1 o2 q1 q3 (q2.2.1 h1) (q4.2.1 h2) hbb)
   ·obtain ⟨o,q1,q2⟩:=g3 j o' ho'
    exact (hs.glo g t l row e).2 _ o q1 (q2.2.1 hh)
  ·obtain ⟨j,o',ho',hh,hc1,hbb⟩:=hb
   obtain ⟨o,q1,q2⟩:=g3 j o' ho'
   have hj:=hlt j o' ho'
   refine ⟨ids.getD j 0, ?_,o,q1,q2.2.1 hh,(q2.1.cst hh).trans hc1,hbb⟩
   rw[List.getD_eq_getElem?_getD,List.getElem?_eq_getElem hj];exact List.getElem_mem hj
  ·obtain ⟨o,q1,q2⟩:=g3 j o' ho'
   exact ⟨o,q1,q2.1,q2.2.1⟩
 ·simp at h
end Go.Ev
namespace Go.Ev
variable {E:Env} {P:Program} {T:Nat→AFn} {S S':Stab} {pl pl' pl2:Pl} {St St' St2:Ev.St} {F F':Fr} {a:Act} {w w':World}
theorem rens_get (ids vers:List Nat):∀(cs:List AV) (i:Nat),(AV.rens ids vers cs)[i]? =(cs[i]?).map (AV.ren ids vers)
 |[],_=>by simp[AV.rens]
 |c::cs,0=>by simp[AV.rens]
 |c::cs,i+1=>by simp[AV.rens,rens_get ids vers cs i]
theorem rens_length (ids vers:List Nat):∀(cs:List AV),(AV.rens ids vers cs).length=cs.length
 |[]=>rfl
 |c::cs=>by simp[AV.rens,rens_length ids vers cs]
def BackO (all vers:List Nat) (v:Nat) (o' o3:Obj):Prop:=o3=Obj.ren all vers v o'∨((∃vs,o3= .cells true vs)∧∃vs,o'= .cells true vs)
def Back (all vers:List Nat) (pl':Pl) (St':Ev.St) (pl2:Pl) (St2:Ev.St):Prop:=
 ∀(j:Nat) (o':Obj),St'[j]? =some o'→∃o3,St2[all.getD j 0]? =some o3∧BackO all vers (vers.getD j 0) o' o3∧pl2.blk (all.getD j 0)=pl'.blk j∧pl2.cap (all.getD j 0)=pl'.cap j
theorem ren_ne_fresh (all vers:List Nat) (v:Nat) (o:Obj):Obj.ren all vers v o≠ .fresh:=by
 cases o with
 |arr u l c=>cases u<;>simp[Obj.ren]
 |sarr u e l c=>cases u<;>simp[Obj.ren]
 |_=>simp[Obj.ren]
theorem ren_var {all vers:List Nat} {v:Nat} {o:Obj} {l:L} {row:Row} (h:Obj.ren all vers v o= .var l row):o= .var l row:=by
 cases o with
 |arr u l c=>cases u<;>simp[Obj.ren]at h
 |sarr u e l c=>cases u<;>simp[Obj.ren]at h
 |var l r=>simpa[Obj.ren]using h
 |_=>simp[Obj.ren]at h
theorem ren_cells {all vers:List Nat} {v:Nat} {o:Obj} {c:Bool} {vs:List AV} (h:Obj.ren all vers v o= .cells c vs):∃vs0,o= .cells c vs0∧vs=AV.rens all vers vs0:=by
 cases o with
 |arr u l c=>cases u<;>simp[Obj.ren]at h
 |sarr u e l c=>cases u<;>simp[Obj.ren]at h
 |cells c' vs0=>simp[Obj.ren]at h;obtain ⟨rfl,rfl⟩:=h;exact ⟨vs0,rfl,rfl⟩
 |_=>simp[Obj.ren]at h
theorem ren_arr {all vers:List Nat} {v u:Nat} {o:Obj} {l:L} {c:C} (h:Obj.ren all vers v o= .arr u l c):o= .arr 0 l c∧u=v:=by
 cases o with
 |arr u' l' c'=>
  cases u' with
  |zero=>simp[Obj.ren]at h;obtain ⟨rfl,rfl,rfl⟩:=h;exact ⟨rfl,rfl⟩
  |succ u'=>simp[Obj.ren]at h
 |sarr u' e' l' c'=>cases u'<;>simp[Obj.ren]at h
 |_=>simp[Obj.ren]at h
theorem ren_sarr {all vers:List Nat} {v u:Nat} {o:Obj} {e:TypeId} {l:L} {c:C} (h:Obj.ren all vers v o= .sarr u e l c):o= .sarr 0 e l c∧u=v:=by
 cases o with
 |arr u' l' c'=>cases u'<;>simp[Obj.ren]at h
 |sarr u' e' l' c'=>
  cases u' with
  |zero=>simp[Obj.ren]at h;obtain ⟨rfl,rfl,rfl,rfl⟩:=h;exact ⟨rfl,rfl⟩
  |succ u'=>simp[Obj.ren]at h
 |_=>simp[Obj.ren]at h
theorem ren_map {all vers:List Nat} {v:Nat} {o:Obj} {kl vl:L} {es:List (Row×Row)} (h:Obj.ren all vers v o= .map kl vl es):o= .map kl vl es:=by
 cases o with
 |arr u l c=>cases u<;>simp[Obj.ren]at h
 |sarr u e l c=>cases u<;>simp[Obj.ren]at h
 |map a b c=>simpa[Obj.ren]using h
 |_=>simp[Obj.ren]at h
theorem ren_hol {all vers:List Nat} {v:Nat} {o:Obj} {l:L} {c:C} {i:Nat} {av:AV} (h:Obj.ren all vers v o= .hol l c i av):∃av0,o= .hol l c i av0:=by
 cases o with
 |arr u l c=>cases u<;>simp[Obj.ren]at h
 |sarr u e l c=>cases u<;>simp[Obj.ren]at h
 |hol l' c' i' av'=>simp[Obj.ren]at h;obtain ⟨rfl,rfl,rfl,_⟩:=h;exact ⟨_,rfl⟩
 |_=>simp[Obj.ren]at h
section
variable {all vers:List Nat} {v:Nat} {o o3:Obj}
theorem BackO.ne (h:BackO all vers v o o3):o3≠ .fresh:=by
 rcases h with rfl |⟨⟨vs,rfl⟩,_⟩
 ·exact ren_ne_fresh _ _ _ _
 ·simp
theorem BackO.var {l:L} {row:Row} (h:BackO all vers v o o3) (e:o3= .var l row):o= .var l row:=by
 rcases h with rfl |⟨⟨vs,rfl⟩,_⟩
 ·exact ren_var e
 ·cases e
theorem BackO.cells {c:Bool} {vs:List AV} (h:BackO all vers v o o3) (e:o3= .cells c vs):∃c0 vs0,o= .cells c0 vs0:=by
 rcases h with rfl |⟨⟨vs,rfl⟩,vs0,rfl⟩
 ·obtain ⟨vs0,q,_⟩:=ren_cells e;exact ⟨_,_,q⟩
 ·exact ⟨_,_,rfl⟩
theorem BackO.arr {u:Nat} {l:L} {c:C} (h:BackO all vers v o o3) (e:o3= .arr u l c):o= .arr 0 l c∧u=v:=by
 rcases h with rfl |⟨⟨vs,rfl⟩,_⟩
 ·exact ren_arr e
 ·cases e
theorem BackO.sarr {u:Nat} {e0:TypeId} {l:L} {c:C} (h:BackO all vers v o o3) (e:o3= .sarr u e0 l c):o= .sarr 0 e0 l c∧u=v:=by
 rcases h with rfl |⟨⟨vs,rfl⟩,_⟩
 ·exact ren_sarr e
 ·cases e
theorem BackO.hol {l:L} {c:C} {i:Nat} {av:AV} (h:BackO all vers v o o3) (e:o3= .hol l c i av):∃av0,o= .hol l c i av0:=by
 rcases h with rfl |⟨⟨vs,rfl⟩,_⟩
 ·exact ren_hol e
 ·cases e
theorem BackO.map {kl vl:L} {es:List (Row×Row)} (h:BackO all vers v o o3) (e:o3= .map kl vl es):o= .map kl vl es:=by
 rcases h with rfl |⟨⟨vs,rfl⟩,_⟩
 ·exact ren_map e
 ·cases e
end
theorem RelV.back {all vers:List Nat} (hb:Back all vers pl' St' pl2 St2) {av:AV} {v:Value} (h:RelV P T S pl' St' av v):RelV P T S pl2 St2 (AV.ren all vers av) v:=by
 induction h with
 |undef=>simp[AV.ren];exact .undef
 |und=>simp[AV.ren];exact .undef
 |d h=>simp only[AV.ren];exact .d h
 | @ptr id off o v h0 h1 h2 h3 h4=>
   obtain ⟨o3,g1,gb,g2,g3⟩:=hb id o h1
   simp only[AV.ren]
   refine .ptr h0 g1 gb.ne (fun l row e=> ?_) (fun c vs e=> ?_)
   ·rw[g2];exact h3 _ _ (gb.var e)
   ·obtain ⟨c0,vs0,q⟩:=gb.cells e
    rw[g2];exact h4 _ _ q
 | @aptr id ver idx off o v h0 h1 h2 hv h3=>
   obtain ⟨o3,g1,gb,g2,g3⟩:=hb id o h1
   cases ver with
   |succ ver=>simp[AV.ren];exact .undef
   |zero=>
    simp only[AV.ren]
    refine .aptr h0 g1 gb.ne (fun v1 l c e=> ?_) (fun l c e=> ?_)
    ·rw[(gb.arr e).2];exact Nat.le_refl _
    ·rw[g2];exact h3 _ _ (gb.arr e).1
 | @whole id ver o v h0 h1 h2 hv h3 h4=>
   obtain ⟨o3,g1,gb,g2,g3⟩:=hb id o h1
   cases ver with
   |succ ver=>simp[AV.ren];exact .undef
   |zero=>
    simp only[AV.ren]
    refine .whole h0 g1 gb.ne (fun v1 l c e=> ?_) (fun l e=> ?_) (fun l rows e=> ?_)
    ·rw[(gb.arr e).2];exact Nat.le_refl _
    ·exact h3 _ (gb.arr e).1
    ·rw[g2,g3];exact h4 _ _ (gb.arr e).1
 |own=>simp[AV.ren];exact .undef
 | @sw id ver o v h0 h1 h2 hv h3 h4=>
   obtain ⟨o3,g1,gb,g2,g3⟩:=hb id o h1
   cases ver with
   |succ ver=>simp[AV.ren];exact .undef
   |zero=>
    simp only[AV.ren]
    refine .sw h0 g1 gb.ne (fun v1 e l c q=> ?_) (fun e l q=> ?_) (fun e l rows q=> ?_)
    ·rw[(gb.sarr q).2];exact Nat.le_refl _
    ·exact h3 _ _ (gb.sarr q).1
    ·rw[g2,g3];exact h4 _ _ _ (gb.sarr q).1
 | @agg avs vs h0 h ih=>
   simp only[AV.ren]
   have:=RelV.agg (P:=P) (T:=T) (S:=S) (pl:=pl2) (St:=St2) (avs:=AV.rens all vers avs) vs (fun i hi=>h0 i (by rw[rens_length]at hi;exact hi)) (fun i av hi=>by
    rw[rens_get]at hi
    obtain ⟨c,hc,rfl⟩:=Option.map_eq_some_iff.1 hi
    exact ih i c hc)
   rw[rens_length]at this;exact this
 | @fn f caps vs h ih=>
   simp only[AV.ren]
   have:=RelV.fn (P:=P) (T:=T) (S:=S) (pl:=pl2) (St:=St2) (f:=f) (caps:=AV.rens all vers caps) vs (fun i av hi=>by
    rw[rens_get]at hi
    obtain ⟨c,hc,rfl⟩:=Option.map_eq_some_iff.1 hi
    exact ih i c hc)
   rw[rens_length]at this;exact this
 |tup=>simp[AV.ren];exact .undef
 | @hol id o v h0 h1 h2 h3 h4=>
   obtain ⟨o3,g1,gb,g2,g3⟩:=hb id o h1
   simp only[AV.ren]
   refine .hol h0 g1 gb.ne (fun l i av e=> ?_) (fun l rows i av e=> ?_)
   ·obtain ⟨av0,q⟩:=gb.hol e;exact h3 _ _ _ q
   ·obtain ⟨av0,q⟩:=gb.hol e;rw[g2,g3];exact h4 _ _ _ _ q
 | @hptr id idx o v h0 h1 h2 h3=>
   obtain ⟨o3,g1,gb,g2,g3⟩:=hb id o h1
   simp only[AV.ren]
   refine .hptr h0 g1 gb.ne (fun l c i av e=> ?_)
   obtain ⟨av0,q⟩:=gb.hol e;rw[g2];exact h3 _ _ _ _ q
 | @map id o v h0 h1 h2 h3=>
   obtain ⟨o3,g1,gb,g2,g3⟩:=hb id o h1
   simp only[AV.ren]
   refine .map h0 g1 gb.ne (fun kl vl es e=> ?_)
   rw[g2];exact h3 _ _ _ (gb.map e)
end Go.Ev
namespace Go.Ev
variable {E:Env} {P:Program} {T:Nat→AFn} {S S' S2:Stab} {pl pl' pl2:Pl} {St St' St2:Ev.St} {F F':Fr} {a:Act} {w w':World}
mutual
theorem Sh.beq_eq:∀(a b:Sh),Sh.beq a b=true→a=b
 | .d a,b,h=>by cases b<;>simp[Sh.beq]at h;rw[L.beq_eq h]
 | .ptr i o,b,h=>by cases b<;>simp[Sh.beq]at h;rw[h.1,h.2]
 | .whole i,b,h=>by cases b<;>simp[Sh.beq]at h;rw[h]
 | .fn f cs,b,h=>by
   cases b<;>simp[Sh.beq]at h
   rw[h.1,Sh.beqs_eq _ _ h.2]
 | .map i,b,h=>by cases b<;>simp[Sh.beq]at h;rw[h]
 | .sw i,b,h=>by cases b<;>simp[Sh.beq]at h;rw[h]
 | .agg cs,b,h=>by
   cases b<;>simp[Sh.beq]at h
   rw[Sh.beqs_eq _ _ h]
 | .ptrv i,b,h=>by cases b<;>simp[Sh.beq]at h;rw[h]
 | .aptr i,b,h=>by cases b<;>simp[Sh.beq]at h;rw[h]
 | .hol i,b,h=>by cases b<;>simp[Sh.beq]at h;rw[h]
theorem Sh.beqs_eq:∀(a b:List Sh),Sh.beqs a b=true→a=b
 |[],b,h=>by cases b<;>simp[Sh.beqs]at h;rfl
 |a::r,b,h=>by
  cases b with
  |nil=>simp[Sh.beqs]at h
  |cons b r'=>
   simp only[Sh.beqs,Bool.and_eq_true]at h
   rw[Sh.beq_eq _ _ h.1,Sh.beqs_eq _ _ h.2]
end
theorem OSh.beq_eq {a b:OSh} (h:OSh.beq a b=true):a=b:=by
 cases a<;>cases b<;>simp[OSh.beq]at h
 ·rw[L.beq_eq h]
 ·rename_i c vs c' vs'
  rw[Sh.beqs_eq _ _ h.2]
  cases c<;>cases c'<;>simp_all
 ·rw[L.beq_eq h]
 ·rw[L.beq_eq h.1,L.beq_eq h.2]
 ·rw[h.1,L.beq_eq h.2]
 ·rw[L.beq_eq h.1,Sh.beq_eq _ _ h.2]
theorem OSh.beqs_eq:∀{a b:List OSh},OSh.beqs a b=true→a=b
 |[],[],_=>rfl
 |[],_::_,h=>by simp[OSh.beqs]at h
 |_::_,[],h=>by simp[OSh.beqs]at h
 |a::r,b::r',h=>by
  simp only[OSh.beqs,Bool.and_eq_true]at h
  rw[OSh.beq_eq h.1,OSh.beqs_eq h.2]
theorem slotsBeq_eq:∀{a b:List (Nat×Sh)},slotsBeq a b=true→a=b
 |[],[],_=>rfl
 |[],_::_,h=>by simp[slotsBeq]at h
 |_::_,[],h=>by simp[slotsBeq]at h
 |(n,a)::r,(m,b)::r',h=>by
  simp only[slotsBeq,Bool.and_eq_true]at h
  rw[Nat.eq_of_beq_eq_true h.1.1,Sh.beq_eq _ _ h.1.2,slotsBeq_eq h.2]
theorem Shape.beq_eq {a b:Shape} (h:Shape.beq a b=true):a=b:=by
 simp only[Shape.beq,Bool.and_eq_true]at h
 cases a;cases b
 simp at h
 rw[slotsBeq_eq h.1.1,OSh.beqs_eq h.1.2,h.2]
def HolKept (pl:Pl) (St:Ev.St) (pl2:Pl) (St2:Ev.St):Prop:=∀(j:Nat) (o:Obj) (l:L) (c:C) (i:Nat) (av:AV),St[j]? =some o→St2[j]? =some (.hol l c i av)→
 ∃c0 i0 av0,o= .hol l c0 i0 av0∧(c= .nils→c0= .nils)∧(∀rows,c= .sl rows→∃rows0,c0= .sl rows0∧rows0.length=rows.length∧pl2.blk j=pl.blk j∧pl2.cap j=pl.cap j)
def IcOk (P:Program) (T:Nat→AFn) (ic:Nat→List PV→Option (List PV)):Prop:=
 ∀i af,T i= .imp af→∀ps ps',ic i ps=some ps'→∀(S:Stab) (pl:Pl) (St:Ev.St) (w:World) (avs:List AV) (r:List PV) (vals:Nat→Value),
  unVs (af.entry.slots.map (·.2)) ps=(avs,r)→St=unOs af.entry.objs r→Sim P T S pl St w→(∀i av,avs[i]? =some av→RelV P T S pl St av (vals i))→
  (callFunc af.fn ((List.range avs.length).map vals).toArray).run P w= .ok (.enter af.fn ((List.range avs.length).map vals).toArray) w∧
  Calls P af.fn ((List.range avs.length).map vals).toArray w fun e w'=>∃(S2:Stab) (pl2:Pl) (St2:Ev.St) (avs2:List AV) (r2:List PV) (out:List Value),
   unVs (af.exit.slots.map (·.2)) ps'=(avs2,r2)∧St2=unOs af.exit.objs r2∧e= .returned (retV out)∧out.length=avs2.length∧
   Sim P T S2 pl2 St2 w'∧Grow (Owns pl St) S w S2 w'∧(∀i av,avs2[i]? =some av→RelV P T S2 pl2 St2 av (out.getD i undef))∧
   (∀b,Owns pl2 St2 b→Owns pl St b∨w.heap.size≤b)∧
   (∀(j:Nat) (o o':Obj),St[j]? =some o→St2[j]? =some o'→((∃l row,o'= .var l row)∨(∃c vs,o'= .cells c vs)∨∃kl vl es,o'= .map kl vl es)→pl2.blk j=pl.blk j)∧HolKept pl St pl2 St2
structure EnvOk (P:Program) (T:Nat→AFn) (E:Env):Prop where
 pc:PcOk P T E.pc
 ic:IcOk P T E.ic
def OfSh:OSh→Obj→Prop
 | .var l,o=>∃row,o= .var l row
 | .cells _ [],o=>o= .dead
 | .cells c (_::_),o=>∃vs,o= .cells c vs
 | .arr l,o=>∃c,o= .arr 0 l c
 | .map kl vl,o=>∃es,o= .map kl vl es
 | .sarr e l,o=>∃c,o= .sarr 0 e l c
 | .hol l _,o=>∃c i av,o= .hol l c i av
theorem unO_sh (s:OSh) (ps:List PV):OfSh s (unO s ps).1:=by
 cases s with
 |var l=>exact ⟨_,rfl⟩
 |cells c vs=>cases vs with
  |nil=>rfl
  |cons v vs=>exact ⟨_,rfl⟩
 |arr l=>exact ⟨_,rfl⟩
 |map kl vl=>exact ⟨_,rfl⟩
 |sarr e l=>exact ⟨_,rfl⟩
 |hol l s=>exact ⟨_,_,_,rfl⟩
theorem unOs_length:∀(ss:List OSh) (ps:List PV),(unOs ss ps).length=ss.length
 |[],_=>rfl
 |s::ss,ps=>by simp[unOs,unOs_length ss]
theorem unOs_sh:∀(ss:List OSh) (ps:List PV) (j:Nat) (o:Obj),(unOs ss ps)[j]? =some o→∃s,ss[j]? =some s∧OfSh s o
 |[],_,_,_,h=>by simp[unOs]at h
 |s::ss,ps,0,o,h=>by
  simp only[unOs,List.getElem?_cons_zero,Option.some.injEq]at h
  subst h
  exact ⟨s,rfl,unO_sh s ps⟩
 |s::ss,ps,j+1,o,h=>by
  simp only[unOs,List.getElem?_cons_succ]at h
  obtain ⟨s',h1,h2⟩:=unOs_sh ss _ j o h
  exact ⟨s',by simpa using h1,h2⟩
theorem kindB_get:∀{a b:List OSh} {j:Nat} {s s':OSh},kindB a b=true→a[j]? =some s→b[j]? =some s'→
 (∀c,s'= .cells c []→True)∧(∀l,s'= .var l→∃l0,s= .var l0)∧(∀c v vs,s'= .cells c (v::vs)→∃c0 v0 vs0,s= .cells c0 (v0::vs0))∧(∀l,s'= .arr l→s= .arr l)∧
 (∀kl vl,s'= .map kl vl→∃kl0 vl0,s= .map kl0 vl0)∧(∀e l,s'= .sarr e l→s= .sarr e l)∧(∀l s2,s'= .hol l s2→∃s0,s= .hol l s0)∧(s'.cst=true→s.cst=true)
 |[],_,_,_,_,_,h,_=>by simp at h
 |_::_,[],_,_,_,h,_,_=>by simp[kindB]at h
 |a::r,b::r',0,s,s',h,h1,h2=>by
  simp only[List.getElem?_cons_zero,Option.some.injEq]at h1 h2
  subst h1;subst h2
  simp only[kindB,Bool.and_eq_true]at h
  obtain ⟨h,_⟩:=h
  refine ⟨fun _ _=>trivial,fun l e=> ?_,fun c v vs e=> ?_,fun l e=> ?_,fun kl vl e=> ?_,fun e l q=> ?_,fun l s2 q=> ?_,fun q=> ?_⟩
  ·subst e;cases a<;>simp at h;exact ⟨_,rfl⟩
  ·subst e
   cases a with
   |cells c0 vs0=>cases vs0 with
    |nil=>simp at h
    |cons v0 vs0=>exact ⟨_,_,_,rfl⟩
   |_=>simp at h
  ·subst e;cases a<;>simp at h;rw[L.beq_eq h]
  ·subst e;cases a<;>simp at h;exact ⟨_,_,rfl⟩
  ·subst q;cases a<;>simp at h;rw[h.1,L.beq_eq h.2]
  ·subst q;cases a<;>simp at h;rw[L.beq_eq h];exact ⟨_,rfl⟩
  ·cases b with
   |cells c vs=>cases vs with
    |nil=>simp[OSh.cst]at q
    |cons v vs=>
     cases c with
     |false=>simp[OSh.cst]at q
     |true=>
      cases a with
      |cells c0 vs0=>cases vs0 with
       |nil=>simp at h
       |cons v0 vs0=>cases c0<;>simp at h⊢<;>rfl
      |_=>simp at h
   |_=>simp[OSh.cst]at q
 |a::r,b::r',j+1,s,s',h,h1,h2=>by
  simp only[kindB,Bool.and_eq_true]at h
  exact kindB_get h.2 (by simpa using h1) (by simpa using h2)
theorem kindB_new:∀{a b:List OSh} {j:Nat} {s':OSh},kindB a b=true→a.length≤j→b[j]? =some s'→s'.cst=false
 |[],r,j,s',h,_,h2=>by
  simp only[kindB,List.all_eq_true]at h
  have:=h s' (List.mem_of_getElem? h2)
  simpa using this
 |_::_,[],_,_,h,_,_=>by simp[kindB]at h
 |a::r,b::r',0,s,h,h1,h2=>by simp at h1
 |a::r,b::r',j+1,s,h,h1,h2=>by
  simp only[kindB,Bool.and_eq_true]at h
  exact kindB_new h.2 (by simpa using h1) (by simpa using h2)
theorem ofSh_cst {s:OSh} {o:Obj} (h:OfSh s o):o.cst=s.cst:=by
 cases s with
 |cells c vs=>cases vs with
  |nil=>cases h;cases c<;>rfl
  |cons v vs=>obtain ⟨vs',rfl⟩:=h;cases c<;>rfl
 |var l=>obtain ⟨_,rfl⟩:=h;rfl
 |arr l=>obtain ⟨_,rfl⟩:=h;rfl
 |map a b=>obtain ⟨_,rfl⟩:=h;rfl
 |sarr e l=>obtain ⟨_,rfl⟩:=h;rfl
 |hol l s=>obtain ⟨_,_,_,rfl⟩:=h;rfl
theorem numsFrom_length:∀(i n:Nat),(numsFrom i n).length=n
 |_,0=>rfl
 |i,n+1=>by simp[numsFrom,numsFrom_length (i+1) n]
theorem nodupB_sound:∀{l:List Nat},nodupB l=true→l.Nodup
 |[],_=>List.nodup_nil
 |a::r,h=>by
  simp only[nodupB,Bool.and_eq_true,Bool.not_eq_true',List.any_eq_false]at h
  refine List.nodup_cons.2 ⟨fun hm=> ?_,nodupB_sound h.2⟩
  exact h.1 a hm (by simp)
theorem freshAt_sound:∀{is:List Nat},freshAt St is=true→∀i∈is,St[i]? =some .fresh
 |[],_,i,h=>by cases h
 |a::r,h,i,hi=>by
  simp only[freshAt,Bool.and_eq_true]at h
  rcases List.mem_cons.1 hi with rfl |hi
  ·have:=h.1
   split at this
   ·assumption
   ·simp at this
  ·exact freshAt_sound h.2 i hi
theorem renObjs_keys (ids vers:List Nat):∀(is vs:List Nat) (os:List Obj),is.length=vs.length→is.length=os.length→(renObjs ids vers is vs os).map (·.1)=is
 |[],_,_,_,_=>by simp[renObjs]
 |i::is,[],_,h,_=>by simp at h
 |i::is,v::vs,[],_,h=>by simp at h
 |i::is,v::vs,o::os,h1,h2=>by simp only[renObjs,List.map_cons];rw[renObjs_keys ids vers is vs os (by simpa using h1) (by simpa using h2)]
theorem updAll_other:∀(us:List (Nat×Obj)) (S:Ev.St) (j:Nat),j∉us.map (·.1)→(updAll us S)[j]? =S[j]?
 |[],_,_,_=>rfl
 |(i,o)::r,S,j,h=>by
  simp only[List.map_cons,List.mem_cons,not_or]at h
  simp only[updAll]
  rw[updAll_other r _ j h.2,List.getElem?_set_ne (Ne.symm h.1)]
theorem keepC_sub (S0:Ev.St):∀(us:List (Nat×Obj)) (j:Nat),j∈(keepC S0 us).map (·.1)→j∈us.map (·.1)
 |[],_,h=>h
 |p::r,j,h=>by
  simp only[keepC]at h
  split at h
  ·exact List.mem_cons_of_mem _ (keepC_sub S0 r j h)
  ·simp only[List.map_cons,List.mem_cons]at h⊢
   rcases h with h |h
   ·exact .inl h
   ·exact .inr (keepC_sub S0 r j h)
theorem updAll_keep (S0:Ev.St) (ids vers:List Nat):∀(is vs:List Nat) (os:List Obj) (S:Ev.St) (j:Nat) (o:Obj),is.length=vs.length→is.length=os.length→is.Nodup→(∀i∈is,i<S.length)→os[j]? =some o→
 (updAll (keepC S0 (renObjs ids vers is vs os)) S)[is.getD j 0]? =if (cstAt S0 (is.getD j 0)&&(Obj.ren ids vers (vs.getD j 0) o).cst)=true then S[is.getD j 0]? else some (Obj.ren ids vers (vs.getD j 0) o)
 |[],_,os,_,_,_,_,h,_,_,ho=>by
  have:os=[]:=List.eq_nil_of_length_eq_zero (by simpa using h.symm)
  subst this;simp at ho
 |i::is,[],_,_,_,_,h,_,_,_,_=>by simp at h
 |i::is,v::vs,[],_,_,_,_,h,_,_,_=>by simp at h
 |i::is,v::vs,o0::os,S,0,o,h1,h2,hnd,hlt,ho=>by
  simp only[List.getElem?_cons_zero,Option.some.injEq]at ho
  subst ho
  obtain ⟨hni,hnd⟩:=List.nodup_cons.1 hnd
  have hk:i∉(keepC S0 (renObjs ids vers is vs os)).map (·.1):=fun h=>hni (by
   have:=keepC_sub S0 _ _ h
   rw[renObjs_keys _ _ _ _ _ (by simpa using h1) (by simpa using h2)]at this;exact this)
  simp only[renObjs,keepC,List.getD_cons_zero]
  split
  ·rename_i hc
   rw[if_pos hc,updAll_other _ _ _ hk]
  ·rename_i hc
   rw[if_neg (by rw[hc];simp)]
   simp only[updAll]
   rw[updAll_other _ _ _ hk]
   exact List.getElem?_set_self (hlt i (by simp))
 |i::is,v::vs,o0::os,S,j+1,o,h1,h2,hnd,hlt,ho=>by
  obtain ⟨hni,hnd⟩:=List.nodup_cons.1 hnd
  simp only[renObjs,keepC,List.getD_cons_succ]
  split
  ·exact updAll_keep S0 ids vers is vs os S j o (by simpa using h1) (by simpa using h2) hnd (fun k hk=>hlt k (by simp[hk])) (by simpa using ho)
  ·simp only[updAll]
   rw[updAll_keep S0 ids vers is vs os _ j o (by simpa using h1) (by simpa using h2) hnd (fun k hk=>by simpa using hlt k (by simp[hk])) (by simpa using ho)]
   have hne:is.getD j 0≠i:=fun e=>hni (by
    have hj:j<is.length:=by
     have:=(List.getElem?_eq_some_iff.1 ho).1
     simp at this h2;omega
    rw[←e,List.getD_eq_getElem?_getD,List.getElem?_eq_getElem hj];exact List.getElem_mem hj)
   rw[List.getElem?_set_ne (Ne.symm hne)]
theorem getD_get {l:List Nat} {j i:Nat} (h:l[j]? =some i):l.getD j 0=i:=by simp[List.getD_eq_getElem?_getD,h]
theorem ObjIs.back {all vers:List Nat} (hb:Back all vers pl' St' pl2 St2) {j id v:Nat} {o:Obj} (hid:pl2.blk id=pl'.blk j) (hc:pl2.cap id=pl'.cap j) (h:ObjIs P T S pl' St' w j o):ObjIs P T S pl2 St2 w id (Obj.ren all vers v o):=by
 cases o with
 |fresh=>trivial
 |dead=>trivial
 |var l row=>
  obtain ⟨cur,e,h1,h2⟩:=h
  exact ⟨cur,e,by rw[hid];exact h1,h2⟩
 |cells c vs=>
  obtain ⟨cur,e,h1,h2,h3,h4⟩:=h
  refine ⟨cur,e,by rw[hid];exact h1,by rw[rens_length];exact h2,fun i av hi=> ?_,h4⟩
  rw[rens_get]at hi
  obtain ⟨u,hu,rfl⟩:=Option.map_eq_some_iff.1 hi
  exact (h3 i u hu).back hb
 |arr u l c=>
  cases u with
  |succ u=>trivial
  |zero=>
   rcases h with h |⟨rows,cur,e,i,q0,q1,q2,q3,q4,q5,q6,q7,q8⟩
   ·exact .inl h
   ·exact .inr ⟨rows,cur,e,i,q0,by rw[hid];exact q1,q2,q3,q4,by rw[hc];exact q5,by rw[hc];exact q6,by rw[hc];exact q7,q8⟩
 |sarr u e l c=>
  cases u with
  |succ u=>trivial
  |zero=>
   rcases h with h |⟨rows,cur,e,i,q0,q1,q2,q3,q4,q5,q6,q7,q8,q9⟩
   ·exact .inl h
   ·exact .inr ⟨rows,cur,e,i,q0,by rw[hid];exact q1,q2,q3,q4,by rw[hc];exact q5,by rw[hc];exact q6,by rw[hc];exact q7,q8,by rw[hid];exact q9⟩
 |map kl vl es=>
  obtain ⟨ens,clock,h1,h2,h3⟩:=h
  exact ⟨ens,clock,by rw[hid];exact h1,h2,h3⟩
 |hol l c i av=>
  rcases h with h |⟨rows,cur,e,inf,q0,q1,q2,q3,q4,q5,q6,q7,q8,q9⟩
  ·exact .inl h
  ·exact .inr ⟨rows,cur,e,inf,q0,by rw[hid];exact q1,q2,q3,q4,by rw[hc];exact q5,by rw[hc];exact q6,by rw[hc];exact q7,q8,fun hi=>⟨(q9 hi).1,(q9 hi).2.1.back hb,(q9 hi).2.2⟩⟩
theorem ren_has {all vers:List Nat} {v:Nat} {o:Obj} (h:(Obj.ren all vers v o).has=true):o.has=true∧(Obj.ren all vers v o).sn=o.sn:=by
 cases o with
 |arr u l c=>cases u<;>simp[Obj.ren,Obj.has]at h⊢;cases c<;>simp_all[Obj.has,Obj.sn]
 |sarr u e l c=>cases u<;>simp[Obj.ren,Obj.has]at h⊢;cases c<;>simp_all[Obj.has,Obj.sn]
 |fresh=>simp[Obj.ren,Obj.has]at h
 |dead=>simp[Obj.ren,Obj.has]at h
 |hol l c i av=>cases c<;>simp_all[Obj.ren,Obj.has,Obj.sn]
 |_=>simp[Obj.ren,Obj.has,Obj.sn]
noncomputable def Pl.back (pl pl2:Pl) (all:List Nat):Pl:=
 ⟨fun id=>if id∈all then pl2.blk (all.idxOf id)else pl.blk id,fun id=>if id∈all then pl2.cap (all.idxOf id)else pl.cap id⟩
theorem Pl.back_in {pl pl2:Pl} {all:List Nat} (hnd:all.Nodup) {j:Nat} (hj:j<all.length):(pl.back pl2 all).blk (all.getD j 0)=pl2.blk j∧(pl.back pl2 all).cap (all.getD j 0)=pl2.cap j:=by
 have hm:all.getD j 0∈all:=by rw[List.getD_eq_getElem?_getD,List.getElem?_eq_getElem hj];exact List.getElem_mem hj
 have hi:all.idxOf (all.getD j 0)=j:=by
  rw[List.getD_eq_getElem?_getD,List.getElem?_eq_getElem hj]
  exact hnd.idxOf_getElem j hj
 simp only[Pl.back,if_pos hm,hi,and_self]
theorem Pl.back_out {pl pl2:Pl} {all:List Nat} {id:Nat} (h:id∉all):(pl.back pl2 all).blk id=pl.blk id∧(pl.back pl2 all).cap id=pl.cap id:=by
 simp only[Pl.back,if_neg h,and_self]
end Go.Ev
namespace Go.Ev
variable {E:Env} {P:Program} {T:Nat→AFn} {S S' S2:Stab} {pl pl' pl2:Pl} {St St' St2:Ev.St} {F F':Fr} {a:Act} {w w':World}
theorem ren_cst {all vers:List Nat} (v:Nat) (o':Obj) (h:(Obj.ren all vers v o').cst=true):∃vs,o'= .cells true vs:=by
 cases o' with
 |cells c vs=>
  cases c with
  |true=>exact ⟨vs,rfl⟩
  |false=>simp[Obj.ren,Obj.cst]at h
 |arr u l c=>cases u<;>simp[Obj.ren,Obj.cst]at h
 |sarr u e l c=>cases u<;>simp[Obj.ren,Obj.cst]at h
 |_=>simp[Obj.ren,Obj.cst]at h
theorem ren_cst' {all vers:List Nat} (v:Nat) (o':Obj) (h:(Obj.ren all vers v o').cst=false):o'.cst=false:=by
 cases o' with
 |cells c vs=>
  cases c with
  |true=>simp[Obj.ren,Obj.cst]at h
  |false=>rfl
 |_=>rfl
theorem icall_post {ids new all vers:List Nat} {en ex:List OSh} {r r2:List PV} {St3:Ev.St} (hs:Sim P T S pl St w) (hsub:Sim P T S (pl.sub ids) St' w) (hSt':St'=unOs en r) (hSt2:St2=unOs ex r2) (hs2:Sim P T S2 pl2 St2 w')
 (hall:all=ids++new) (hfresh:∀i∈new,St[i]? =some .fresh) (hnd:all.Nodup) (hlen:St2.length=all.length) (hlen':St'.length=ids.length) (hkind:kindB en ex=true) (hvers:vers=all.map (verOf St))
 (hdown:∀(j:Nat) (o':Obj),St'[j]? =some o'→∃o:Obj,St[ids.getD j 0]? =some o∧DownR o o'∧(o'.has=true→o.has=true))
 (hg:Grow (Owns (pl.sub ids) St') S w S2 w') (hown:∀b,Owns (pl.sub ids) St' b→∃i∈ids,∃o,St[i]? =some o∧o.has=true∧o.cst=false∧pl.blk i=b)
 (hy:∀b,Owns pl2 St2 b→Owns (pl.sub ids) St' b∨w.heap.size≤b)
 (hblk:∀(j:Nat) (o o':Obj),St'[j]? =some o→St2[j]? =some o'→((∃l row,o'= .var l row)∨(∃c vs,o'= .cells c vs)∨∃kl vl es,o'= .map kl vl es)→pl2.blk j=(pl.sub ids).blk j)
 (hholk:HolKept (pl.sub ids) St' pl2 St2)
 (hSt3:St3=updAll (keepC St (renObjs all vers all vers St2)) St):
 Sim P T S2 (pl.back pl2 all) St3 w'∧Grow (Owns pl St) S w S2 w'∧Back all vers pl2 St2 (pl.back pl2 all) St3∧Keeps pl St (pl.back pl2 all) St3∧(∀b,Owns (pl.back pl2 all) St3 b→Owns pl St b∨w.heap.size≤b):=by
 have hvl:all.length=vers.length:=by rw[hvers];simp
 have hol:all.length=St2.length:=hlen.symm
 have hall_lt:∀i∈all,i<St.length:=by
  intro i hi
  rw[hall]at hi
  rcases List.mem_append.1 hi with h |h
  ·obtain ⟨j,hj,rfl⟩:=List.getElem_of_mem h
   have hj':j<St'.length:=by omega
   obtain ⟨o,h1,_⟩:=hdown j _ (List.getElem?_eq_getElem hj')
   rw[getD_get (List.getElem?_eq_getElem hj)]at h1
   exact (List.getElem?_eq_some_iff.1 h1).1
  ·exact (List.getElem?_eq_some_iff.1 (hfresh i h)).1
 have get_in:∀(j:Nat) (o':Obj),St2[j]? =some o'→St3[all.getD j 0]? =if (cstAt St (all.getD j 0)&&(Obj.ren all vers (vers.getD j 0) o').cst)=true then St[all.getD j 0]? else some (Obj.ren all vers (vers.getD j 0) o'):=fun j o' h=>by
  rw[hSt3];exact updAll_keep St all vers all vers St2 St j o' hvl hol hnd hall_lt h
 have get_out:∀id,id∉all→St3[id]? =St[id]? :=fun id h=>by
  rw[hSt3];exact updAll_other _ _ _ (fun q=>h (by have:=keepC_sub _ _ _ q;rw[renObjs_keys _ _ _ _ _ hvl hol]at this;exact this))
 have keptC:∀(j:Nat) (o':Obj),St2[j]? =some o'→cstAt St (all.getD j 0)=true→o'.cst=true→
  ∃vs,St[all.getD j 0]? =some (.cells true vs)∧(∃vs',o'= .cells true vs')∧pl2.blk j=pl.blk (all.getD j 0)∧¬Owns (pl.sub ids) St' (pl.blk (all.getD j 0)):=fun j o' h hc hc'=>by
  have hv:∃vs,St[all.getD j 0]? =some (.cells true vs):=by
   unfold cstAt at hc
   split at hc
   ·rename_i o e
    cases o with
    |cells c vs=>cases c with
     |true=>exact ⟨vs,e⟩
     |false=>simp[Obj.cst]at hc
    |_=>simp[Obj.cst]at hc
   ·simp at hc
  obtain ⟨vs,hv⟩:=hv
  have hv':∃vs',o'= .cells true vs':=by
   cases o' with
   |cells c vs'=>cases c with
    |true=>exact ⟨vs',rfl⟩
    |false=>simp[Obj.cst]at hc'
   |_=>simp[Obj.cst]at hc'
  obtain ⟨vs',rfl⟩:=hv'
  have hj:j<all.length:=by have:=(List.getElem?_eq_some_iff.1 h).1;omega
  have hj2:j<ids.length:=by
   rcases Nat.lt_or_ge j ids.length with q |q
   ·exact q
   ·exfalso
    have:all[j]? =some (all.getD j 0):=by rw[List.getD_eq_getElem?_getD,List.getElem?_eq_getElem hj];rfl
    rw[hall,List.getElem?_append_right q]at this
    have hf:=hfresh _ (List.mem_of_getElem? (hall▸this))
    rw[hv]at hf;cases hf
  have e:all.getD j 0=ids.getD j 0:=by
   rw[hall,List.getD_eq_getElem?_getD,List.getD_eq_getElem?_getD,List.getElem?_append_left hj2]
  refine ⟨vs,hv,⟨vs',rfl⟩, ?_,fun hq=> ?_⟩
  ·rw[hblk j _ _ (List.getElem?_eq_getElem (by omega)) h (.inr (.inl ⟨_,_,rfl⟩)),e];rfl
  ·obtain ⟨i,_,o,h1,h2,h3,h4⟩:=hown _ hq
   have:=hs.inj i _ o _ h1 hv h2 rfl h4
   subst this
   rw[hv]at h1;obtain rfl:=Option.some.inj h1
   simp[Obj.cst]at h3
 have cst_in:∀(j:Nat) (o':Obj),St2[j]? =some o'→o'.cst=true→cstAt St (all.getD j 0)=true:=fun j o' h hc=>by
  have hj:j<all.length:=by have:=(List.getElem?_eq_some_iff.1 h).1;omega
  obtain ⟨s2,k3,k4⟩:=unOs_sh ex r2 j o' (by rw[←hSt2];exact h)
  have hc2:s2.cst=true:=by rw[←ofSh_cst k4];exact hc
  have hen:en.length=ids.length:=by rw[←hlen',hSt',unOs_length]
  rcases Nat.lt_or_ge j ids.length with q |q
  ·have hj3:j<St'.length:=by omega
   obtain ⟨s1,k1,k2⟩:=unOs_sh en r j St'[j] (by rw[←hSt'];exact List.getElem?_eq_getElem hj3)
   obtain ⟨_,_,_,_,_,_,_,q5⟩:=kindB_get hkind k1 k3
   have hc1:=q5 hc2
   rw[←ofSh_cst k2]at hc1
   obtain ⟨o,h1,h2,h3⟩:=hdown j _ (List.getElem?_eq_getElem hj3)
   have hh:(St'[j]).has=true:=by
    generalize St'[j]=o9 at hc1
    cases o9<;>simp_all[Obj.cst,Obj.has]
   have e:all.getD j 0=ids.getD j 0:=by
    rw[hall,List.getD_eq_getElem?_getD,List.getD_eq_getElem?_getD,List.getElem?_append_left q]
   unfold cstAt
   rw[e,h1]
   simp only
   rw[h2.cst hh];exact hc1
  ·have:=kindB_new hkind (by omega) k3
   rw[this]at hc2;cases hc2
 have split:∀(id:Nat) (o:Obj),St3[id]? =some o→(∃j o',j<all.length∧id=all.getD j 0∧St2[j]? =some o'∧o=Obj.ren all vers (vers.getD j 0) o'∧o.cst=false)∨
  (¬Owns (pl.sub ids) St' (pl.blk id)∨o.has=false)∧St[id]? =some o∧(pl.back pl2 all).blk id=pl.blk id∧(id∉all∧(pl.back pl2 all).cap id=pl.cap id∨∃j o' vs,j<all.length∧id=all.getD j 0∧St2[j]? =some o'∧o'.has=true∧pl2.blk j=pl.blk id∧o= .cells true vs):=by
  intro id o h
  by_cases hid:id∈all
  ·obtain ⟨j,hj,rfl⟩:=List.getElem_of_mem hid
   have e:=getD_get (List.getElem?_eq_getElem hj)
   have hj2:j<St2.length:=by omega
   have hS2:=List.getElem?_eq_getElem hj2
   have:=get_in j _ hS2
   rw[e,h]at this
   by_cases hc:(St2[j]).cst=true
   ·have hca:=cst_in j _ hS2 hc
    obtain ⟨vs,v1,⟨vs',v2⟩,v3,v4⟩:=keptC j _ hS2 hca hc
    rw[e]at hca v1 v3 v4
    have hrc:(Obj.ren all vers (vers.getD j 0) St2[j]).cst=true:=by rw[v2];rfl
    rw[if_pos (by rw[hca,hrc];rfl),v1]at this
    obtain rfl:=Option.some.inj this
    have hb:=(Pl.back_in (pl:=pl) (pl2:=pl2) hnd hj).1
    rw[e]at hb
    exact .inr ⟨.inl v4,v1,hb.trans v3, .inr ⟨j,_,vs,hj,e.symm,hS2,by rw[v2];rfl,v3,rfl⟩⟩
   ·have hrc:(Obj.ren all vers (vers.getD j 0) St2[j]).cst=false:=by
     cases hq:(Obj.ren all vers (vers.getD j 0) St2[j]).cst with
     |false=>rfl
     |true=>obtain ⟨vs,q⟩:=ren_cst _ _ hq;rw[q]at hc;exact absurd rfl hc
    rw[if_neg (by rw[hrc];simp)]at this
    obtain rfl:=Option.some.inj this
    exact .inl ⟨j,St2[j],hj,e.symm,hS2,rfl,hrc⟩
  ·rw[get_out id hid]at h
   obtain ⟨b1,b2⟩:=Pl.back_out (pl:=pl) (pl2:=pl2) hid
   refine .inr ⟨?_,h,b1, .inl ⟨hid,b2⟩⟩
   by_cases hh:o.has=true
   ·refine .inl fun hq=> ?_
    obtain ⟨i,hi,o1,h1,h2,h3,h4⟩:=hown _ hq
    have:=hs.inj i id o1 o h1 h h2 hh h4
    subst this
    exact hid (by rw[hall];exact List.mem_append_left _ hi)
   ·exact .inr (by simpa using hh)
 have hback:Back all vers pl2 St2 (pl.back pl2 all) St3:=by
  intro j o' ho'
  have hj:j<all.length:=by have:=(List.getElem?_eq_some_iff.1 ho').1;omega
  have hg:=get_in j o' ho'
  by_cases hc:(cstAt St (all.getD j 0)&&(Obj.ren all vers (vers.getD j 0) o').cst)=true
  ·rw[if_pos hc]at hg
   simp only[Bool.and_eq_true]at hc
   obtain ⟨vs',q⟩:=ren_cst _ _ hc.2
   obtain ⟨vs,v1,_⟩:=keptC j o' ho' hc.1 (by rw[q];rfl)
   exact ⟨_,hg.trans v1, .inr ⟨⟨vs,rfl⟩,vs',q⟩,Pl.back_in hnd hj⟩
  ·rw[if_neg hc]at hg
   exact ⟨_,hg, .inl rfl,Pl.back_in hnd hj⟩
 have hownS:∀b,Owns (pl.sub ids) St' b→Owns pl St b:=fun b h=>by
  obtain ⟨i,_,o,h1,h2,h3⟩:=hown b h
  exact ⟨i,o,h1,h2,h3⟩
 have hgrow:Grow (Owns pl St) S w S2 w':=⟨hg.os,hg.tape,hg.output,hg.size,fun b hb hn=>hg.block b hb (fun h=>hn (hownS b h)),hg.mono,fun b off hb hn=>hg.new b off hb (fun h=>hn (hownS b h))⟩
 have kept:Keeps pl St (pl.back pl2 all) St3:=by
  intro id o h hf
  by_cases hid:id∈all
  ·obtain ⟨j,hj,e⟩:=List.getElem_of_mem hid
   have hid2:id∈ids:=by
    rw[hall]at hid
    rcases List.mem_append.1 hid with q |q
    ·exact q
    ·exact absurd (Option.some.inj ((hfresh id q).symm.trans h)).symm hf
   have hj2:j<ids.length:=by
    rcases Nat.lt_or_ge j ids.length with q |q
    ·exact q
    ·exfalso
     have hni:id∈new:=by
      have:all[j]? =some id:=by rw[List.getElem?_eq_getElem hj,e]
      rw[hall,List.getElem?_append_right q]at this
      exact List.mem_of_getElem? this
     exact absurd (Option.some.inj ((hfresh id hni).symm.trans h)).symm hf
   have ei:ids.getD j 0=id:=by
    have h1:all[j]? =some id:=by rw[List.getElem?_eq_getElem hj,e]
    rw[hall,List.getElem?_append_left hj2]at h1
    exact getD_get h1
   have ea:all.getD j 0=id:=getD_get (by rw[List.getElem?_eq_getElem hj,e])
   have hj3:j<St'.length:=by omega
   have hj4:j<St2.length:=by omega
   have hSt'j:St'[j]? =some St'[j]:=List.getElem?_eq_getElem hj3
   have hSt2j:St2[j]? =some St2[j]:=List.getElem?_eq_getElem hj4
   generalize ho1:St'[j]=o1 at hSt'j
   generalize ho2:St2[j]=o2 at hSt2j
   obtain ⟨o0,d1,d2,d3⟩:=hdown j o1 hSt'j
   rw[ei,h]at d1;obtain rfl:=Option.some.inj d1
   have hs1:∃s,en[j]? =some s∧OfSh s o1:=unOs_sh en r j o1 (by rw[←hSt'];exact hSt'j)
   have hs2':∃s,ex[j]? =some s∧OfSh s o2:=unOs_sh ex r2 j o2 (by rw[←hSt2];exact hSt2j)
   obtain ⟨s1,k1,k2⟩:=hs1
   obtain ⟨s2,k3,k4⟩:=hs2'
   obtain ⟨_,q1,q2,q3,q4,q5⟩:=kindB_get hkind k1 k3
   have hver:vers.getD j 0=verOf St id:=by
    rw[hvers]
    simp[List.getD_eq_getElem?_getD,List.getElem?_map,List.getElem?_eq_getElem hj,e]
   obtain ⟨b1,b2⟩:=Pl.back_in (pl:=pl) (pl2:=pl2) hnd hj
   rw[ea]at b1 b2
   have hg3:=get_in j o2 hSt2j
   rw[ea]at hg3
   have hsb:(pl.sub ids).blk j=pl.blk id:=by show pl.blk (ids.getD j 0)=_;rw[ei]
   by_cases hcc:(cstAt St id&&(Obj.ren all vers (vers.getD j 0) o2).cst)=true
   ·rw[if_pos hcc]at hg3
    simp only[Bool.and_eq_true]at hcc
    obtain ⟨vs',q⟩:=ren_cst _ _ hcc.2
    obtain ⟨vs,v1,_,v3,_⟩:=keptC j o2 hSt2j (by rw[ea];exact hcc.1) (by rw[q];rfl)
    rw[ea]at v1 v3
    rw[h]at v1;obtain rfl:=Option.some.inj v1
    exact ⟨_,hg3.trans h,hf,fun l row e=>(by cases e),fun c vs e=>⟨⟨_,_,rfl⟩,b1.trans v3⟩,fun v l' c e=>(by cases e),fun _ _ _ _ e=>(by cases e),fun _ _ _ e=>(by cases e),fun _ _ _ _ e=>(by cases e)⟩
   rw[if_neg hcc]at hg3
   refine ⟨_,hg3,ren_ne_fresh _ _ _ _,fun l row e=> ?_,fun c vs e=> ?_,fun v l c e=> ?_,fun v e l c q=> ?_,fun kl vl es e=> ?_,fun l c i av e=> ?_⟩
   ·have e:=ren_var e
    subst e
    cases s2 with
    |var l2=>
     obtain ⟨l0,rfl⟩:=q1 _ rfl
     obtain ⟨row0,rfl⟩:=k2
     obtain ⟨l9,row9,rfl⟩:=d2.2.1 _ _ rfl
     exact ⟨⟨_,_,rfl⟩,by rw[b1,hblk j _ _ hSt'j hSt2j (.inl ⟨_,_,rfl⟩),hsb]⟩
    |cells c vs=>cases vs with
     |nil=>cases k4
     |cons _ _=>obtain ⟨_,q⟩:=k4;cases q
    |arr l=>obtain ⟨_,q⟩:=k4;cases q
    |map kl vl=>obtain ⟨_,q⟩:=k4;cases q
    |sarr e l=>obtain ⟨_,q⟩:=k4;cases q
    |hol l s=>obtain ⟨_,_,_,q⟩:=k4;cases q
   ·obtain ⟨vs0,e,_⟩:=ren_cells e
    subst e
    cases s2 with
    |cells c2 vs2=>cases vs2 with
     |nil=>cases k4
     |cons v2 vs2=>
      obtain ⟨c0,v1,vs1,rfl⟩:=q2 _ _ _ rfl
      obtain ⟨vs9,rfl⟩:=k2
      obtain ⟨l9,row9,rfl⟩:=d2.2.2.1 _ _ rfl
      exact ⟨⟨_,_,rfl⟩,by rw[b1,hblk j _ _ hSt'j hSt2j (.inr (.inl ⟨_,_,rfl⟩)),hsb]⟩
    |var l=>obtain ⟨_,q⟩:=k4;cases q
    |arr l=>obtain ⟨_,q⟩:=k4;cases q
    |map kl vl=>obtain ⟨_,q⟩:=k4;cases q
    |sarr e l=>obtain ⟨_,q⟩:=k4;cases q
    |hol l s=>obtain ⟨_,_,_,q⟩:=k4;cases q
   ·obtain ⟨eq1,eq2⟩:=ren_arr e
    subst eq1;subst eq2
    cases s2 with
    |arr l2=>
     have:=q3 _ rfl
     subst this
     obtain ⟨c0,q⟩:=k4
     simp only[Obj.arr.injEq,true_and]at q
     obtain ⟨rfl,rfl⟩:=q
     obtain ⟨c1,rfl⟩:=k2
     obtain ⟨_,v0,rfl⟩:=d2.2.2.2.1 _ _ _ rfl
     rw[hver]
     simp only[verOf,h]
     exact ⟨v0,_,rfl,Nat.le_succ _,fun q=>by omega⟩
    |cells c vs=>cases vs with
     |nil=>cases k4
     |cons _ _=>obtain ⟨_,q⟩:=k4;cases q
    |var l=>obtain ⟨_,q⟩:=k4;cases q
    |map kl vl=>obtain ⟨_,q⟩:=k4;cases q
    |sarr e l=>obtain ⟨_,q⟩:=k4;cases q
    |hol l s=>obtain ⟨_,_,_,q⟩:=k4;cases q
   ·obtain ⟨eq1,eq2⟩:=ren_sarr q
    subst eq1;subst eq2
    cases s2 with
    |sarr e2 l2=>
     have:=q5.1 _ _ rfl
     subst this
     obtain ⟨c0,q⟩:=k4
     simp only[Obj.sarr.injEq,true_and]at q
     obtain ⟨rfl,rfl,rfl⟩:=q
     obtain ⟨c1,rfl⟩:=k2
     obtain ⟨_,v0,rfl⟩:=d2.2.2.2.2.2.1 _ _ _ _ rfl
     rw[hver]
     simp only[verOf,h]
     exact ⟨v0,_,rfl,Nat.le_succ _,fun q=>by omega⟩
    |cells c vs=>cases vs with
     |nil=>cases k4
     |cons _ _=>obtain ⟨_,q⟩:=k4;cases q
    |var l=>obtain ⟨_,q⟩:=k4;cases q
    |map kl vl=>obtain ⟨_,q⟩:=k4;cases q
    |arr l=>obtain ⟨_,q⟩:=k4;cases q
    |hol l s=>obtain ⟨_,_,_,q⟩:=k4;cases q
   ·have e:=ren_map e
    subst e
    cases s2 with
    |map kl2 vl2=>
     obtain ⟨kl0,vl0,rfl⟩:=q4 _ _ rfl
     obtain ⟨es0,rfl⟩:=k2
     obtain ⟨kl9,vl9,es9,rfl⟩:=d2.2.2.2.2.1 _ _ _ rfl
     exact ⟨⟨_,_,_,rfl⟩,by rw[b1,hblk j _ _ hSt'j hSt2j (.inr (.inr ⟨_,_,_,rfl⟩)),hsb]⟩
    |cells c vs=>cases vs with
     |nil=>cases k4
     |cons _ _=>obtain ⟨_,q⟩:=k4;cases q
    |var l=>obtain ⟨_,q⟩:=k4;cases q
    |arr l=>obtain ⟨_,q⟩:=k4;cases q
    |sarr e l=>obtain ⟨_,q⟩:=k4;cases q
    |hol l s=>obtain ⟨_,_,_,q⟩:=k4;cases q
   ·obtain ⟨av0,e⟩:=ren_hol e
    subst e
    obtain ⟨c0,i0,av1,rfl,n1,r1⟩:=hholk j o1 l c i av0 hSt'j hSt2j
    obtain ⟨av2,rfl⟩:=d2.2.2.2.2.2.2.1 _ _ _ _ rfl
    have hsc:(pl.sub ids).cap j=pl.cap id:=by show pl.cap (ids.getD j 0)=_;rw[ei]
    exact ⟨c0,i0,av2,rfl,n1,fun rows hq=>let ⟨rows0,x1,x2,x3,x4⟩:=r1 rows hq;⟨rows0,x1,x2,b1.trans (x3.trans hsb),b2.trans (x4.trans hsc)⟩⟩
  ·obtain ⟨b1,b2⟩:=Pl.back_out (pl:=pl) (pl2:=pl2) hid
   exact ⟨o,by rw[get_out id hid];exact h,hf,Keeps.same b1 b2⟩
 have out_not:∀{id:Nat} {o:Obj},(¬Owns (pl.sub ids) St' (pl.blk id)∨o.has=false)→o.has=true→¬Owns (pl.sub ids) St' (pl.blk id):=fun h hh=>h.resolve_right (by rw[hh];simp)
 refine ⟨⟨hs2.stab,fun id o h=> ?_,fun id o h hh off hoff=> ?_,fun i j o o' hi hj h1 h2 hbb=> ?_,hs2.glob,fun g t l row e=>⟨(hs2.glo g t l row e).1,fun id o h hh=> ?_⟩⟩,hgrow,hback,kept,fun b hb=> ?_⟩
 ·rcases split id o h with ⟨j,o',hj,rfl,h2,rfl,_⟩|⟨hno,h2,b1,hq⟩
  ·obtain ⟨b1,b2⟩:=Pl.back_in (pl:=pl) (pl2:=pl2) hnd hj
   exact (hs2.objs j o' h2).back hback b1 b2
  ·rcases hq with ⟨hid,b2⟩|⟨j,o',vs,_,_,_,_,_,rfl⟩
   ·exact (hs.objs id o h2).keep kept hg.mono b1 b2 (fun hh=>hg.block _ (hs.blk_lt h2 hh) (out_not hno hh))
   ·obtain ⟨cur,e,z1,z2,z3,z4⟩:=hs.objs id _ h2
    exact ⟨cur,e,by rw[b1,hg.block _ (hs.blk_lt h2 rfl) (out_not hno rfl)];exact z1,z2,fun i av hi=>(z3 i av hi).keep kept hg.mono,z4⟩
 ·rcases split id o h with ⟨j,o',hj,rfl,h2,rfl,_⟩|⟨hno,h2,b1,_⟩
  ·obtain ⟨b1,b2⟩:=Pl.back_in (pl:=pl) (pl2:=pl2) hnd hj
   obtain ⟨g1,g2⟩:=ren_has hh
   rw[b1];exact hs2.apart j o' h2 g1 off (by rw[←g2];exact hoff)
  ·rw[b1,hg.new _ _ (hs.blk_lt h2 hh) (out_not hno hh)]
   exact hs.apart id o h2 hh off hoff
 ·have mixed:∀(j id:Nat) (o' o:Obj),j<all.length→St2[j]? =some o'→o'.has=true→o'.cst=false→(¬Owns (pl.sub ids) St' (pl.blk id)∨o.has=false)→St[id]? =some o→o.has=true→pl2.blk j=pl.blk id→False:=by
   intro j id o' o hj h2 hh hc hno h hh2 hb
   rcases hy (pl2.blk j) ⟨j,o',h2,hh,hc,rfl⟩with q |q
   ·rw[hb]at q;exact out_not hno hh2 q
   ·have:=hs.blk_lt h hh2;omega
  rcases split i o hi with ⟨k,o1,hk,rfl,g1,rfl,gc⟩|⟨hno,g1,b1,_⟩
  ·obtain ⟨b1,_⟩:=Pl.back_in (pl:=pl) (pl2:=pl2) hnd hk
   rcases split j o' hj with ⟨k',o1',hk',rfl,g1',rfl,gc'⟩|⟨hno',g1',b1',_⟩
   ·obtain ⟨b1',_⟩:=Pl.back_in (pl:=pl) (pl2:=pl2) hnd hk'
    rw[b1,b1']at hbb
    rw[hs2.inj k k' o1 o1' g1 g1' (ren_has h1).1 (ren_has h2).1 hbb]
   ·rw[b1,b1']at hbb
    exact (mixed k j o1 o' hk g1 (ren_has h1).1 (ren_cst' _ _ gc) hno' g1' h2 hbb).elim
  ·rcases split j o' hj with ⟨k',o1',hk',rfl,g1',rfl,gc'⟩|⟨hno',g1',b1',_⟩
   ·obtain ⟨b1',_⟩:=Pl.back_in (pl:=pl) (pl2:=pl2) hnd hk'
    rw[b1,b1']at hbb
    exact (mixed k' i o1' o hk' g1' (ren_has h2).1 (ren_cst' _ _ gc') hno g1 h1 hbb.symm).elim
   ·rw[b1,b1']at hbb
    exact hs.inj i j o o' g1 g1' h1 h2 hbb
 ·rcases split id o h with ⟨j,o',hj,rfl,h2,rfl,_⟩|⟨hno,h2,b1,_⟩
  ·obtain ⟨b1,_⟩:=Pl.back_in (pl:=pl) (pl2:=pl2) hnd hj
   rw[b1];exact (hs2.glo g t l row e).2 j o' h2 (ren_has hh).1
  ·rw[b1];exact (hs.glo g t l row e).2 id o h2 hh
 ·obtain ⟨id,o,h,hh,hc,hbb⟩:=hb
  rcases split id o h with ⟨j,o',hj,rfl,h2,rfl,_⟩|⟨hno,h2,b1,_⟩
  ·obtain ⟨b1,_⟩:=Pl.back_in (pl:=pl) (pl2:=pl2) hnd hj
   rw[b1]at hbb
   rcases hy b ⟨j,o',h2,(ren_has hh).1,ren_cst' _ _ hc,hbb⟩with q |q
   ·exact .inl (hownS b q)
   ·exact .inr q
  ·rw[b1]at hbb
   exact .inl ⟨id,o,h2,hh,hc,hbb⟩
theorem opds_sound (hs:Sim P T S pl St w) (hF:RelF P T S pl St F a.tmps):∀(xs:List Operand) (axs:List Opd),opdsOk P T xs axs=true→xs.length=axs.length∧∀i av,(axs.map (·.ev F))[i]? =some av→RelV P T S pl St av ((xs.map a.eval).getD i undef)
 |[],[],_=>⟨rfl,fun i av h=>by simp at h⟩
 |[],_::_,h=>by simp[opdsOk]at h
 |_::_,[],h=>by simp[opdsOk]at h
 |x::xs,ax::axs,h=>by
  simp only[opdsOk,Bool.and_eq_true]at h
  obtain ⟨h1,h2⟩:=opds_sound hs hF xs axs h.2
  refine ⟨by simp[h1],fun i av hi=> ?_⟩
  cases i with
  |zero=>simp at hi;subst hi;simpa using opd_sound hs h.1 hF
  |succ i=>simpa using h2 i av (by simpa using hi)
theorem list_of_get (l:List Value) (n:Nat) (h:l.length=n):(List.range n).map (fun i=>l.getD i undef)=l:=by
 apply List.ext_getElem?
 intro i
 by_cases hi:i<l.length
 ·simp[←h,hi]
 ·simp[←h,hi]
theorem callee_sound {A:Type} {o:Oper} {x:Operand} {xs:Array Operand} {ts:Array TypeId} {f:Nat} {ax:Option Opd} {axs:List Opd} {k:List AV→Option A} {res:A} (hs:Sim P T S pl St w) (hF:RelF P T S pl St F a.tmps)
 (ho:o.op= .call {callee:= .value x,args:=xs,argTypes:=ts}) (hxs:opdsOk P T xs.toList axs=true)
 (hx:calleeB P T x f ax=true) (h:calleeOf F f ax axs k=some res):
 ∃(vs:List AV) (vals:Nat→Value),k vs=some res∧(∀j u,vs[j]? =some u→RelV P T S pl St u (vals j))∧
  (execOp a.eval o).run P w=(callFunc f ((List.range vs.length).map vals).toArray).run P w:=by
 obtain ⟨hl,hv⟩:=opds_sound hs hF _ _ hxs
 have e0:(List.map a.eval xs.toList).toArray=Array.map a.eval xs:=by apply Array.ext';simp
 unfold calleeOf at h
 split at h
 ·refine ⟨_,fun i=>(xs.toList.map a.eval).getD i undef,h,hv, ?_⟩
  simp only[calleeB]at hx
  unfold isFnB at hx
  split at hx
  ·rename_i f' ho
   obtain rfl:=Nat.eq_of_beq_eq_true hx
   have e:((List.range (axs.map (·.ev F)).length).map fun i=>(xs.toList.map a.eval).getD i undef)=xs.toList.map a.eval:=list_of_get _ _ (by simpa using hl)
   rw[e,e0]
   unfold execOp
   simp[ho,resolve,Deferred.ofValue,invoke,Act.eval]
  ·simp at hx
 ·rename_i ay
  split at h
  ·rename_i f' caps ey
   obtain ⟨hb,hk⟩:=check_some h
   obtain rfl:=Nat.eq_of_beq_eq_true hb
   simp only[calleeB]at hx
   have hvx:=opd_sound hs hx hF
   rw[ey]at hvx
   generalize hq:a.eval x=q at hvx
   cases hvx with
   |fn cv hcv=>
    refine ⟨_,fun i=>if i<axs.length then (xs.toList.map a.eval).getD i undef else cv (i - axs.length),hk,fun j u hj=> ?_, ?_⟩
    ·by_cases hjl:j<axs.length
     ·rw[List.getElem?_append_left (by simpa using hjl)]at hj
      simp only[if_pos hjl];exact hv j u hj
     ·rw[List.getElem?_append_right (by simp;omega)]at hj
      simp only[if_neg hjl]
      simpa using hcv _ u hj
    ·have e:((List.range (axs.map (·.ev F)++caps).length).map fun i=>if i<axs.length then (xs.toList.map a.eval).getD i undef else cv (i - axs.length))=xs.toList.map a.eval++(List.range caps.length).map cv:=by
      apply List.ext_getElem?
      intro i
      by_cases h1:i<axs.length
      ·rw[List.getElem?_append_left (by simp at hl;simp;omega)]
       have h2:i<xs.size:=by simp at hl;omega
       have h3:i<axs.length+caps.length:=by omega
       simp[h1,h2,h3]
      ·rw[List.getElem?_append_right (by simp at hl;simp;omega)]
       have h4:xs.size=axs.length:=by simpa using hl
       by_cases h2:i<axs.length+caps.length
       ·have h5:i - axs.length<caps.length:=by omega
        simp[h1,h2,h4,h5]
       ·have h5:¬i - axs.length<caps.length:=by omega
        simp[h1,h2,h4,h5]
     rw[e]
     unfold execOp
     simp[ho,resolve,Deferred.ofValue,invoke,hq]
     congr 2
     apply Array.ext'
     simp
  ·simp at h
theorem tupV_rel {avs:List AV} {vs:List Value} (hl:vs.length=avs.length) (h:∀i av,avs[i]? =some av→RelV P T S pl St av (vs.getD i Go.undef)):RelV P T S pl St (tupV avs) (retV vs):=by
 have tup:RelV P T S pl St (.tup avs) (.tuple vs.toArray):=by
  have:=RelV.tup (P:=P) (T:=T) (S:=S) (pl:=pl) (St:=St) (avs:=avs) (fun i=>vs.getD i Go.undef) h
  rw[list_of_get vs avs.length hl]at this;exact this
 match avs,vs,hl with
 |[v],[u],_=>simpa[tupV,retV]using h 0 v rfl
 |[],[],_=>exact tup
 |_::_::_,_::_::_,_=>exact tup
theorem s_icall {o:Oper} {base i f new:Nat} {en ex:Shape} {ids:List Nat} {ax:Option Opd} {axs:List Opd} {av:AV} {us:List (Nat×Obj)} {rd:List Nat} (hs:Sim P T S pl St w) (hF:RelF P T S pl St F a.tmps) (hic:IcOk P T E.ic)
 (hok:okOp P T o.op (.icall i f en ex ids new ax axs)=true)
 (h:opK E F St (.icall i f en ex ids new ax axs) base (fun v us rd=>some (v,us,rd))=some (av,us,rd)):Done P o a w (OpPost P T S pl St w (updAll us St) av):=by
 simp only[okOp]at hok
 split at hok
 ·rename_i x xs ts ho
  simp only[Bool.and_eq_true]at hok
  obtain ⟨⟨hT,hxs⟩,hx⟩:=hok
  split at hT
  ·rename_i af hTi
   simp only[Bool.and_eq_true]at hT
   obtain rfl:=Nat.eq_of_beq_eq_true hT.1.1
   obtain rfl:=Shape.beq_eq hT.1.2
   obtain rfl:=Shape.beq_eq hT.2
   simp only[opK]at h
   obtain ⟨vs,vals,h1,hv,hrun⟩:=callee_sound hs hF ho hxs hx h
   obtain ⟨hck,h2⟩:=check_some h1
   simp only[Bool.and_eq_true]at hck
   obtain ⟨⟨⟨⟨⟨c1,c2⟩,c3⟩,c4⟩,c5⟩,c6⟩:=hck
   obtain ⟨ps,hp,h3⟩:=Option.bind_eq_some_iff.1 h2
   obtain ⟨ps',hc,h4⟩:=Option.bind_eq_some_iff.1 h3
   have hle:ids.length≤af.exit.objs.length:=by simpa using c5
   have hnd:=nodupB_sound c4
   have hnd1:ids.Nodup:=(List.nodup_append.1 hnd).1
   obtain ⟨avs,r,St',g1,g2,g3,g4,g5,g6,g7,g8,g9,g10⟩:=packI_in hs hnd1 c1 hv hp
   obtain ⟨e1,e2⟩:=hic i af hTi ps ps' hc S (pl.sub ids) St' w avs r vals g1 g2 g7 g8
   intro next Q hn
   unfold Oper.wp
   rw[hrun,←g3,e1,Oper.upon_enter]
   refine e2.mono fun e w' he=> ?_
   obtain ⟨S2,pl2,St2,avs2,r2,out,k1,k2,rfl,k4,k5,k6,k7,k8,k9⟩:=he
   rw[k1]at h4
   simp only[Option.some.injEq,Prod.mk.injEq]at h4
   obtain ⟨rfl,rfl,rfl⟩:=h4
   rw[←k2]at hn
   have hlen2:St2.length=(ids++numsFrom (base+new) (af.exit.objs.length - ids.length)).length:=by
    rw[k2,unOs_length,List.length_append,numsFrom_length];omega
   obtain ⟨p1,p2,p3,p4,p5⟩:=icall_post (ids:=ids) (new:=numsFrom (base+new) (af.exit.objs.length - ids.length)) (all:=ids++numsFrom (base+new) (af.exit.objs.length - ids.length)) hs g7 g2 k2 k5 rfl (freshAt_sound c3) hnd hlen2 g4 c6 rfl g10 k6 g9 k8 k9.1 k9.2 rfl
   refine hn _ _ ⟨S2,_,p1,p2, ?_,fun _ _ hq=>hq.keep p4 p2.mono,p5⟩
   refine tupV_rel (by rw[rens_length];exact k4) (fun j u hj=> ?_)
   rw[rens_get]at hj
   obtain ⟨u0,hu0,rfl⟩:=Option.map_eq_some_iff.1 hj
   exact (k7 j u0 hu0).back p3
  ·simp at hT
 ·simp at hok
end Go.Ev
