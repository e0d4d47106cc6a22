/-
  Calls to which objects are handed: what comes in, renumbered.
-/
import Derived.Test.YtfonaepdedbhhaaGreatDoorEvMm
set_option linter.all false
set_option maxRecDepth 100000
namespace Go.Ev
variable {E:Env} {P:Program} {T:Nat→gG} {S S':fB} {pl jE:Pl} {St eD:Ev.St} {F F':Fr} {a:Act} {w w' w0:World}
def aKt (o o':Obj):Prop:=
 o'≠ .fresh∧(∀l row,o'= .var l row→∃l0 aYY,o= .var l0 aYY)∧(∀c vs,o'= .cells c vs→∃c0 vs0,o= .cells c0 vs0)∧
 (∀v l c,o'= .arr v l c→v=0∧∃v0,o= .arr v0 l c)∧(∀kl vl es,o'= .map kl vl es→∃kl0 vl0 es0,o= .map kl0 vl0 es0)∧
 (∀v e l c,o'= .uA v e l c→v=0∧∃v0,o= .uA v0 e l c)∧
 (∀l c i av,o'= .dF l c i av→∃av0,o= .dF l c i av0)∧
 (∀c vs c0 vs0,o'= .cells c vs→o= .cells c0 vs0→c0=c)
theorem aKt.cst {o o':Obj} (h:aKt o o') (hh:o'.has=true):o.cst=o'.cst:=by
 obtain ⟨h0,h1,h2,h3,h4,h5,h6,h7⟩:=h
 cases o' with
 |fresh=>simp[Obj.has]at hh
 |dead=>simp[Obj.has]at hh
 |var l row=>obtain ⟨_,_,rfl⟩:=h1 _ _ rfl;rfl
 |cells c vs=>
  obtain ⟨c0,_,rfl⟩:=h2 _ _ rfl
  rw[h7 _ _ _ _ rfl rfl]
  cases c<;>rfl
 |arr v l c=>obtain ⟨_,_,rfl⟩:=h3 _ _ _ rfl;rfl
 |map a b c=>obtain ⟨_,_,_,rfl⟩:=h4 _ _ _ rfl;rfl
 |uA v e l c=>obtain ⟨_,_,rfl⟩:=h5 _ _ _ _ rfl;rfl
 |dF l rows i av=>obtain ⟨_,rfl⟩:=h6 _ _ _ _ rfl;rfl
theorem aKt.sn {o o':Obj} (h:aKt o o') (hh:o'.has=true):o.sn=o'.sn:=by
 obtain ⟨h0,h1,h2,h3,h4,h5,h6,h7⟩:=h
 cases o' with
 |fresh=>simp[Obj.has]at hh
 |dead=>simp[Obj.has]at hh
 |var l row=>obtain ⟨_,_,rfl⟩:=h1 _ _ rfl;rfl
 |cells c vs=>obtain ⟨_,_,rfl⟩:=h2 _ _ rfl;rfl
 |arr v l c=>obtain ⟨_,_,rfl⟩:=h3 _ _ _ rfl;rfl
 |map a b c=>obtain ⟨_,_,_,rfl⟩:=h4 _ _ _ rfl;rfl
 |uA v e l c=>obtain ⟨_,_,rfl⟩:=h5 _ _ _ _ rfl;rfl
 |dF l rows i av=>obtain ⟨_,rfl⟩:=h6 _ _ _ _ rfl;rfl
def Ren (ids:List Nat) (pl:Pl) (St:Ev.St) (jE:Pl) (eD:Ev.St):Prop:=
 (∀j:Nat,j<ids.length→∃o':Obj,eD[j]? =some o')∧
 (∀(j:Nat) (o':Obj),eD[j]? =some o'→∃o:Obj,St[ids.getD j 0]? =some o∧aKt o o'∧jE.blk j=pl.blk (ids.getD j 0)∧jE.cap j=pl.cap (ids.getD j 0))
theorem Ren.get {ids:List Nat} {j:Nat} {o:Obj} (hd:Ren ids pl St jE eD) (hlt:j<ids.length) (ho:St[ids.getD j 0]? =some o):∃o',eD[j]? =some o'∧aKt o o'∧jE.blk j=pl.blk (ids.getD j 0)∧jE.cap j=pl.cap (ids.getD j 0):=by
 obtain ⟨o',h⟩:=hd.1 j hlt
 obtain ⟨o2,h2,h3⟩:=hd.2 j o' h
 rw[ho]at h2;obtain rfl:=Option.some.inj h2
 exact ⟨o',h,h3⟩
def InV (P:Program) (T:Nat→gG) (S:fB) (ids:List Nat) (pl:Pl) (St:Ev.St) (s:Sh) (v:AV) (ps:List PV):Prop:=
 ∃v',(∀rest,unV s (ps++rest)=(v',rest))∧∀jE eD val,Ren ids pl St jE eD→eB P T S pl St v val→eB P T S jE eD v' val
def a8K (P:Program) (T:Nat→gG) (S:fB) (ids:List Nat) (pl:Pl) (St:Ev.St) (ss:List Sh) (vs:List AV) (ps:List PV):Prop:=
 ∃vs',vs'.length=vs.length∧(∀rest,aIX ss (ps++rest)=(vs',rest))∧∀jE eD (vals:Nat→Value),Ren ids pl St jE eD→(∀i av,vs[i]? =some av→eB P T S pl St av (vals i))→∀i av,vs'[i]? =some av→eB P T S jE eD av (vals i)
mutual
theorem aTY (hs:kW P T S pl St w) {ids:List Nat} {m:Nat} {co:Bool}:∀(s:Sh) (v:AV) (ps:List PV),Sh.under ids.length s=true→kF St m co (Sh.lE ids s) v=some ps→InV P T S ids pl St s v ps
 | .d l,v,ps,hu,h=>by
   have key:∀row,(∀val,eB P T S pl St v val→eB P T S pl St (.d l row) val)→InV P T S ids pl St (.d l) v [.r (nrm l row)]:=by
    intro row hr
    refine ⟨.d l (nrm l (nrm l row)),fun rest=>rfl,fun jE eD val _ hv=> ?_⟩
    have:=(hr val hv).aA3
    rw[this.nrm,this.nrm];exact .d this
   cases v with
   |d l' row=>
    simp only[Sh.lE,kF]at h
    split at h
    ·rename_i hb
     obtain rfl:=L.beq_eq hb
     simp only[Option.some.injEq]at h
     subst h
     exact key row fun val hv=>hv
    ·simp at h
   |sw i' u=>
    simp only[Sh.lE,kF]at h
    split at h
    ·rename_i l' row e
     split at h
     ·rename_i hb
      obtain rfl:=L.beq_eq hb
      simp only[Option.some.injEq]at h
      subst h
      exact key row fun val hv=>by rw[←e];exact aEG hs _ _ hv
     ·simp at h
    ·simp at h
   |agg vs=>
    simp only[Sh.lE,kF]at h
    split at h
    ·rename_i l' row e
     split at h
     ·rename_i hb
      obtain rfl:=L.beq_eq hb
      simp only[Option.some.injEq]at h
      subst h
      exact key row fun val hv=>by rw[←e];exact aEG hs _ _ hv
     ·simp at h
    ·simp at h
   |_=>simp[Sh.lE,kF]at h
 | .sw i,v,ps,hu,h=>by
   have hlt:i<ids.length:=by simpa[Sh.under]using hu
   cases v with
   |sw i' v=>
    simp only[Sh.lE,kF]at h
    split at h
    ·rename_i v' e0 l0 c0 kB
     split at h
     ·rename_i hb
      simp only[Bool.and_eq_true]at hb
      obtain rfl:=Nat.eq_of_beq_eq_true hb.1.1
      obtain rfl:=Nat.eq_of_beq_eq_true hb.1.2
      simp only[Option.some.injEq]at h
      subst h
      refine ⟨.sw i 0,fun rest=>rfl,fun jE eD val hd hv=> ?_⟩
      cases hv with
      |sw h0 h1 h2 aYZ h3 h4=>
       rw[kB]at h1;obtain rfl:=Option.some.inj h1
       obtain ⟨o',g1,⟨g2,g3,g4,g5,g6,g7⟩,b1,b2⟩:=hd.get hlt kB
       refine .sw h0 g1 g2 (fun v1 e l c q=>Nat.zero_le _) (fun e l q=> ?_) (fun e l rows q=> ?_)
       ·obtain ⟨_,v1,q⟩:=g7.1 _ _ _ _ q;cases q;exact h3 _ _ rfl
       ·obtain ⟨_,v1,q⟩:=g7.1 _ _ _ _ q;cases q;rw[b1,b2];exact h4 _ _ _ rfl
     ·simp at h
    ·simp at h
   |_=>simp[Sh.lE,kF]at h
 | .agg ss,v,ps,hu,h=>by
   cases v with
   |agg vs=>
    simp only[Sh.lE,kF]at h
    obtain ⟨vs',h1,h2,h3⟩:=aEI hs ss vs ps (by simpa[Sh.under]using hu) h
    refine ⟨.agg vs',fun rest=>by simp[unV,h2 rest],fun jE eD val hd hv=> ?_⟩
    cases hv with
    |agg vals h0 aY0=>
     have:=eB.agg (P:=P) (T:=T) (S:=S) (pl:=jE) (St:=eD) vals (fun i hi=>h0 i (by omega)) (h3 jE eD vals hd aY0)
     rw[h1]at this;exact this
   |d l row=>
    simp only[Sh.lE,kF]at h
    cases hp:qW St m co (Sh.dZ ids ss) (cellsOf l.ks row 0)with
    |none=>rw[hp]at h;simp at h
    |some ps'=>
    rw[hp]at h
    cases l with
    |one k=>simp at h
    |agg ks=>
     simp only[Option.some.injEq]at h
     subst h
     obtain ⟨vs',h1,h2,h3⟩:=aEI hs ss (cellsOf (L.agg ks).ks row 0) ps' (by simpa[Sh.under]using hu) hp
     refine ⟨.agg vs',fun rest=>by simp[unV,h2 rest],fun jE eD val hd hv=> ?_⟩
     obtain ⟨c1,c2,c3⟩:=hv.aA0 (vs:=cellsOf (L.agg ks).ks row 0) rfl
     obtain ⟨cs,rfl,_⟩:=hv.aA3
     exact .aPA (by rw[h1];exact c1) c3 (h3 jE eD _ hd c2)
   |_=>simp[Sh.lE,kF]at h
 | .ptr i off,v,ps,hu,h=>by
   have hlt:i<ids.length:=by simpa[Sh.under]using hu
   cases v with
   |ptr i' o'=>
    simp only[Sh.lE,kF]at h
    split at h
    ·rename_i hb
     simp only[Bool.and_eq_true]at hb
     obtain rfl:=Nat.eq_of_beq_eq_true hb.1.1
     obtain rfl:=Nat.eq_of_beq_eq_true hb.1.2
     simp only[Option.some.injEq]at h
     subst h
     refine ⟨.ptr i off,fun rest=>rfl,fun jE eD val hd hv=> ?_⟩
     cases hv with
     |ptr h0 h1 h2 h3 h4=>
      obtain ⟨o',g1,⟨g2,g3,g4,g5,g6,g7⟩,b1,b2⟩:=hd.get hlt h1
      refine .ptr h0 g1 g2 (fun l row e=> ?_) (fun c vs e=> ?_)
      ·obtain ⟨l0,r0,q⟩:=g3 l row e;rw[b1];exact h3 _ _ q
      ·obtain ⟨l0,r0,q⟩:=g4 c vs e;rw[b1];exact h4 _ _ q
    ·simp at h
   |_=>simp[Sh.lE,kF]at h
 | .whole i,v,ps,hu,h=>by
   have hlt:i<ids.length:=by simpa[Sh.under]using hu
   cases v with
   |whole i' v=>
    simp only[Sh.lE,kF]at h
    split at h
    ·rename_i v' l0 c0 kB
     split at h
     ·rename_i hb
      simp only[Bool.and_eq_true]at hb
      obtain rfl:=Nat.eq_of_beq_eq_true hb.1.1
      obtain rfl:=Nat.eq_of_beq_eq_true hb.1.2
      simp only[Option.some.injEq]at h
      subst h
      refine ⟨.whole i 0,fun rest=>rfl,fun jE eD val hd hv=> ?_⟩
      cases hv with
      |whole h0 h1 h2 aYZ h3 h4=>
       rw[kB]at h1;obtain rfl:=Option.some.inj h1
       obtain ⟨o',g1,⟨g2,g3,g4,g5,g6,g7⟩,b1,b2⟩:=hd.get hlt kB
       refine .whole h0 g1 g2 (fun v1 l c e=>Nat.zero_le _) (fun l e=> ?_) (fun l rows e=> ?_)
       ·obtain ⟨_,v1,q⟩:=g5 _ _ _ e;cases q;exact h3 _ rfl
       ·obtain ⟨_,v1,q⟩:=g5 _ _ _ e;cases q;rw[b1,b2];exact h4 _ _ rfl
     ·simp at h
    ·simp at h
   |_=>simp[Sh.lE,kF]at h
 | .fn f cs,v,ps,hu,h=>by
   cases v with
   |fn f' vs=>
    simp only[Sh.lE,kF]at h
    split at h
    ·rename_i hb
     obtain rfl:=Nat.eq_of_beq_eq_true hb
     obtain ⟨vs',h1,h2,h3⟩:=aEI hs cs vs ps (by simpa[Sh.under]using hu) h
     refine ⟨.fn f vs',fun rest=>by simp[unV,h2 rest],fun jE eD val hd hv=> ?_⟩
     cases hv with
     |fn vals aY0=>
      have:=eB.fn (P:=P) (T:=T) (S:=S) (pl:=jE) (St:=eD) (f:=f) vals (h3 jE eD vals hd aY0)
      rw[h1]at this;exact this
    ·simp at h
   |_=>simp[Sh.lE,kF]at h
 | .map i,v,ps,hu,h=>by
   have hlt:i<ids.length:=by simpa[Sh.under]using hu
   cases v with
   |map i'=>
    simp only[Sh.lE,kF]at h
    split at h
    ·rename_i hb
     simp only[Bool.and_eq_true]at hb
     obtain rfl:=Nat.eq_of_beq_eq_true hb.1
     simp only[Option.some.injEq]at h
     subst h
     refine ⟨.map i,fun rest=>rfl,fun jE eD val hd hv=> ?_⟩
     cases hv with
     |map h0 h1 h2 h3=>
      obtain ⟨o',g1,⟨g2,g3,g4,g5,g6,g7⟩,b1,b2⟩:=hd.get hlt h1
      refine .map h0 g1 g2 (fun kl vl es e=> ?_)
      obtain ⟨a,b,c,q⟩:=g6 _ _ _ e;rw[b1];exact h3 _ _ _ q
    ·simp at h
   |_=>simp[Sh.lE,kF]at h
 | .aOr i,v,ps,hu,h=>by
   have hlt:i<ids.length:=by simpa[Sh.under]using hu
   cases v with
   |ptr i' off=>
    simp only[Sh.lE,kF]at h
    split at h
    ·rename_i hb
     simp only[Bool.and_eq_true]at hb
     obtain rfl:=Nat.eq_of_beq_eq_true hb.1
     simp only[Option.some.injEq]at h
     subst h
     refine ⟨.ptr i off,fun rest=>rfl,fun jE eD val hd hv=> ?_⟩
     cases hv with
     |ptr h0 h1 h2 h3 h4=>
      obtain ⟨o',g1,⟨g2,g3,g4,g5,g6,g7⟩,b1,b2⟩:=hd.get hlt h1
      refine .ptr h0 g1 g2 (fun l row e=> ?_) (fun c vs e=> ?_)
      ·obtain ⟨l0,r0,q⟩:=g3 l row e;rw[b1];exact h3 _ _ q
      ·obtain ⟨l0,r0,q⟩:=g4 c vs e;rw[b1];exact h4 _ _ q
    ·simp at h
   |_=>simp[Sh.lE,kF]at h
 | .uL i,v,ps,hu,h=>by
   have hlt:i<ids.length:=by simpa[Sh.under]using hu
   cases v with
   |uL i' v idx off=>
    simp only[Sh.lE,kF]at h
    split at h
    ·rename_i v' l0 c0 kB
     split at h
     ·rename_i hb
      simp only[Bool.and_eq_true]at hb
      obtain rfl:=Nat.eq_of_beq_eq_true hb.1.1
      obtain rfl:=Nat.eq_of_beq_eq_true hb.1.2
      simp only[Option.some.injEq]at h
      subst h
      refine ⟨.uL i 0 idx off,fun rest=>rfl,fun jE eD val hd hv=> ?_⟩
      cases hv with
      |uL h0 h1 h2 aYZ h3=>
       rw[kB]at h1;obtain rfl:=Option.some.inj h1
       obtain ⟨o',g1,⟨g2,g3,g4,g5,g6,g7⟩,b1,b2⟩:=hd.get hlt kB
       refine .uL h0 g1 g2 (fun v1 l c e=>Nat.zero_le _) (fun l c e=> ?_)
       obtain ⟨_,v1,q⟩:=g5 _ _ _ e;cases q;rw[b1];exact h3 _ _ rfl
     ·simp at h
    ·simp at h
   |_=>simp[Sh.lE,kF]at h
 | .dF i,v,ps,hu,h=>by
   have hlt:i<ids.length:=by simpa[Sh.under]using hu
   cases v with
   |dF i'=>
    simp only[Sh.lE,kF]at h
    split at h
    ·rename_i hb
     simp only[Bool.and_eq_true]at hb
     obtain rfl:=Nat.eq_of_beq_eq_true hb.1
     simp only[Option.some.injEq]at h
     subst h
     refine ⟨.dF i,fun rest=>rfl,fun jE eD val hd hv=> ?_⟩
     cases hv with
     |dF h0 h1 h2 h3 h4=>
      obtain ⟨o',g1,⟨g2,g3,g4,g5,g6,g7⟩,b1,b2⟩:=hd.get hlt h1
      refine .dF h0 g1 g2 (fun l i av e=> ?_) (fun l rows i av e=> ?_)
      ·obtain ⟨a,q⟩:=g7.2.1 _ _ _ _ e;exact h3 _ _ _ q
      ·obtain ⟨a,q⟩:=g7.2.1 _ _ _ _ e;rw[b1,b2];exact h4 _ _ _ _ q
    ·simp at h
   |_=>simp[Sh.lE,kF]at h
theorem aEI (hs:kW P T S pl St w) {ids:List Nat} {m:Nat} {co:Bool}:∀(ss:List Sh) (vs:List AV) (ps:List PV),Sh.aDF ids.length ss=true→qW St m co (Sh.dZ ids ss) vs=some ps→a8K P T S ids pl St ss vs ps
 |[],[],ps,_,h=>by
  simp only[Sh.dZ,qW,Option.some.injEq]at h
  subst h
  exact ⟨[],rfl,fun rest=>rfl,fun _ _ _ _ _ i av h=>by simp at h⟩
 |[],_::_,ps,_,h=>by simp[Sh.dZ,qW]at h
 |_::_,[],ps,_,h=>by simp[Sh.dZ,qW]at h
 |s::ss,v::vs,ps,hu,h=>by
  simp only[Sh.aDF,Bool.and_eq_true]at hu
  simp only[Sh.dZ,qW]at h
  split at h
  ·rename_i pa pb ha hb
   simp only[Option.some.injEq]at h
   subst h
   obtain ⟨v',h1,h2⟩:=aTY hs s v pa hu.1 ha
   obtain ⟨vs',g1,g2,g3⟩:=aEI hs ss vs pb hu.2 hb
   refine ⟨v'::vs',by simp[g1],fun rest=>by simp[aIX,List.append_assoc,h1,g2],fun jE eD vals hd hv i av hi=> ?_⟩
   cases i with
   |zero=>simp at hi;subst hi;exact h2 jE eD _ hd (hv 0 v rfl)
   |succ i=>exact g3 jE eD (fun j=>vals (j+1)) hd (fun j av hj=>hv (j+1) av (by simpa using hj)) i av (by simpa using hi)
  ·simp at h
end
theorem wI.aWl {l:L} {cs:List Value} {row:Row} (h:wI P T S l.ks cs row):Ev.nrm l row=row:=by
 cases l with
 |agg ks=>rfl
 |one k=>
  have h1:=h.aCj
  have h0:=h.cell 0 k rfl
  match row,h1 with
  |[c],_=>
   have:at_ [c] 0=c:=rfl
   rw[this]at h0
   exact aKI h0
def InO (P:Program) (T:Nat→gG) (S:fB) (ids:List Nat) (pl:Pl) (St:Ev.St) (o o':Obj):Prop:=
 aKt o o'∧(o'.has=true→o.has=true)∧∀jE eD w id j,Ren ids pl St jE eD→jE.blk j=pl.blk id→jE.cap j=pl.cap id→sZ P T S pl St w id o→sZ P T S jE eD w j o'
theorem aWm {ids:List Nat} (o:Obj):InO P T S ids pl St o .dead:=
 ⟨⟨by simp,fun l row e=>(by cases e),fun c vs e=>(by cases e),fun v l c e=>(by cases e),fun a b c e=>(by cases e),fun v e l c q=>(by cases q),fun _ _ _ _ e=>(by cases e),fun _ _ _ _ e q=>(by cases e<;>cases q<;>rfl)⟩,fun h=>by simp[Obj.has]at h,fun _ _ _ _ _ _ _ _ _=>trivial⟩
theorem aY1 (hs:kW P T S pl St w0) {ids:List Nat} {m:Nat} (s:vO) (o:Obj) (ps:List PV) (hu:vO.under ids.length s=true) (h:tY St m (s.lE ids) o=some ps):
 ∃o',(∀rest,unO s (ps++rest)=(o',rest))∧((∃(w:World) (id:Nat),sZ P T S pl St w id o)→InO P T S ids pl St o o'):=by
 cases s with
 |var l=>
  cases o with
  |var l' row=>
   simp only[vO.lE,tY]at h
   split at h
   ·rename_i hb
    obtain rfl:=L.beq_eq hb
    simp only[Option.some.injEq]at h
    subst h
    refine ⟨.var l (nrm l (nrm l row)),fun rest=>rfl,fun ⟨w,id,cur,e,h1,h2⟩=> ?_⟩
    rw[h2.aWl,h2.aWl]
    refine ⟨⟨by simp,fun l row e=>⟨_,_,rfl⟩,fun c vs e=>(by cases e),fun v l c e=>(by cases e),fun a b c e=>(by cases e),fun v e l c q=>(by cases q),fun _ _ _ _ e=>(by cases e),fun _ _ _ _ e q=>(by cases e<;>cases q<;>rfl)⟩,fun h=>h,fun jE eD w id j _ b1 b2 ho=> ?_⟩
    obtain ⟨cur,e,q1,q2⟩:=ho
    exact ⟨cur,e,by rw[b1];exact q1,q2⟩
   ·simp at h
  |_=>simp[vO.lE,tY]at h
 |arr l=>
  cases o with
  |arr v l' c=>
   simp only[vO.lE,tY]at h
   split at h
   ·rename_i hb
    obtain rfl:=L.beq_eq hb
    simp only[Option.some.injEq]at h
    subst h
    refine ⟨.arr 0 l c,fun rest=>rfl,fun _=> ?_⟩
    refine ⟨⟨by simp,fun l row e=>(by cases e),fun c vs e=>(by cases e),fun v l c e=> ?_,fun a b c e=>(by cases e),fun v e l c q=>(by cases q),fun _ _ _ _ e=>(by cases e),fun _ _ _ _ e q=>(by cases e<;>cases q<;>rfl)⟩,fun h=> ?_,fun jE eD w id j hd b1 b2 ho=> ?_⟩
    ·cases e;exact ⟨rfl,_,rfl⟩
    ·cases c<;>exact h
    ·rcases ho with ho |⟨rows,cur,e,i,q0,q1,q2,q3,q4,q5,q6,q7,q8⟩
     ·exact .inl ho
     ·exact .inr ⟨rows,cur,e,i,q0,by rw[b1];exact q1,q2,q3,q4,by rw[b2];exact q5,by rw[b2];exact q6,by rw[b2];exact q7,q8⟩
   ·simp at h
  |_=>simp[vO.lE,tY]at h
 |uA e l=>
  cases o with
  |uA v e' l' c=>
   simp only[vO.lE,tY]at h
   split at h
   ·rename_i hb
    simp only[Bool.and_eq_true]at hb
    obtain rfl:=Nat.eq_of_beq_eq_true hb.1
    obtain rfl:=L.beq_eq hb.2
    simp only[Option.some.injEq]at h
    subst h
    refine ⟨.uA 0 e l c,fun rest=>rfl,fun _=> ?_⟩
    refine ⟨⟨by simp,fun l row e=>(by cases e),fun c vs e=>(by cases e),fun v l c e=>(by cases e),fun a b c e=>(by cases e),fun v e l c q=> ?_,fun _ _ _ _ e=>(by cases e),fun _ _ _ _ e q=>(by cases e<;>cases q<;>rfl)⟩,fun h=> ?_,fun jE eD w id j hd b1 b2 ho=> ?_⟩
    ·cases q;exact ⟨rfl,_,rfl⟩
    ·cases c<;>exact h
    ·rcases ho with ho |⟨rows,cur,e,i,q0,q1,q2,q3,q4,q5,q6,q7,q8,q9⟩
     ·exact .inl ho
     ·exact .inr ⟨rows,cur,e,i,q0,by rw[b1];exact q1,q2,q3,q4,by rw[b2];exact q5,by rw[b2];exact q6,by rw[b2];exact q7,q8,by rw[b1];exact q9⟩
   ·simp at h
  |_=>simp[vO.lE,tY]at h
 |dF l s=>
  cases o with
  |dF l' c i av=>
   simp only[vO.lE,tY]at h
   split at h
   ·rename_i hb
    obtain rfl:=L.beq_eq hb
    split at h
    ·rename_i ps' hp
     simp only[Option.some.injEq]at h
     subst h
     obtain ⟨av',g1,g2⟩:=aTY hs s av ps' (by simpa[vO.under]using hu) hp
     refine ⟨.dF l c i av',fun rest=> ?_,fun _=> ?_⟩
     ·simp only[List.cons_append,unO,List.tail_cons,g1 rest];rfl
     ·refine ⟨⟨by simp,fun l row e=>(by cases e),fun c vs e=>(by cases e),fun v l c e=>(by cases e),fun a b c e=>(by cases e),fun v e l c q=>(by cases q),fun _ _ _ _ e=>(by cases e;exact ⟨_,rfl⟩),fun _ _ _ _ e q=>(by cases e)⟩,fun h=> ?_,fun jE eD w id j hd b1 b2 ho=> ?_⟩
      ·cases c<;>exact h
      rcases ho with ho |⟨rows,cur,e,inf,qc,q0,q1,q2,q3,q4,q5,q6,q7,q8⟩
      ·exact .inl ho
      ·exact .inr ⟨rows,cur,e,inf,qc,by rw[b1];exact q0,q1,q2,q3,by rw[b2];exact q4,by rw[b2];exact q5,by rw[b2];exact q6,q7,fun hi=>⟨(q8 hi).1,g2 jE eD _ hd (q8 hi).2.1,(q8 hi).2.2⟩⟩
    ·simp at h
   ·simp at h
  |_=>simp[vO.lE,tY]at h
 |map kl vl=>
  cases o with
  |map kl' vl' es=>
   simp only[vO.lE,tY]at h
   split at h
   ·rename_i hb
    simp only[Bool.and_eq_true]at hb
    obtain rfl:=L.beq_eq hb.1
    obtain rfl:=L.beq_eq hb.2
    simp only[Option.some.injEq]at h
    subst h
    refine ⟨.map kl vl es,fun rest=>rfl,fun _=> ?_⟩
    refine ⟨⟨by simp,fun l row e=>(by cases e),fun c vs e=>(by cases e),fun v l c e=>(by cases e),fun a b c e=>⟨_,_,_,rfl⟩,fun v e l c q=>(by cases q),fun _ _ _ _ e=>(by cases e),fun _ _ _ _ e q=>(by cases e<;>cases q<;>rfl)⟩,fun h=>h,fun jE eD w id j hd b1 b2 ho=> ?_⟩
    obtain ⟨oW,clock,q1,q2,q3⟩:=ho
    exact ⟨oW,clock,by rw[b1];exact q1,q2,q3⟩
   ·simp at h
  |_=>simp[vO.lE,tY]at h
 |cells c vs=>
  cases vs with
  |nil=>
   cases o with
   |cells c' sL=>
    simp only[vO.lE,Sh.dZ,tY]at h
    split at h
    ·cases sL with
     |nil=>
      simp only[qW,Option.some.injEq]at h;subst h
      exact ⟨.dead,fun rest=>rfl,fun _=>aWm _⟩
     |cons _ _=>simp[qW]at h
    ·simp at h
   |_=>
    simp only[vO.lE,Sh.dZ,tY,Option.some.injEq]at h;subst h
    exact ⟨.dead,fun rest=>rfl,fun _=>aWm _⟩
  |cons s ss=>
   cases o with
   |cells c' sL=>
    simp only[vO.lE,tY]at h
    split at h
    ·rename_i hb
     have hcc:c=c':=by simpa using hb
     subst hcc
     obtain ⟨vs',h1,h2,h3⟩:=aEI hs (s::ss) sL ps (by simpa[vO.under]using hu) h
     refine ⟨.cells c vs',fun rest=>by simp[unO,h2 rest],fun _=> ?_⟩
     refine ⟨⟨by simp,fun l row e=>(by cases e),fun c vs e=>⟨_,_,rfl⟩,fun v l c e=>(by cases e),fun a b c e=>(by cases e),fun v e l c q=>(by cases q),fun _ _ _ _ e=>(by cases e),fun _ _ _ _ e q=>(by cases e<;>cases q<;>rfl)⟩,fun h=>rfl,fun jE eD w id j hd b1 b2 ho=> ?_⟩
     obtain ⟨cur,e,q1,q2,q3,q4⟩:=ho
     exact ⟨cur,e,by rw[b1];exact q1,by rw[q2,h1],fun i av hi=>h3 jE eD (fun i=>cur.getD i undef) hd q3 i av hi,q4⟩
    ·simp at h
   |_=>simp[vO.lE,Sh.dZ,tY]at h
theorem aRP (hs:kW P T S pl St w0) {ids:List Nat} (hos:∀(id:Nat) (o:Obj),St[id]? =some o→∃(w:World) (j:Nat),sZ P T S pl St w j o):∀(is:List Nat) (ss:List vO) (ps:List PV),ss.all (vO.under ids.length)=true→aFR St ids is ss=some ps→
 ∃eD:Ev.St,(∀rest,aGL ss (ps++rest)=eD)∧eD.length=is.length∧ss.length=is.length∧∀(j:Nat) (o':Obj),eD[j]? =some o'→∃o:Obj,St[is.getD j 0]? =some o∧InO P T S ids pl St o o'
 |[],[],ps,_,h=>by
  simp only[aFR,Option.some.injEq]at h
  subst h
  exact ⟨[],fun rest=>rfl,rfl,rfl,fun j o' h=>by simp at h⟩
 |[],_::_,ps,_,h=>by simp[aFR]at h
 |_::_,[],ps,_,h=>by simp[aFR]at h
 |i::is,s::ss,ps,hu,h=>by
  simp only[List.all_cons,Bool.and_eq_true]at hu
  simp only[aFR]at h
  split at h
  ·rename_i o ho
   split at h
   ·rename_i pa pb ha hb
    simp only[Option.some.injEq]at h
    subst h
    obtain ⟨o',h1,h2⟩:=aY1 hs s o pa hu.1 ha
    obtain ⟨eD,g1,g2,g2',g3⟩:=aRP hs hos is ss pb hu.2 hb
    refine ⟨o'::eD,fun rest=>by simp[aGL,List.append_assoc,h1,g1],by simp[g2],by simp[g2'],fun j o1 hi=> ?_⟩
    cases j with
    |zero=>simp at hi;subst hi;exact ⟨o,by simpa using ho,h2 (hos i o ho)⟩
    |succ j=>
     obtain ⟨o2,q1,q2⟩:=g3 j o1 (by simpa using hi)
     exact ⟨o2,by simpa using q1,q2⟩
   ·simp at h
  ·simp at h
def Pl.sub (pl:Pl) (ids:List Nat):Pl:=⟨fun j=>pl.blk (ids.getD j 0),fun j=>pl.cap (ids.getD j 0)⟩
theorem aTZ {ids:List Nat} {en:Shape} {sL:List AV} {ps:List PV} {vals:Nat→Value} (hs:kW P T S pl St w) (hnd:ids.Nodup) (hu:Shape.under ids.length en=true) (hv:∀i av,sL[i]? =some av→eB P T S pl St av (vals i))
 (h:aPm St ids en sL=some ps):
 ∃(vs:List AV) (r:List PV) (eD:Ev.St),aIX (en.slots.map (·.2)) ps=(vs,r)∧eD=aGL en.objs r∧vs.length=sL.length∧eD.length=ids.length∧en.objs.length=ids.length∧Ren ids pl St (pl.sub ids) eD∧kW P T S (pl.sub ids) eD w∧
  (∀i av,vs[i]? =some av→eB P T S (pl.sub ids) eD av (vals i))∧(∀b,mW (pl.sub ids) eD b→∃i∈ids,∃o,St[i]? =some o∧o.has=true∧o.cst=false∧pl.blk i=b)∧
  ∀(j:Nat) (o':Obj),eD[j]? =some o'→∃o:Obj,St[ids.getD j 0]? =some o∧aKt o o'∧(o'.has=true→o.has=true):=by
 simp only[Shape.under,Bool.and_eq_true]at hu
 unfold aPm at h
 split at h
 ·rename_i pa pb ha hb
  simp only[Option.some.injEq]at h
  subst h
  have hun:Sh.aDF ids.length (en.slots.map (·.2))=true:=by
   have:=hu.1
   clear ha
   generalize en.slots=ss at this⊢
   induction ss with
   |nil=>rfl
   |cons p ss ih=>
    simp only[List.all_cons,Bool.and_eq_true]at this
    simp only[List.map_cons,Sh.aDF,this.1,ih this.2,Bool.and_self]
  obtain ⟨vs,v1,v2,v3⟩:=aEI hs (ids:=ids) _ sL pa hun ha
  obtain ⟨eD,g1,g2,g2',g3⟩:=aRP hs (ids:=ids) (fun id o ho=>⟨w,id,hs.objs id o ho⟩) ids en.objs pb hu.2 hb
  have a25:Ren ids pl St (pl.sub ids) eD:=by
   refine ⟨fun j hj=>⟨_,List.getElem?_eq_getElem (by rw[g2];exact hj)⟩,fun j o' ho'=> ?_⟩
   obtain ⟨o,q1,q2⟩:=g3 j o' ho'
   exact ⟨o,q1,q2.1,rfl,rfl⟩
  have hinj:∀i j,i<ids.length→j<ids.length→ids.getD i 0=ids.getD j 0→i=j:=by
   intro i j hi hj e
   rw[List.getD_eq_getElem?_getD,List.getD_eq_getElem?_getD,List.getElem?_eq_getElem hi,List.getElem?_eq_getElem hj]at e
   exact (List.getElem_inj hnd).1 e
  have hlt:∀(j:Nat) (o':Obj),eD[j]? =some o'→j<ids.length:=fun j o' h=>by rw[←g2];exact (List.getElem?_eq_some_iff.1 h).1
  refine ⟨vs,pb,eD,v2 pb,by have:=g1 [];rw[List.append_nil]at this;exact this.symm,v1,g2,g2',a25, ?_,v3 _ _ vals a25 hv,fun b hb=> ?_,fun j o' ho'=> ?_⟩
  ·refine ⟨hs.aCk,fun j o' ho'=> ?_,fun j o' ho' hh off hoff=> ?_,fun i j o o' hi hj h1 h2 hbb=> ?_,hs.zL,fun g t l row e=>⟨(hs.glo g t l row e).1,fun j o' ho' hh=> ?_⟩⟩
   ·obtain ⟨o,q1,q2⟩:=g3 j o' ho'
    exact q2.2.2 _ eD w _ j a25 rfl rfl (hs.objs _ o q1)
   ·obtain ⟨o,q1,q2⟩:=g3 j o' ho'
    exact hs.apart _ o q1 (q2.2.1 hh) off (by rw[q2.1.sn hh];exact hoff)
   ·obtain ⟨o1,q1,q2⟩:=g3 i o hi
    obtain ⟨o2,q3,q4⟩:=g3 j o' hj
    exact hinj i j (hlt i o hi) (hlt j o' hj) (hs.inj _ _ o1 o2 q1 q3 (q2.2.1 h1) (q4.2.1 h2) hbb)
   ·obtain ⟨o,q1,q2⟩:=g3 j o' ho'
    exact (hs.glo g t l row e).2 _ o q1 (q2.2.1 hh)
  ·obtain ⟨j,o',ho',hh,hc1,hbb⟩:=hb
   obtain ⟨o,q1,q2⟩:=g3 j o' ho'
   have hj:=hlt j o' ho'
   refine ⟨ids.getD j 0, ?_,o,q1,q2.2.1 hh,(q2.1.cst hh).trans hc1,hbb⟩
   rw[List.getD_eq_getElem?_getD,List.getElem?_eq_getElem hj];exact List.getElem_mem hj
  ·obtain ⟨o,q1,q2⟩:=g3 j o' ho'
   exact ⟨o,q1,q2.1,q2.2.1⟩
 ·simp at h
end Go.Ev
namespace Go.Ev
variable {E:Env} {P:Program} {T:Nat→gG} {S S':fB} {pl jE kN:Pl} {St eD xZ:Ev.St} {F F':Fr} {a:Act} {w w':World}
theorem aJl (ids iC:List Nat):∀(cs:List AV) (i:Nat),(AV.dZ ids iC cs)[i]? =(cs[i]?).map (AV.lE ids iC)
 |[],_=>by simp[AV.dZ]
 |c::cs,0=>by simp[AV.dZ]
 |c::cs,i+1=>by simp[AV.dZ,aJl ids iC cs i]
theorem aAz (ids iC:List Nat):∀(cs:List AV),(AV.dZ ids iC cs).length=cs.length
 |[]=>rfl
 |c::cs=>by simp[AV.dZ,aAz ids iC cs]
def aER (all iC:List Nat) (v:Nat) (o' o3:Obj):Prop:=o3=Obj.lE all iC v o'∨((∃vs,o3= .cells true vs)∧∃vs,o'= .cells true vs)
def a0N (all iC:List Nat) (jE:Pl) (eD:Ev.St) (kN:Pl) (xZ:Ev.St):Prop:=
 ∀(j:Nat) (o':Obj),eD[j]? =some o'→∃o3,xZ[all.getD j 0]? =some o3∧aER all iC (iC.getD j 0) o' o3∧kN.blk (all.getD j 0)=jE.blk j∧kN.cap (all.getD j 0)=jE.cap j
theorem aLX (all iC:List Nat) (v:Nat) (o:Obj):Obj.lE all iC v o≠ .fresh:=by
 cases o with
 |arr u l c=>cases u<;>simp[Obj.lE]
 |uA u e l c=>cases u<;>simp[Obj.lE]
 |_=>simp[Obj.lE]
theorem aWn {all iC:List Nat} {v:Nat} {o:Obj} {l:L} {row:Row} (h:Obj.lE all iC v o= .var l row):o= .var l row:=by
 cases o with
 |arr u l c=>cases u<;>simp[Obj.lE]at h
 |uA u e l c=>cases u<;>simp[Obj.lE]at h
 |var l r=>simpa[Obj.lE]using h
 |_=>simp[Obj.lE]at h
theorem aRQ {all iC:List Nat} {v:Nat} {o:Obj} {c:Bool} {vs:List AV} (h:Obj.lE all iC v o= .cells c vs):∃vs0,o= .cells c vs0∧vs=AV.dZ all iC vs0:=by
 cases o with
 |arr u l c=>cases u<;>simp[Obj.lE]at h
 |uA u e l c=>cases u<;>simp[Obj.lE]at h
 |cells c' vs0=>simp[Obj.lE]at h;obtain ⟨rfl,rfl⟩:=h;exact ⟨vs0,rfl,rfl⟩
 |_=>simp[Obj.lE]at h
theorem aWo {all iC:List Nat} {v u:Nat} {o:Obj} {l:L} {c:C} (h:Obj.lE all iC v o= .arr u l c):o= .arr 0 l c∧u=v:=by
 cases o with
 |arr u' l' c'=>
  cases u' with
  |zero=>simp[Obj.lE]at h;obtain ⟨rfl,rfl,rfl⟩:=h;exact ⟨rfl,rfl⟩
  |succ u'=>simp[Obj.lE]at h
 |uA u' e' l' c'=>cases u'<;>simp[Obj.lE]at h
 |_=>simp[Obj.lE]at h
theorem aT0 {all iC:List Nat} {v u:Nat} {o:Obj} {e:TypeId} {l:L} {c:C} (h:Obj.lE all iC v o= .uA u e l c):o= .uA 0 e l c∧u=v:=by
 cases o with
 |arr u' l' c'=>cases u'<;>simp[Obj.lE]at h
 |uA u' e' l' c'=>
  cases u' with
  |zero=>simp[Obj.lE]at h;obtain ⟨rfl,rfl,rfl,rfl⟩:=h;exact ⟨rfl,rfl⟩
  |succ u'=>simp[Obj.lE]at h
 |_=>simp[Obj.lE]at h
theorem aWp {all iC:List Nat} {v:Nat} {o:Obj} {kl vl:L} {es:List (Row×Row)} (h:Obj.lE all iC v o= .map kl vl es):o= .map kl vl es:=by
 cases o with
 |arr u l c=>cases u<;>simp[Obj.lE]at h
 |uA u e l c=>cases u<;>simp[Obj.lE]at h
 |map a b c=>simpa[Obj.lE]using h
 |_=>simp[Obj.lE]at h
theorem aWq {all iC:List Nat} {v:Nat} {o:Obj} {l:L} {c:C} {i:Nat} {av:AV} (h:Obj.lE all iC v o= .dF l c i av):∃av0,o= .dF l c i av0:=by
 cases o with
 |arr u l c=>cases u<;>simp[Obj.lE]at h
 |uA u e l c=>cases u<;>simp[Obj.lE]at h
 |dF l' c' i' av'=>simp[Obj.lE]at h;obtain ⟨rfl,rfl,rfl,_⟩:=h;exact ⟨_,rfl⟩
 |_=>simp[Obj.lE]at h
section
variable {all iC:List Nat} {v:Nat} {o o3:Obj}
theorem aER.ne (h:aER all iC v o o3):o3≠ .fresh:=by
 rcases h with rfl |⟨⟨vs,rfl⟩,_⟩
 ·exact aLX _ _ _ _
 ·simp
theorem aER.var {l:L} {row:Row} (h:aER all iC v o o3) (e:o3= .var l row):o= .var l row:=by
 rcases h with rfl |⟨⟨vs,rfl⟩,_⟩
 ·exact aWn e
 ·cases e
theorem aER.cells {c:Bool} {vs:List AV} (h:aER all iC v o o3) (e:o3= .cells c vs):∃c0 vs0,o= .cells c0 vs0:=by
 rcases h with rfl |⟨⟨vs,rfl⟩,vs0,rfl⟩
 ·obtain ⟨vs0,q,_⟩:=aRQ e;exact ⟨_,_,q⟩
 ·exact ⟨_,_,rfl⟩
theorem aER.arr {u:Nat} {l:L} {c:C} (h:aER all iC v o o3) (e:o3= .arr u l c):o= .arr 0 l c∧u=v:=by
 rcases h with rfl |⟨⟨vs,rfl⟩,_⟩
 ·exact aWo e
 ·cases e
theorem aER.uA {u:Nat} {e0:TypeId} {l:L} {c:C} (h:aER all iC v o o3) (e:o3= .uA u e0 l c):o= .uA 0 e0 l c∧u=v:=by
 rcases h with rfl |⟨⟨vs,rfl⟩,_⟩
 ·exact aT0 e
 ·cases e
theorem aER.dF {l:L} {c:C} {i:Nat} {av:AV} (h:aER all iC v o o3) (e:o3= .dF l c i av):∃av0,o= .dF l c i av0:=by
 rcases h with rfl |⟨⟨vs,rfl⟩,_⟩
 ·exact aWq e
 ·cases e
theorem aER.map {kl vl:L} {es:List (Row×Row)} (h:aER all iC v o o3) (e:o3= .map kl vl es):o= .map kl vl es:=by
 rcases h with rfl |⟨⟨vs,rfl⟩,_⟩
 ·exact aWp e
 ·cases e
end
theorem eB.back {all iC:List Nat} (hb:a0N all iC jE eD kN xZ) {av:AV} {v:Value} (h:eB P T S jE eD av v):eB P T S kN xZ (AV.lE all iC av) v:=by
 induction h with
 |undef=>simp[AV.lE];exact .undef
 |und=>simp[AV.lE];exact .undef
 |d h=>simp only[AV.lE];exact .d h
 | @ptr id off o v h0 h1 h2 h3 h4=>
   obtain ⟨o3,g1,gb,g2,g3⟩:=hb id o h1
   simp only[AV.lE]
   refine .ptr h0 g1 gb.ne (fun l row e=> ?_) (fun c vs e=> ?_)
   ·rw[g2];exact h3 _ _ (gb.var e)
   ·obtain ⟨c0,vs0,q⟩:=gb.cells e
    rw[g2];exact h4 _ _ q
 | @uL id nO idx off o v h0 h1 h2 hv h3=>
   obtain ⟨o3,g1,gb,g2,g3⟩:=hb id o h1
   cases nO with
   |succ nO=>simp[AV.lE];exact .undef
   |zero=>
    simp only[AV.lE]
    refine .uL h0 g1 gb.ne (fun v1 l c e=> ?_) (fun l c e=> ?_)
    ·rw[(gb.arr e).2];exact Nat.le_refl _
    ·rw[g2];exact h3 _ _ (gb.arr e).1
 | @whole id nO o v h0 h1 h2 hv h3 h4=>
   obtain ⟨o3,g1,gb,g2,g3⟩:=hb id o h1
   cases nO with
   |succ nO=>simp[AV.lE];exact .undef
   |zero=>
    simp only[AV.lE]
    refine .whole h0 g1 gb.ne (fun v1 l c e=> ?_) (fun l e=> ?_) (fun l rows e=> ?_)
    ·rw[(gb.arr e).2];exact Nat.le_refl _
    ·exact h3 _ (gb.arr e).1
    ·rw[g2,g3];exact h4 _ _ (gb.arr e).1
 |own=>simp[AV.lE];exact .undef
 | @sw id nO o v h0 h1 h2 hv h3 h4=>
   obtain ⟨o3,g1,gb,g2,g3⟩:=hb id o h1
   cases nO with
   |succ nO=>simp[AV.lE];exact .undef
   |zero=>
    simp only[AV.lE]
    refine .sw h0 g1 gb.ne (fun v1 e l c q=> ?_) (fun e l q=> ?_) (fun e l rows q=> ?_)
    ·rw[(gb.uA q).2];exact Nat.le_refl _
    ·exact h3 _ _ (gb.uA q).1
    ·rw[g2,g3];exact h4 _ _ _ (gb.uA q).1
 | @agg sL vs h0 h ih=>
   simp only[AV.lE]
   have:=eB.agg (P:=P) (T:=T) (S:=S) (pl:=kN) (St:=xZ) (sL:=AV.dZ all iC sL) vs (fun i hi=>h0 i (by rw[aAz]at hi;exact hi)) (fun i av hi=>by
    rw[aJl]at hi
    obtain ⟨c,hc,rfl⟩:=Option.map_eq_some_iff.1 hi
    exact ih i c hc)
   rw[aAz]at this;exact this
 | @fn f caps vs h ih=>
   simp only[AV.lE]
   have:=eB.fn (P:=P) (T:=T) (S:=S) (pl:=kN) (St:=xZ) (f:=f) (caps:=AV.dZ all iC caps) vs (fun i av hi=>by
    rw[aJl]at hi
    obtain ⟨c,hc,rfl⟩:=Option.map_eq_some_iff.1 hi
    exact ih i c hc)
   rw[aAz]at this;exact this
 |tup=>simp[AV.lE];exact .undef
 | @dF id o v h0 h1 h2 h3 h4=>
   obtain ⟨o3,g1,gb,g2,g3⟩:=hb id o h1
   simp only[AV.lE]
   refine .dF h0 g1 gb.ne (fun l i av e=> ?_) (fun l rows i av e=> ?_)
   ·obtain ⟨av0,q⟩:=gb.dF e;exact h3 _ _ _ q
   ·obtain ⟨av0,q⟩:=gb.dF e;rw[g2,g3];exact h4 _ _ _ _ q
 | @aFf id idx o v h0 h1 h2 h3=>
   obtain ⟨o3,g1,gb,g2,g3⟩:=hb id o h1
   simp only[AV.lE]
   refine .aFf h0 g1 gb.ne (fun l c i av e=> ?_)
   obtain ⟨av0,q⟩:=gb.dF e;rw[g2];exact h3 _ _ _ _ q
 | @map id o v h0 h1 h2 h3=>
   obtain ⟨o3,g1,gb,g2,g3⟩:=hb id o h1
   simp only[AV.lE]
   refine .map h0 g1 gb.ne (fun kl vl es e=> ?_)
   rw[g2];exact h3 _ _ _ (gb.map e)
end Go.Ev
namespace Go.Ev
variable {E:Env} {P:Program} {T:Nat→gG} {S S' S2:fB} {pl jE kN:Pl} {St eD xZ:Ev.St} {F F':Fr} {a:Act} {w w':World}
mutual
theorem Sh.beq_eq:∀(a b:Sh),Sh.beq a b=true→a=b
 | .d a,b,h=>by cases b<;>simp[Sh.beq]at h;rw[L.beq_eq h]
 | .ptr i o,b,h=>by cases b<;>simp[Sh.beq]at h;rw[h.1,h.2]
 | .whole i,b,h=>by cases b<;>simp[Sh.beq]at h;rw[h]
 | .fn f cs,b,h=>by
   cases b<;>simp[Sh.beq]at h
   rw[h.1,Sh.aHV _ _ h.2]
 | .map i,b,h=>by cases b<;>simp[Sh.beq]at h;rw[h]
 | .sw i,b,h=>by cases b<;>simp[Sh.beq]at h;rw[h]
 | .agg cs,b,h=>by
   cases b<;>simp[Sh.beq]at h
   rw[Sh.aHV _ _ h]
 | .aOr i,b,h=>by cases b<;>simp[Sh.beq]at h;rw[h]
 | .uL i,b,h=>by cases b<;>simp[Sh.beq]at h;rw[h]
 | .dF i,b,h=>by cases b<;>simp[Sh.beq]at h;rw[h]
theorem Sh.aHV:∀(a b:List Sh),Sh.aKF a b=true→a=b
 |[],b,h=>by cases b<;>simp[Sh.aKF]at h;rfl
 |a::r,b,h=>by
  cases b with
  |nil=>simp[Sh.aKF]at h
  |cons b r'=>
   simp only[Sh.aKF,Bool.and_eq_true]at h
   rw[Sh.beq_eq _ _ h.1,Sh.aHV _ _ h.2]
end
theorem vO.beq_eq {a b:vO} (h:vO.beq a b=true):a=b:=by
 cases a<;>cases b<;>simp[vO.beq]at h
 ·rw[L.beq_eq h]
 ·rename_i c vs c' vs'
  rw[Sh.aHV _ _ h.2]
  cases c<;>cases c'<;>simp_all
 ·rw[L.beq_eq h]
 ·rw[L.beq_eq h.1,L.beq_eq h.2]
 ·rw[h.1,L.beq_eq h.2]
 ·rw[L.beq_eq h.1,Sh.beq_eq _ _ h.2]
theorem vO.aHV:∀{a b:List vO},vO.aKF a b=true→a=b
 |[],[],_=>rfl
 |[],_::_,h=>by simp[vO.aKF]at h
 |_::_,[],h=>by simp[vO.aKF]at h
 |a::r,b::r',h=>by
  simp only[vO.aKF,Bool.and_eq_true]at h
  rw[vO.beq_eq h.1,vO.aHV h.2]
theorem aN5:∀{a b:List (Nat×Sh)},aGK a b=true→a=b
 |[],[],_=>rfl
 |[],_::_,h=>by simp[aGK]at h
 |_::_,[],h=>by simp[aGK]at h
 |(n,a)::r,(m,b)::r',h=>by
  simp only[aGK,Bool.and_eq_true]at h
  rw[Nat.eq_of_beq_eq_true h.1.1,Sh.beq_eq _ _ h.1.2,aN5 h.2]
theorem Shape.beq_eq {a b:Shape} (h:Shape.beq a b=true):a=b:=by
 simp only[Shape.beq,Bool.and_eq_true]at h
 cases a;cases b
 simp at h
 rw[aN5 h.1.1,vO.aHV h.1.2,h.2]
def aO8 (pl:Pl) (St:Ev.St) (kN:Pl) (xZ:Ev.St):Prop:=∀(j:Nat) (o:Obj) (l:L) (c:C) (i:Nat) (av:AV),St[j]? =some o→xZ[j]? =some (.dF l c i av)→
 ∃c0 i0 av0,o= .dF l c0 i0 av0∧(c= .fA→c0= .fA)∧(∀rows,c= .sl rows→∃nH,c0= .sl nH∧nH.length=rows.length∧kN.blk j=pl.blk j∧kN.cap j=pl.cap j)
def a5C (P:Program) (T:Nat→gG) (ic:Nat→List PV→Option (List PV)):Prop:=
 ∀i af,T i= .imp af→∀ps ps',ic i ps=some ps'→∀(S:fB) (pl:Pl) (St:Ev.St) (w:World) (sL:List AV) (r:List PV) (vals:Nat→Value),
  aIX (af.entry.slots.map (·.2)) ps=(sL,r)→St=aGL af.entry.objs r→kW P T S pl St w→(∀i av,sL[i]? =some av→eB P T S pl St av (vals i))→
  (callFunc af.fn ((List.range sL.length).map vals).toArray).run P w= .ok (.enter af.fn ((List.range sL.length).map vals).toArray) w∧
  Calls P af.fn ((List.range sL.length).map vals).toArray w fun e w'=>∃(S2:fB) (kN:Pl) (xZ:Ev.St) (aLY:List AV) (r2:List PV) (out:List Value),
   aIX (af.exit.slots.map (·.2)) ps'=(aLY,r2)∧xZ=aGL af.exit.objs r2∧e= .returned (aKO out)∧out.length=aLY.length∧
   kW P T S2 kN xZ w'∧Grow (mW pl St) S w S2 w'∧(∀i av,aLY[i]? =some av→eB P T S2 kN xZ av (out.getD i undef))∧
   (∀b,mW kN xZ b→mW pl St b∨w.heap.size≤b)∧
   (∀(j:Nat) (o o':Obj),St[j]? =some o→xZ[j]? =some o'→((∃l row,o'= .var l row)∨(∃c vs,o'= .cells c vs)∨∃kl vl es,o'= .map kl vl es)→kN.blk j=pl.blk j)∧aO8 pl St kN xZ
structure aLZ (P:Program) (T:Nat→gG) (E:Env):Prop where
 pc:aYE P T E.pc
 ic:a5C P T E.ic
def aY3:vO→Obj→Prop
 | .var l,o=>∃row,o= .var l row
 | .cells _ [],o=>o= .dead
 | .cells c (_::_),o=>∃vs,o= .cells c vs
 | .arr l,o=>∃c,o= .arr 0 l c
 | .map kl vl,o=>∃es,o= .map kl vl es
 | .uA e l,o=>∃c,o= .uA 0 e l c
 | .dF l _,o=>∃c i av,o= .dF l c i av
theorem a26 (s:vO) (ps:List PV):aY3 s (unO s ps).1:=by
 cases s with
 |var l=>exact ⟨_,rfl⟩
 |cells c vs=>cases vs with
  |nil=>rfl
  |cons v vs=>exact ⟨_,rfl⟩
 |arr l=>exact ⟨_,rfl⟩
 |map kl vl=>exact ⟨_,rfl⟩
 |uA e l=>exact ⟨_,rfl⟩
 |dF l s=>exact ⟨_,_,_,rfl⟩
theorem aFA:∀(ss:List vO) (ps:List PV),(aGL ss ps).length=ss.length
 |[],_=>rfl
 |s::ss,ps=>by simp[aGL,aFA ss]
theorem aD7:∀(ss:List vO) (ps:List PV) (j:Nat) (o:Obj),(aGL ss ps)[j]? =some o→∃s,ss[j]? =some s∧aY3 s o
 |[],_,_,_,h=>by simp[aGL]at h
 |s::ss,ps,0,o,h=>by
  simp only[aGL,List.getElem?_cons_zero,Option.some.injEq]at h
  subst h
  exact ⟨s,rfl,a26 s ps⟩
 |s::ss,ps,j+1,o,h=>by
  simp only[aGL,List.getElem?_cons_succ]at h
  obtain ⟨s',h1,h2⟩:=aD7 ss _ j o h
  exact ⟨s',by simpa using h1,h2⟩
theorem aGT:∀{a b:List vO} {j:Nat} {s s':vO},aGM a b=true→a[j]? =some s→b[j]? =some s'→
 (∀c,s'= .cells c []→True)∧(∀l,s'= .var l→∃l0,s= .var l0)∧(∀c v vs,s'= .cells c (v::vs)→∃c0 v0 vs0,s= .cells c0 (v0::vs0))∧(∀l,s'= .arr l→s= .arr l)∧
 (∀kl vl,s'= .map kl vl→∃kl0 vl0,s= .map kl0 vl0)∧(∀e l,s'= .uA e l→s= .uA e l)∧(∀l s2,s'= .dF l s2→∃s0,s= .dF l s0)∧(s'.cst=true→s.cst=true)
 |[],_,_,_,_,_,h,_=>by simp at h
 |_::_,[],_,_,_,h,_,_=>by simp[aGM]at h
 |a::r,b::r',0,s,s',h,h1,h2=>by
  simp only[List.getElem?_cons_zero,Option.some.injEq]at h1 h2
  subst h1;subst h2
  simp only[aGM,Bool.and_eq_true]at h
  obtain ⟨h,_⟩:=h
  refine ⟨fun _ _=>trivial,fun l e=> ?_,fun c v vs e=> ?_,fun l e=> ?_,fun kl vl e=> ?_,fun e l q=> ?_,fun l s2 q=> ?_,fun q=> ?_⟩
  ·subst e;cases a<;>simp at h;exact ⟨_,rfl⟩
  ·subst e
   cases a with
   |cells c0 vs0=>cases vs0 with
    |nil=>simp at h
    |cons v0 vs0=>exact ⟨_,_,_,rfl⟩
   |_=>simp at h
  ·subst e;cases a<;>simp at h;rw[L.beq_eq h]
  ·subst e;cases a<;>simp at h;exact ⟨_,_,rfl⟩
  ·subst q;cases a<;>simp at h;rw[h.1,L.beq_eq h.2]
  ·subst q;cases a<;>simp at h;rw[L.beq_eq h];exact ⟨_,rfl⟩
  ·cases b with
   |cells c vs=>cases vs with
    |nil=>simp[vO.cst]at q
    |cons v vs=>
     cases c with
     |false=>simp[vO.cst]at q
     |true=>
      cases a with
      |cells c0 vs0=>cases vs0 with
       |nil=>simp at h
       |cons v0 vs0=>cases c0<;>simp at h⊢<;>rfl
      |_=>simp at h
   |_=>simp[vO.cst]at q
 |a::r,b::r',j+1,s,s',h,h1,h2=>by
  simp only[aGM,Bool.and_eq_true]at h
  exact aGT h.2 (by simpa using h1) (by simpa using h2)
theorem aRR:∀{a b:List vO} {j:Nat} {s':vO},aGM a b=true→a.length≤j→b[j]? =some s'→s'.cst=false
 |[],r,j,s',h,_,h2=>by
  simp only[aGM,List.all_eq_true]at h
  have:=h s' (List.mem_of_getElem? h2)
  simpa using this
 |_::_,[],_,_,h,_,_=>by simp[aGM]at h
 |a::r,b::r',0,s,h,h1,h2=>by simp at h1
 |a::r,b::r',j+1,s,h,h1,h2=>by
  simp only[aGM,Bool.and_eq_true]at h
  exact aRR h.2 (by simpa using h1) (by simpa using h2)
theorem aT1 {s:vO} {o:Obj} (h:aY3 s o):o.cst=s.cst:=by
 cases s with
 |cells c vs=>cases vs with
  |nil=>cases h;cases c<;>rfl
  |cons v vs=>obtain ⟨vs',rfl⟩:=h;cases c<;>rfl
 |var l=>obtain ⟨_,rfl⟩:=h;rfl
 |arr l=>obtain ⟨_,rfl⟩:=h;rfl
 |map a b=>obtain ⟨_,rfl⟩:=h;rfl
 |uA e l=>obtain ⟨_,rfl⟩:=h;rfl
 |dF l s=>obtain ⟨_,_,_,rfl⟩:=h;rfl
theorem aIP:∀(i n:Nat),(eF i n).length=n
 |_,0=>rfl
 |i,n+1=>by simp[eF,aIP (i+1) n]
theorem aHW:∀{l:List Nat},nodupB l=true→l.Nodup
 |[],_=>List.nodup_nil
 |a::r,h=>by
  simp only[nodupB,Bool.and_eq_true,Bool.not_eq_true',List.any_eq_false]at h
  refine List.nodup_cons.2 ⟨fun hm=> ?_,aHW h.2⟩
  exact h.1 a hm (by simp)
theorem aKu:∀{is:List Nat},aFv St is=true→∀i∈is,St[i]? =some .fresh
 |[],_,i,h=>by cases h
 |a::r,h,i,hi=>by
  simp only[aFv,Bool.and_eq_true]at h
  rcases List.mem_cons.1 hi with rfl |hi
  ·have:=h.1
   split at this
   ·assumption
   ·simp at this
  ·exact aKu h.2 i hi
theorem aHX (ids iC:List Nat):∀(is vs:List Nat) (os:List Obj),is.length=vs.length→is.length=os.length→(eO ids iC is vs os).map (·.1)=is
 |[],_,_,_,_=>by simp[eO]
 |i::is,[],_,h,_=>by simp at h
 |i::is,v::vs,[],_,h=>by simp at h
 |i::is,v::vs,o::os,h1,h2=>by simp only[eO,List.map_cons];rw[aHX ids iC is vs os (by simpa using h1) (by simpa using h2)]
theorem aD8:∀(us:List (Nat×Obj)) (S:Ev.St) (j:Nat),j∉us.map (·.1)→(aG us S)[j]? =S[j]?
 |[],_,_,_=>rfl
 |(i,o)::r,S,j,h=>by
  simp only[List.map_cons,List.mem_cons,not_or]at h
  simp only[aG]
  rw[aD8 r _ j h.2,List.getElem?_set_ne (Ne.symm h.1)]
theorem aJ3 (S0:Ev.St):∀(us:List (Nat×Obj)) (j:Nat),j∈(aB8 S0 us).map (·.1)→j∈us.map (·.1)
 |[],_,h=>h
 |p::r,j,h=>by
  simp only[aB8]at h
  split at h
  ·exact List.mem_cons_of_mem _ (aJ3 S0 r j h)
  ·simp only[List.map_cons,List.mem_cons]at h⊢
   rcases h with h |h
   ·exact .inl h
   ·exact .inr (aJ3 S0 r j h)
theorem aJm (S0:Ev.St) (ids iC:List Nat):∀(is vs:List Nat) (os:List Obj) (S:Ev.St) (j:Nat) (o:Obj),is.length=vs.length→is.length=os.length→is.Nodup→(∀i∈is,i<S.length)→os[j]? =some o→
 (aG (aB8 S0 (eO ids iC is vs os)) S)[is.getD j 0]? =if (aKh S0 (is.getD j 0)&&(Obj.lE ids iC (vs.getD j 0) o).cst)=true then S[is.getD j 0]? else some (Obj.lE ids iC (vs.getD j 0) o)
 |[],_,os,_,_,_,_,h,_,_,ho=>by
  have:os=[]:=List.eq_nil_of_length_eq_zero (by simpa using h.symm)
  subst this;simp at ho
 |i::is,[],_,_,_,_,h,_,_,_,_=>by simp at h
 |i::is,v::vs,[],_,_,_,_,h,_,_,_=>by simp at h
 |i::is,v::vs,o0::os,S,0,o,h1,h2,hnd,hlt,ho=>by
  simp only[List.getElem?_cons_zero,Option.some.injEq]at ho
  subst ho
  obtain ⟨hni,hnd⟩:=List.nodup_cons.1 hnd
  have hk:i∉(aB8 S0 (eO ids iC is vs os)).map (·.1):=fun h=>hni (by
   have:=aJ3 S0 _ _ h
   rw[aHX _ _ _ _ _ (by simpa using h1) (by simpa using h2)]at this;exact this)
  simp only[eO,aB8,List.getD_cons_zero]
  split
  ·rename_i hc
   rw[if_pos hc,aD8 _ _ _ hk]
  ·rename_i hc
   rw[if_neg (by rw[hc];simp)]
   simp only[aG]
   rw[aD8 _ _ _ hk]
   exact List.getElem?_set_self (hlt i (by simp))
 |i::is,v::vs,o0::os,S,j+1,o,h1,h2,hnd,hlt,ho=>by
  obtain ⟨hni,hnd⟩:=List.nodup_cons.1 hnd
  simp only[eO,aB8,List.getD_cons_succ]
  split
  ·exact aJm S0 ids iC is vs os S j o (by simpa using h1) (by simpa using h2) hnd (fun k hk=>hlt k (by simp[hk])) (by simpa using ho)
  ·simp only[aG]
   rw[aJm S0 ids iC is vs os _ j o (by simpa using h1) (by simpa using h2) hnd (fun k hk=>by simpa using hlt k (by simp[hk])) (by simpa using ho)]
   have hne:is.getD j 0≠i:=fun e=>hni (by
    have hj:j<is.length:=by
     have:=(List.getElem?_eq_some_iff.1 ho).1
     simp at this h2;omega
    rw[←e,List.getD_eq_getElem?_getD,List.getElem?_eq_getElem hj];exact List.getElem_mem hj)
   rw[List.getElem?_set_ne (Ne.symm hne)]
theorem aL0 {l:List Nat} {j i:Nat} (h:l[j]? =some i):l.getD j 0=i:=by simp[List.getD_eq_getElem?_getD,h]
theorem sZ.back {all iC:List Nat} (hb:a0N all iC jE eD kN xZ) {j id v:Nat} {o:Obj} (hid:kN.blk id=jE.blk j) (hc:kN.cap id=jE.cap j) (h:sZ P T S jE eD w j o):sZ P T S kN xZ w id (Obj.lE all iC v o):=by
 cases o with
 |fresh=>trivial
 |dead=>trivial
 |var l row=>
  obtain ⟨cur,e,h1,h2⟩:=h
  exact ⟨cur,e,by rw[hid];exact h1,h2⟩
 |cells c vs=>
  obtain ⟨cur,e,h1,h2,h3,h4⟩:=h
  refine ⟨cur,e,by rw[hid];exact h1,by rw[aAz];exact h2,fun i av hi=> ?_,h4⟩
  rw[aJl]at hi
  obtain ⟨u,hu,rfl⟩:=Option.map_eq_some_iff.1 hi
  exact (h3 i u hu).back hb
 |arr u l c=>
  cases u with
  |succ u=>trivial
  |zero=>
   rcases h with h |⟨rows,cur,e,i,q0,q1,q2,q3,q4,q5,q6,q7,q8⟩
   ·exact .inl h
   ·exact .inr ⟨rows,cur,e,i,q0,by rw[hid];exact q1,q2,q3,q4,by rw[hc];exact q5,by rw[hc];exact q6,by rw[hc];exact q7,q8⟩
 |uA u e l c=>
  cases u with
  |succ u=>trivial
  |zero=>
   rcases h with h |⟨rows,cur,e,i,q0,q1,q2,q3,q4,q5,q6,q7,q8,q9⟩
   ·exact .inl h
   ·exact .inr ⟨rows,cur,e,i,q0,by rw[hid];exact q1,q2,q3,q4,by rw[hc];exact q5,by rw[hc];exact q6,by rw[hc];exact q7,q8,by rw[hid];exact q9⟩
 |map kl vl es=>
  obtain ⟨oW,clock,h1,h2,h3⟩:=h
  exact ⟨oW,clock,by rw[hid];exact h1,h2,h3⟩
 |dF l c i av=>
  rcases h with h |⟨rows,cur,e,inf,q0,q1,q2,q3,q4,q5,q6,q7,q8,q9⟩
  ·exact .inl h
  ·exact .inr ⟨rows,cur,e,inf,q0,by rw[hid];exact q1,q2,q3,q4,by rw[hc];exact q5,by rw[hc];exact q6,by rw[hc];exact q7,q8,fun hi=>⟨(q9 hi).1,(q9 hi).2.1.back hb,(q9 hi).2.2⟩⟩
theorem aHY {all iC:List Nat} {v:Nat} {o:Obj} (h:(Obj.lE all iC v o).has=true):o.has=true∧(Obj.lE all iC v o).sn=o.sn:=by
 cases o with
 |arr u l c=>cases u<;>simp[Obj.lE,Obj.has]at h⊢;cases c<;>simp_all[Obj.has,Obj.sn]
 |uA u e l c=>cases u<;>simp[Obj.lE,Obj.has]at h⊢;cases c<;>simp_all[Obj.has,Obj.sn]
 |fresh=>simp[Obj.lE,Obj.has]at h
 |dead=>simp[Obj.lE,Obj.has]at h
 |dF l c i av=>cases c<;>simp_all[Obj.lE,Obj.has,Obj.sn]
 |_=>simp[Obj.lE,Obj.has,Obj.sn]
noncomputable def Pl.back (pl kN:Pl) (all:List Nat):Pl:=
 ⟨fun id=>if id∈all then kN.blk (all.idxOf id)else pl.blk id,fun id=>if id∈all then kN.cap (all.idxOf id)else pl.cap id⟩
theorem Pl.aBa {pl kN:Pl} {all:List Nat} (hnd:all.Nodup) {j:Nat} (hj:j<all.length):(pl.back kN all).blk (all.getD j 0)=kN.blk j∧(pl.back kN all).cap (all.getD j 0)=kN.cap j:=by
 have hm:all.getD j 0∈all:=by rw[List.getD_eq_getElem?_getD,List.getElem?_eq_getElem hj];exact List.getElem_mem hj
 have hi:all.idxOf (all.getD j 0)=j:=by
  rw[List.getD_eq_getElem?_getD,List.getElem?_eq_getElem hj]
  exact hnd.idxOf_getElem j hj
 simp only[Pl.back,if_pos hm,hi,and_self]
theorem Pl.aT2 {pl kN:Pl} {all:List Nat} {id:Nat} (h:id∉all):(pl.back kN all).blk id=pl.blk id∧(pl.back kN all).cap id=pl.cap id:=by
 simp only[Pl.back,if_neg h,and_self]
end Go.Ev
namespace Go.Ev
variable {E:Env} {P:Program} {T:Nat→gG} {S S' S2:fB} {pl jE kN:Pl} {St eD xZ:Ev.St} {F F':Fr} {a:Act} {w w':World}
theorem aSO {all iC:List Nat} (v:Nat) (o':Obj) (h:(Obj.lE all iC v o').cst=true):∃vs,o'= .cells true vs:=by
 cases o' with
 |cells c vs=>
  cases c with
  |true=>exact ⟨vs,rfl⟩
  |false=>simp[Obj.lE,Obj.cst]at h
 |arr u l c=>cases u<;>simp[Obj.lE,Obj.cst]at h
 |uA u e l c=>cases u<;>simp[Obj.lE,Obj.cst]at h
 |_=>simp[Obj.lE,Obj.cst]at h
theorem aPI {all iC:List Nat} (v:Nat) (o':Obj) (h:(Obj.lE all iC v o').cst=false):o'.cst=false:=by
 cases o' with
 |cells c vs=>
  cases c with
  |true=>simp[Obj.lE,Obj.cst]at h
  |false=>rfl
 |_=>rfl
theorem aVn {ids new all iC:List Nat} {en ex:List vO} {r r2:List PV} {St3:Ev.St} (hs:kW P T S pl St w) (hsub:kW P T S (pl.sub ids) eD w) (a27:eD=aGL en r) (a5D:xZ=aGL ex r2) (hs2:kW P T S2 kN xZ w')
 (hall:all=ids++new) (hfresh:∀i∈new,St[i]? =some .fresh) (hnd:all.Nodup) (hlen:xZ.length=all.length) (hlen':eD.length=ids.length) (hU:aGM en ex=true) (a1G:iC=all.map (aIL St))
 (aPJ:∀(j:Nat) (o':Obj),eD[j]? =some o'→∃o:Obj,St[ids.getD j 0]? =some o∧aKt o o'∧(o'.has=true→o.has=true))
 (hg:Grow (mW (pl.sub ids) eD) S w S2 w') (hown:∀b,mW (pl.sub ids) eD b→∃i∈ids,∃o,St[i]? =some o∧o.has=true∧o.cst=false∧pl.blk i=b)
 (hy:∀b,mW kN xZ b→mW (pl.sub ids) eD b∨w.heap.size≤b)
 (aQE:∀(j:Nat) (o o':Obj),eD[j]? =some o→xZ[j]? =some o'→((∃l row,o'= .var l row)∨(∃c vs,o'= .cells c vs)∨∃kl vl es,o'= .map kl vl es)→kN.blk j=(pl.sub ids).blk j)
 (a5E:aO8 (pl.sub ids) eD kN xZ)
 (a5F:St3=aG (aB8 St (eO all iC all iC xZ)) St):
 kW P T S2 (pl.back kN all) St3 w'∧Grow (mW pl St) S w S2 w'∧a0N all iC kN xZ (pl.back kN all) St3∧kD pl St (pl.back kN all) St3∧(∀b,mW (pl.back kN all) St3 b→mW pl St b∨w.heap.size≤b):=by
 have hvl:all.length=iC.length:=by rw[a1G];simp
 have dF:all.length=xZ.length:=hlen.symm
 have a0O:∀i∈all,i<St.length:=by
  intro i hi
  rw[hall]at hi
  rcases List.mem_append.1 hi with h |h
  ·obtain ⟨j,hj,rfl⟩:=List.getElem_of_mem h
   have hj':j<eD.length:=by omega
   obtain ⟨o,h1,_⟩:=aPJ j _ (List.getElem?_eq_getElem hj')
   rw[aL0 (List.getElem?_eq_getElem hj)]at h1
   exact (List.getElem?_eq_some_iff.1 h1).1
  ·exact (List.getElem?_eq_some_iff.1 (hfresh i h)).1
 have aVo:∀(j:Nat) (o':Obj),xZ[j]? =some o'→St3[all.getD j 0]? =if (aKh St (all.getD j 0)&&(Obj.lE all iC (iC.getD j 0) o').cst)=true then St[all.getD j 0]? else some (Obj.lE all iC (iC.getD j 0) o'):=fun j o' h=>by
  rw[a5F];exact aJm St all iC all iC xZ St j o' hvl dF hnd a0O h
 have aWr:∀id,id∉all→St3[id]? =St[id]? :=fun id h=>by
  rw[a5F];exact aD8 _ _ _ (fun q=>h (by have:=aJ3 _ _ _ q;rw[aHX _ _ _ _ _ hvl dF]at this;exact this))
 have aY4:∀(j:Nat) (o':Obj),xZ[j]? =some o'→aKh St (all.getD j 0)=true→o'.cst=true→
  ∃vs,St[all.getD j 0]? =some (.cells true vs)∧(∃vs',o'= .cells true vs')∧kN.blk j=pl.blk (all.getD j 0)∧¬mW (pl.sub ids) eD (pl.blk (all.getD j 0)):=fun j o' h hc hc'=>by
  have hv:∃vs,St[all.getD j 0]? =some (.cells true vs):=by
   unfold aKh at hc
   split at hc
   ·rename_i o e
    cases o with
    |cells c vs=>cases c with
     |true=>exact ⟨vs,e⟩
     |false=>simp[Obj.cst]at hc
    |_=>simp[Obj.cst]at hc
   ·simp at hc
  obtain ⟨vs,hv⟩:=hv
  have hv':∃vs',o'= .cells true vs':=by
   cases o' with
   |cells c vs'=>cases c with
    |true=>exact ⟨vs',rfl⟩
    |false=>simp[Obj.cst]at hc'
   |_=>simp[Obj.cst]at hc'
  obtain ⟨vs',rfl⟩:=hv'
  have hj:j<all.length:=by have:=(List.getElem?_eq_some_iff.1 h).1;omega
  have hj2:j<ids.length:=by
   rcases Nat.lt_or_ge j ids.length with q |q
   ·exact q
   ·exfalso
    have:all[j]? =some (all.getD j 0):=by rw[List.getD_eq_getElem?_getD,List.getElem?_eq_getElem hj];rfl
    rw[hall,List.getElem?_append_right q]at this
    have hf:=hfresh _ (List.mem_of_getElem? (hall▸this))
    rw[hv]at hf;cases hf
  have e:all.getD j 0=ids.getD j 0:=by
   rw[hall,List.getD_eq_getElem?_getD,List.getD_eq_getElem?_getD,List.getElem?_append_left hj2]
  refine ⟨vs,hv,⟨vs',rfl⟩, ?_,fun hq=> ?_⟩
  ·rw[aQE j _ _ (List.getElem?_eq_getElem (by omega)) h (.inr (.inl ⟨_,_,rfl⟩)),e];rfl
  ·obtain ⟨i,_,o,h1,h2,h3,h4⟩:=hown _ hq
   have:=hs.inj i _ o _ h1 hv h2 rfl h4
   subst this
   rw[hv]at h1;obtain rfl:=Option.some.inj h1
   simp[Obj.cst]at h3
 have a29:∀(j:Nat) (o':Obj),xZ[j]? =some o'→o'.cst=true→aKh St (all.getD j 0)=true:=fun j o' h hc=>by
  have hj:j<all.length:=by have:=(List.getElem?_eq_some_iff.1 h).1;omega
  obtain ⟨s2,k3,k4⟩:=aD7 ex r2 j o' (by rw[←a5D];exact h)
  have hc2:s2.cst=true:=by rw[←aT1 k4];exact hc
  have hen:en.length=ids.length:=by rw[←hlen',a27,aFA]
  rcases Nat.lt_or_ge j ids.length with q |q
  ·have hj3:j<eD.length:=by omega
   obtain ⟨s1,k1,k2⟩:=aD7 en r j eD[j] (by rw[←a27];exact List.getElem?_eq_getElem hj3)
   obtain ⟨_,_,_,_,_,_,_,q5⟩:=aGT hU k1 k3
   have hc1:=q5 hc2
   rw[←aT1 k2]at hc1
   obtain ⟨o,h1,h2,h3⟩:=aPJ j _ (List.getElem?_eq_getElem hj3)
   have hh:(eD[j]).has=true:=by
    generalize eD[j]=o9 at hc1
    cases o9<;>simp_all[Obj.cst,Obj.has]
   have e:all.getD j 0=ids.getD j 0:=by
    rw[hall,List.getD_eq_getElem?_getD,List.getD_eq_getElem?_getD,List.getElem?_append_left q]
   unfold aKh
   rw[e,h1]
   simp only
   rw[h2.cst hh];exact hc1
  ·have:=aRR hU (by omega) k3
   rw[this]at hc2;cases hc2
 have split:∀(id:Nat) (o:Obj),St3[id]? =some o→(∃j o',j<all.length∧id=all.getD j 0∧xZ[j]? =some o'∧o=Obj.lE all iC (iC.getD j 0) o'∧o.cst=false)∨
  (¬mW (pl.sub ids) eD (pl.blk id)∨o.has=false)∧St[id]? =some o∧(pl.back kN all).blk id=pl.blk id∧(id∉all∧(pl.back kN all).cap id=pl.cap id∨∃j o' vs,j<all.length∧id=all.getD j 0∧xZ[j]? =some o'∧o'.has=true∧kN.blk j=pl.blk id∧o= .cells true vs):=by
  intro id o h
  by_cases hid:id∈all
  ·obtain ⟨j,hj,rfl⟩:=List.getElem_of_mem hid
   have e:=aL0 (List.getElem?_eq_getElem hj)
   have hj2:j<xZ.length:=by omega
   have hS2:=List.getElem?_eq_getElem hj2
   have:=aVo j _ hS2
   rw[e,h]at this
   by_cases hc:(xZ[j]).cst=true
   ·have hca:=a29 j _ hS2 hc
    obtain ⟨vs,v1,⟨vs',v2⟩,v3,v4⟩:=aY4 j _ hS2 hca hc
    rw[e]at hca v1 v3 v4
    have hrc:(Obj.lE all iC (iC.getD j 0) xZ[j]).cst=true:=by rw[v2];rfl
    rw[if_pos (by rw[hca,hrc];rfl),v1]at this
    obtain rfl:=Option.some.inj this
    have hb:=(Pl.aBa (pl:=pl) (kN:=kN) hnd hj).1
    rw[e]at hb
    exact .inr ⟨.inl v4,v1,hb.trans v3, .inr ⟨j,_,vs,hj,e.symm,hS2,by rw[v2];rfl,v3,rfl⟩⟩
   ·have hrc:(Obj.lE all iC (iC.getD j 0) xZ[j]).cst=false:=by
     cases hq:(Obj.lE all iC (iC.getD j 0) xZ[j]).cst with
     |false=>rfl
     |true=>obtain ⟨vs,q⟩:=aSO _ _ hq;rw[q]at hc;exact absurd rfl hc
    rw[if_neg (by rw[hrc];simp)]at this
    obtain rfl:=Option.some.inj this
    exact .inl ⟨j,xZ[j],hj,e.symm,hS2,rfl,hrc⟩
  ·rw[aWr id hid]at h
   obtain ⟨b1,b2⟩:=Pl.aT2 (pl:=pl) (kN:=kN) hid
   refine .inr ⟨?_,h,b1, .inl ⟨hid,b2⟩⟩
   by_cases hh:o.has=true
   ·refine .inl fun hq=> ?_
    obtain ⟨i,hi,o1,h1,h2,h3,h4⟩:=hown _ hq
    have:=hs.inj i id o1 o h1 h h2 hh h4
    subst this
    exact hid (by rw[hall];exact List.mem_append_left _ hi)
   ·exact .inr (by simpa using hh)
 have a1H:a0N all iC kN xZ (pl.back kN all) St3:=by
  intro j o' ho'
  have hj:j<all.length:=by have:=(List.getElem?_eq_some_iff.1 ho').1;omega
  have hg:=aVo j o' ho'
  by_cases hc:(aKh St (all.getD j 0)&&(Obj.lE all iC (iC.getD j 0) o').cst)=true
  ·rw[if_pos hc]at hg
   simp only[Bool.and_eq_true]at hc
   obtain ⟨vs',q⟩:=aSO _ _ hc.2
   obtain ⟨vs,v1,_⟩:=aY4 j o' ho' hc.1 (by rw[q];rfl)
   exact ⟨_,hg.trans v1, .inr ⟨⟨vs,rfl⟩,vs',q⟩,Pl.aBa hnd hj⟩
  ·rw[if_neg hc]at hg
   exact ⟨_,hg, .inl rfl,Pl.aBa hnd hj⟩
 have aY5:∀b,mW (pl.sub ids) eD b→mW pl St b:=fun b h=>by
  obtain ⟨i,_,o,h1,h2,h3⟩:=hown b h
  exact ⟨i,o,h1,h2,h3⟩
 have hgrow:Grow (mW pl St) S w S2 w':=⟨hg.os,hg.tape,hg.output,hg.size,fun b hb hn=>hg.block b hb (fun h=>hn (aY5 b h)),hg.mono,fun b off hb hn=>hg.new b off hb (fun h=>hn (aY5 b h))⟩
 have kept:kD pl St (pl.back kN all) St3:=by
  intro id o h hf
  by_cases hid:id∈all
  ·obtain ⟨j,hj,e⟩:=List.getElem_of_mem hid
   have bBz:id∈ids:=by
    rw[hall]at hid
    rcases List.mem_append.1 hid with q |q
    ·exact q
    ·exact absurd (Option.some.inj ((hfresh id q).symm.trans h)).symm hf
   have hj2:j<ids.length:=by
    rcases Nat.lt_or_ge j ids.length with q |q
    ·exact q
    ·exfalso
     have hni:id∈new:=by
      have:all[j]? =some id:=by rw[List.getElem?_eq_getElem hj,e]
      rw[hall,List.getElem?_append_right q]at this
      exact List.mem_of_getElem? this
     exact absurd (Option.some.inj ((hfresh id hni).symm.trans h)).symm hf
   have ei:ids.getD j 0=id:=by
    have h1:all[j]? =some id:=by rw[List.getElem?_eq_getElem hj,e]
    rw[hall,List.getElem?_append_left hj2]at h1
    exact aL0 h1
   have ea:all.getD j 0=id:=aL0 (by rw[List.getElem?_eq_getElem hj,e])
   have hj3:j<eD.length:=by omega
   have hj4:j<xZ.length:=by omega
   have aPK:eD[j]? =some eD[j]:=List.getElem?_eq_getElem hj3
   have aN6:xZ[j]? =some xZ[j]:=List.getElem?_eq_getElem hj4
   generalize ho1:eD[j]=o1 at aPK
   generalize ho2:xZ[j]=o2 at aN6
   obtain ⟨o0,d1,d2,d3⟩:=aPJ j o1 aPK
   rw[ei,h]at d1;obtain rfl:=Option.some.inj d1
   have hs1:∃s,en[j]? =some s∧aY3 s o1:=aD7 en r j o1 (by rw[←a27];exact aPK)
   have a8N:∃s,ex[j]? =some s∧aY3 s o2:=aD7 ex r2 j o2 (by rw[←a5D];exact aN6)
   obtain ⟨s1,k1,k2⟩:=hs1
   obtain ⟨s2,k3,k4⟩:=a8N
   obtain ⟨_,q1,q2,q3,q4,q5⟩:=aGT hU k1 k3
   have aYZ:iC.getD j 0=aIL St id:=by
    rw[a1G]
    simp[List.getD_eq_getElem?_getD,List.getElem?_map,List.getElem?_eq_getElem hj,e]
   obtain ⟨b1,b2⟩:=Pl.aBa (pl:=pl) (kN:=kN) hnd hj
   rw[ea]at b1 b2
   have hg3:=aVo j o2 aN6
   rw[ea]at hg3
   have hsb:(pl.sub ids).blk j=pl.blk id:=by show pl.blk (ids.getD j 0)=_;rw[ei]
   by_cases hcc:(aKh St id&&(Obj.lE all iC (iC.getD j 0) o2).cst)=true
   ·rw[if_pos hcc]at hg3
    simp only[Bool.and_eq_true]at hcc
    obtain ⟨vs',q⟩:=aSO _ _ hcc.2
    obtain ⟨vs,v1,_,v3,_⟩:=aY4 j o2 aN6 (by rw[ea];exact hcc.1) (by rw[q];rfl)
    rw[ea]at v1 v3
    rw[h]at v1;obtain rfl:=Option.some.inj v1
    exact ⟨_,hg3.trans h,hf,fun l row e=>(by cases e),fun c vs e=>⟨⟨_,_,rfl⟩,b1.trans v3⟩,fun v l' c e=>(by cases e),fun _ _ _ _ e=>(by cases e),fun _ _ _ e=>(by cases e),fun _ _ _ _ e=>(by cases e)⟩
   rw[if_neg hcc]at hg3
   refine ⟨_,hg3,aLX _ _ _ _,fun l row e=> ?_,fun c vs e=> ?_,fun v l c e=> ?_,fun v e l c q=> ?_,fun kl vl es e=> ?_,fun l c i av e=> ?_⟩
   ·have e:=aWn e
    subst e
    cases s2 with
    |var l2=>
     obtain ⟨l0,rfl⟩:=q1 _ rfl
     obtain ⟨aYY,rfl⟩:=k2
     obtain ⟨l9,a8O,rfl⟩:=d2.2.1 _ _ rfl
     exact ⟨⟨_,_,rfl⟩,by rw[b1,aQE j _ _ aPK aN6 (.inl ⟨_,_,rfl⟩),hsb]⟩
    |cells c vs=>cases vs with
     |nil=>cases k4
     |cons _ _=>obtain ⟨_,q⟩:=k4;cases q
    |arr l=>obtain ⟨_,q⟩:=k4;cases q
    |map kl vl=>obtain ⟨_,q⟩:=k4;cases q
    |uA e l=>obtain ⟨_,q⟩:=k4;cases q
    |dF l s=>obtain ⟨_,_,_,q⟩:=k4;cases q
   ·obtain ⟨vs0,e,_⟩:=aRQ e
    subst e
    cases s2 with
    |cells c2 vs2=>cases vs2 with
     |nil=>cases k4
     |cons v2 vs2=>
      obtain ⟨c0,v1,vs1,rfl⟩:=q2 _ _ _ rfl
      obtain ⟨vs9,rfl⟩:=k2
      obtain ⟨l9,a8O,rfl⟩:=d2.2.2.1 _ _ rfl
      exact ⟨⟨_,_,rfl⟩,by rw[b1,aQE j _ _ aPK aN6 (.inr (.inl ⟨_,_,rfl⟩)),hsb]⟩
    |var l=>obtain ⟨_,q⟩:=k4;cases q
    |arr l=>obtain ⟨_,q⟩:=k4;cases q
    |map kl vl=>obtain ⟨_,q⟩:=k4;cases q
    |uA e l=>obtain ⟨_,q⟩:=k4;cases q
    |dF l s=>obtain ⟨_,_,_,q⟩:=k4;cases q
   ·obtain ⟨eq1,eq2⟩:=aWo e
    subst eq1;subst eq2
    cases s2 with
    |arr l2=>
     have:=q3 _ rfl
     subst this
     obtain ⟨c0,q⟩:=k4
     simp only[Obj.arr.injEq,true_and]at q
     obtain ⟨rfl,rfl⟩:=q
     obtain ⟨c1,rfl⟩:=k2
     obtain ⟨_,v0,rfl⟩:=d2.2.2.2.1 _ _ _ rfl
     rw[aYZ]
     simp only[aIL,h]
     exact ⟨v0,_,rfl,Nat.le_succ _,fun q=>by omega⟩
    |cells c vs=>cases vs with
     |nil=>cases k4
     |cons _ _=>obtain ⟨_,q⟩:=k4;cases q
    |var l=>obtain ⟨_,q⟩:=k4;cases q
    |map kl vl=>obtain ⟨_,q⟩:=k4;cases q
    |uA e l=>obtain ⟨_,q⟩:=k4;cases q
    |dF l s=>obtain ⟨_,_,_,q⟩:=k4;cases q
   ·obtain ⟨eq1,eq2⟩:=aT0 q
    subst eq1;subst eq2
    cases s2 with
    |uA e2 l2=>
     have:=q5.1 _ _ rfl
     subst this
     obtain ⟨c0,q⟩:=k4
     simp only[Obj.uA.injEq,true_and]at q
     obtain ⟨rfl,rfl,rfl⟩:=q
     obtain ⟨c1,rfl⟩:=k2
     obtain ⟨_,v0,rfl⟩:=d2.2.2.2.2.2.1 _ _ _ _ rfl
     rw[aYZ]
     simp only[aIL,h]
     exact ⟨v0,_,rfl,Nat.le_succ _,fun q=>by omega⟩
    |cells c vs=>cases vs with
     |nil=>cases k4
     |cons _ _=>obtain ⟨_,q⟩:=k4;cases q
    |var l=>obtain ⟨_,q⟩:=k4;cases q
    |map kl vl=>obtain ⟨_,q⟩:=k4;cases q
    |arr l=>obtain ⟨_,q⟩:=k4;cases q
    |dF l s=>obtain ⟨_,_,_,q⟩:=k4;cases q
   ·have e:=aWp e
    subst e
    cases s2 with
    |map kl2 vl2=>
     obtain ⟨kl0,vl0,rfl⟩:=q4 _ _ rfl
     obtain ⟨es0,rfl⟩:=k2
     obtain ⟨kl9,vl9,es9,rfl⟩:=d2.2.2.2.2.1 _ _ _ rfl
     exact ⟨⟨_,_,_,rfl⟩,by rw[b1,aQE j _ _ aPK aN6 (.inr (.inr ⟨_,_,_,rfl⟩)),hsb]⟩
    |cells c vs=>cases vs with
     |nil=>cases k4
     |cons _ _=>obtain ⟨_,q⟩:=k4;cases q
    |var l=>obtain ⟨_,q⟩:=k4;cases q
    |arr l=>obtain ⟨_,q⟩:=k4;cases q
    |uA e l=>obtain ⟨_,q⟩:=k4;cases q
    |dF l s=>obtain ⟨_,_,_,q⟩:=k4;cases q
   ·obtain ⟨av0,e⟩:=aWq e
    subst e
    obtain ⟨c0,i0,av1,rfl,n1,r1⟩:=a5E j o1 l c i av0 aPK aN6
    obtain ⟨av2,rfl⟩:=d2.2.2.2.2.2.2.1 _ _ _ _ rfl
    have hsc:(pl.sub ids).cap j=pl.cap id:=by show pl.cap (ids.getD j 0)=_;rw[ei]
    exact ⟨c0,i0,av2,rfl,n1,fun rows hq=>let ⟨nH,x1,x2,x3,x4⟩:=r1 rows hq;⟨nH,x1,x2,b1.trans (x3.trans hsb),b2.trans (x4.trans hsc)⟩⟩
  ·obtain ⟨b1,b2⟩:=Pl.aT2 (pl:=pl) (kN:=kN) hid
   exact ⟨o,by rw[aWr id hid];exact h,hf,kD.same b1 b2⟩
 have aO9:∀{id:Nat} {o:Obj},(¬mW (pl.sub ids) eD (pl.blk id)∨o.has=false)→o.has=true→¬mW (pl.sub ids) eD (pl.blk id):=fun h hh=>h.resolve_right (by rw[hh];simp)
 refine ⟨⟨hs2.aCk,fun id o h=> ?_,fun id o h hh off hoff=> ?_,fun i j o o' hi hj h1 h2 hbb=> ?_,hs2.zL,fun g t l row e=>⟨(hs2.glo g t l row e).1,fun id o h hh=> ?_⟩⟩,hgrow,a1H,kept,fun b hb=> ?_⟩
 ·rcases split id o h with ⟨j,o',hj,rfl,h2,rfl,_⟩|⟨hno,h2,b1,hq⟩
  ·obtain ⟨b1,b2⟩:=Pl.aBa (pl:=pl) (kN:=kN) hnd hj
   exact (hs2.objs j o' h2).back a1H b1 b2
  ·rcases hq with ⟨hid,b2⟩|⟨j,o',vs,_,_,_,_,_,rfl⟩
   ·exact (hs.objs id o h2).keep kept hg.mono b1 b2 (fun hh=>hg.block _ (hs.n9 h2 hh) (aO9 hno hh))
   ·obtain ⟨cur,e,z1,z2,z3,z4⟩:=hs.objs id _ h2
    exact ⟨cur,e,by rw[b1,hg.block _ (hs.n9 h2 rfl) (aO9 hno rfl)];exact z1,z2,fun i av hi=>(z3 i av hi).keep kept hg.mono,z4⟩
 ·rcases split id o h with ⟨j,o',hj,rfl,h2,rfl,_⟩|⟨hno,h2,b1,_⟩
  ·obtain ⟨b1,b2⟩:=Pl.aBa (pl:=pl) (kN:=kN) hnd hj
   obtain ⟨g1,g2⟩:=aHY hh
   rw[b1];exact hs2.apart j o' h2 g1 off (by rw[←g2];exact hoff)
  ·rw[b1,hg.new _ _ (hs.n9 h2 hh) (aO9 hno hh)]
   exact hs.apart id o h2 hh off hoff
 ·have mixed:∀(j id:Nat) (o' o:Obj),j<all.length→xZ[j]? =some o'→o'.has=true→o'.cst=false→(¬mW (pl.sub ids) eD (pl.blk id)∨o.has=false)→St[id]? =some o→o.has=true→kN.blk j=pl.blk id→False:=by
   intro j id o' o hj h2 hh hc hno h hh2 hb
   rcases hy (kN.blk j) ⟨j,o',h2,hh,hc,rfl⟩with q |q
   ·rw[hb]at q;exact aO9 hno hh2 q
   ·have:=hs.n9 h hh2;omega
  rcases split i o hi with ⟨k,o1,hk,rfl,g1,rfl,gc⟩|⟨hno,g1,b1,_⟩
  ·obtain ⟨b1,_⟩:=Pl.aBa (pl:=pl) (kN:=kN) hnd hk
   rcases split j o' hj with ⟨k',o1',hk',rfl,g1',rfl,gc'⟩|⟨a5H,g1',b1',_⟩
   ·obtain ⟨b1',_⟩:=Pl.aBa (pl:=pl) (kN:=kN) hnd hk'
    rw[b1,b1']at hbb
    rw[hs2.inj k k' o1 o1' g1 g1' (aHY h1).1 (aHY h2).1 hbb]
   ·rw[b1,b1']at hbb
    exact (mixed k j o1 o' hk g1 (aHY h1).1 (aPI _ _ gc) a5H g1' h2 hbb).elim
  ·rcases split j o' hj with ⟨k',o1',hk',rfl,g1',rfl,gc'⟩|⟨a5H,g1',b1',_⟩
   ·obtain ⟨b1',_⟩:=Pl.aBa (pl:=pl) (kN:=kN) hnd hk'
    rw[b1,b1']at hbb
    exact (mixed k' i o1' o hk' g1' (aHY h2).1 (aPI _ _ gc') hno g1 h1 hbb.symm).elim
   ·rw[b1,b1']at hbb
    exact hs.inj i j o o' g1 g1' h1 h2 hbb
 ·rcases split id o h with ⟨j,o',hj,rfl,h2,rfl,_⟩|⟨hno,h2,b1,_⟩
  ·obtain ⟨b1,_⟩:=Pl.aBa (pl:=pl) (kN:=kN) hnd hj
   rw[b1];exact (hs2.glo g t l row e).2 j o' h2 (aHY hh).1
  ·rw[b1];exact (hs.glo g t l row e).2 id o h2 hh
 ·obtain ⟨id,o,h,hh,hc,hbb⟩:=hb
  rcases split id o h with ⟨j,o',hj,rfl,h2,rfl,_⟩|⟨hno,h2,b1,_⟩
  ·obtain ⟨b1,_⟩:=Pl.aBa (pl:=pl) (kN:=kN) hnd hj
   rw[b1]at hbb
   rcases hy b ⟨j,o',h2,(aHY hh).1,aPI _ _ hc,hbb⟩with q |q
   ·exact .inl (aY5 b q)
   ·exact .inr q
  ·rw[b1]at hbb
   exact .inl ⟨id,o,h2,hh,hc,hbb⟩
theorem aPL (hs:kW P T S pl St w) (hF:wX P T S pl St F a.tmps):∀(xs:List Operand) (axs:List zC),nG P T xs axs=true→xs.length=axs.length∧∀i av,(axs.map (·.ev F))[i]? =some av→eB P T S pl St av ((xs.map a.eval).getD i undef)
 |[],[],_=>⟨rfl,fun i av h=>by simp at h⟩
 |[],_::_,h=>by simp[nG]at h
 |_::_,[],h=>by simp[nG]at h
 |x::xs,ax::axs,h=>by
  simp only[nG,Bool.and_eq_true]at h
  obtain ⟨h1,h2⟩:=aPL hs hF xs axs h.2
  refine ⟨by simp[h1],fun i av hi=> ?_⟩
  cases i with
  |zero=>simp at hi;subst hi;simpa using nC hs h.1 hF
  |succ i=>simpa using h2 i av (by simpa using hi)
theorem aN7 (l:List Value) (n:Nat) (h:l.length=n):(List.range n).map (fun i=>l.getD i undef)=l:=by
 apply List.ext_getElem?
 intro i
 by_cases hi:i<l.length
 ·simp[←h,hi]
 ·simp[←h,hi]
theorem aSP {A:Type} {o:Oper} {x:Operand} {xs:Array Operand} {ts:Array TypeId} {f:Nat} {ax:Option zC} {axs:List zC} {k:List AV→Option A} {res:A} (hs:kW P T S pl St w) (hF:wX P T S pl St F a.tmps)
 (ho:o.op= .call {callee:= .value x,args:=xs,argTypes:=ts}) (hxs:nG P T xs.toList axs=true)
 (hx:aO6 P T x f ax=true) (h:nN F f ax axs k=some res):
 ∃(vs:List AV) (vals:Nat→Value),k vs=some res∧(∀j u,vs[j]? =some u→eB P T S pl St u (vals j))∧
  (execOp a.eval o).run P w=(callFunc f ((List.range vs.length).map vals).toArray).run P w:=by
 obtain ⟨hl,hv⟩:=aPL hs hF _ _ hxs
 have e0:(List.map a.eval xs.toList).toArray=Array.map a.eval xs:=by apply Array.ext';simp
 unfold nN at h
 split at h
 ·refine ⟨_,fun i=>(xs.toList.map a.eval).getD i undef,h,hv, ?_⟩
  simp only[aO6]at hx
  unfold a1F at hx
  split at hx
  ·rename_i f' ho
   obtain rfl:=Nat.eq_of_beq_eq_true hx
   have e:((List.range (axs.map (·.ev F)).length).map fun i=>(xs.toList.map a.eval).getD i undef)=xs.toList.map a.eval:=aN7 _ _ (by simpa using hl)
   rw[e,e0]
   unfold execOp
   simp[ho,resolve,Deferred.ofValue,invoke,Act.eval]
  ·simp at hx
 ·rename_i ay
  split at h
  ·rename_i f' caps ey
   obtain ⟨hb,hk⟩:=iA h
   obtain rfl:=Nat.eq_of_beq_eq_true hb
   simp only[aO6]at hx
   have hvx:=nC hs hx hF
   rw[ey]at hvx
   generalize hq:a.eval x=q at hvx
   cases hvx with
   |fn cv hcv=>
    refine ⟨_,fun i=>if i<axs.length then (xs.toList.map a.eval).getD i undef else cv (i - axs.length),hk,fun j u hj=> ?_, ?_⟩
    ·by_cases hjl:j<axs.length
     ·rw[List.getElem?_append_left (by simpa using hjl)]at hj
      simp only[if_pos hjl];exact hv j u hj
     ·rw[List.getElem?_append_right (by simp;omega)]at hj
      simp only[if_neg hjl]
      simpa using hcv _ u hj
    ·have e:((List.range (axs.map (·.ev F)++caps).length).map fun i=>if i<axs.length then (xs.toList.map a.eval).getD i undef else cv (i - axs.length))=xs.toList.map a.eval++(List.range caps.length).map cv:=by
      apply List.ext_getElem?
      intro i
      by_cases h1:i<axs.length
      ·rw[List.getElem?_append_left (by simp at hl;simp;omega)]
       have h2:i<xs.size:=by simp at hl;omega
       have h3:i<axs.length+caps.length:=by omega
       simp[h1,h2,h3]
      ·rw[List.getElem?_append_right (by simp at hl;simp;omega)]
       have h4:xs.size=axs.length:=by simpa using hl
       by_cases h2:i<axs.length+caps.length
       ·have h5:i - axs.length<caps.length:=by omega
        simp[h1,h2,h4,h5]
       ·have h5:¬i - axs.length<caps.length:=by omega
        simp[h1,h2,h4,h5]
     rw[e]
     unfold execOp
     simp[ho,resolve,Deferred.ofValue,invoke,hq]
     congr 2
     apply Array.ext'
     simp
  ·simp at h
theorem aY6 {sL:List AV} {vs:List Value} (hl:vs.length=sL.length) (h:∀i av,sL[i]? =some av→eB P T S pl St av (vs.getD i Go.undef)):eB P T S pl St (a2c sL) (aKO vs):=by
 have tup:eB P T S pl St (.tup sL) (.tuple vs.toArray):=by
  have:=eB.tup (P:=P) (T:=T) (S:=S) (pl:=pl) (St:=St) (sL:=sL) (fun i=>vs.getD i Go.undef) h
  rw[aN7 vs sL.length hl]at this;exact this
 match sL,vs,hl with
 |[v],[u],_=>simpa[a2c,aKO]using h 0 v rfl
 |[],[],_=>exact tup
 |_::_::_,_::_::_,_=>exact tup
theorem a0R {o:Oper} {base i f new:Nat} {en ex:Shape} {ids:List Nat} {ax:Option zC} {axs:List zC} {av:AV} {us:List (Nat×Obj)} {rd:List Nat} (hs:kW P T S pl St w) (hF:wX P T S pl St F a.tmps) (hic:a5C P T E.ic)
 (hok:oG P T o.op (.nB i f en ex ids new ax axs)=true)
 (h:opK E F St (.nB i f en ex ids new ax axs) base (fun v us rd=>some (v,us,rd))=some (av,us,rd)):qE P o a w (aB P T S pl St w (aG us St) av):=by
 simp only[oG]at hok
 split at hok
 ·rename_i x xs ts ho
  simp only[Bool.and_eq_true]at hok
  obtain ⟨⟨hT,hxs⟩,hx⟩:=hok
  split at hT
  ·rename_i af hTi
   simp only[Bool.and_eq_true]at hT
   obtain rfl:=Nat.eq_of_beq_eq_true hT.1.1
   obtain rfl:=Shape.beq_eq hT.1.2
   obtain rfl:=Shape.beq_eq hT.2
   simp only[opK]at h
   obtain ⟨vs,vals,h1,hv,hrun⟩:=aSP hs hF ho hxs hx h
   obtain ⟨hck,h2⟩:=iA h1
   simp only[Bool.and_eq_true]at hck
   obtain ⟨⟨⟨⟨⟨c1,c2⟩,c3⟩,c4⟩,c5⟩,c6⟩:=hck
   obtain ⟨ps,hp,h3⟩:=Option.bind_eq_some_iff.1 h2
   obtain ⟨ps',hc,h4⟩:=Option.bind_eq_some_iff.1 h3
   have hle:ids.length≤af.exit.objs.length:=by simpa using c5
   have hnd:=aHW c4
   have a8S:ids.Nodup:=(List.nodup_append.1 hnd).1
   obtain ⟨sL,r,eD,g1,g2,g3,g4,g5,g6,g7,g8,g9,g10⟩:=aTZ hs a8S c1 hv hp
   obtain ⟨e1,e2⟩:=hic i af hTi ps ps' hc S (pl.sub ids) eD w sL r vals g1 g2 g7 g8
   intro next Q hn
   unfold Oper.wp
   rw[hrun,←g3,e1,Oper.upon_enter]
   refine e2.mono fun e w' he=> ?_
   obtain ⟨S2,kN,xZ,aLY,r2,out,k1,k2,rfl,k4,k5,k6,k7,k8,k9⟩:=he
   rw[k1]at h4
   simp only[Option.some.injEq,Prod.mk.injEq]at h4
   obtain ⟨rfl,rfl,rfl⟩:=h4
   rw[←k2]at hn
   have a5I:xZ.length=(ids++eF (base+new) (af.exit.objs.length - ids.length)).length:=by
    rw[k2,aFA,List.length_append,aIP];omega
   obtain ⟨p1,p2,p3,p4,p5⟩:=aVn (ids:=ids) (new:=eF (base+new) (af.exit.objs.length - ids.length)) (all:=ids++eF (base+new) (af.exit.objs.length - ids.length)) hs g7 g2 k2 k5 rfl (aKu c3) hnd a5I g4 c6 rfl g10 k6 g9 k8 k9.1 k9.2 rfl
   refine hn _ _ ⟨S2,_,p1,p2, ?_,fun _ _ hq=>hq.keep p4 p2.mono,p5⟩
   refine aY6 (by rw[aAz];exact k4) (fun j u hj=> ?_)
   rw[aJl]at hj
   obtain ⟨u0,hu0,rfl⟩:=Option.map_eq_some_iff.1 hj
   exact (k7 j u0 hu0).back p3
  ·simp at hT
 ·simp at hok
end Go.Ev
