/-
  Calls to which objects are handed: what comes in, renumbered.
-/
import Derived.Test.YtdhebofenihjmaaGreatDoorEvMm
set_option linter.all false
set_option maxRecDepth 100000
namespace Go.Ev
variable {E:Env} {P:Program} {T:Nat→yF} {S S':yA} {pl wD:Pl} {St dD:Ev.St} {F F':Fr} {a:Act} {w w' w0:World}
def aOO (o o':Obj):Prop:=
 o'≠ .fresh∧(∀l row,o'= .var l row→∃l0 a6U,o= .var l0 a6U)∧(∀c vs,o'= .cells c vs→∃c0 vs0,o= .cells c0 vs0)∧
 (∀v l c,o'= .arr v l c→v=0∧∃v0,o= .arr v0 l c)∧(∀kl vl es,o'= .map kl vl es→∃kl0 vl0 es0,o= .map kl0 vl0 es0)∧
 (∀v e l c,o'= .zA v e l c→v=0∧∃v0,o= .zA v0 e l c)∧
 (∀l c i av,o'= .vE l c i av→∃av0,o= .vE l c i av0)∧
 (∀c vs c0 vs0,o'= .cells c vs→o= .cells c0 vs0→c0=c)
theorem aOO.cst {o o':Obj} (h:aOO o o') (hh:o'.has=true):o.cst=o'.cst:=by
 obtain ⟨h0,h1,h2,h3,h4,h5,h6,h7⟩:=h
 cases o' with
 |fresh=>simp[Obj.has]at hh
 |dead=>simp[Obj.has]at hh
 |var l row=>obtain ⟨_,_,rfl⟩:=h1 _ _ rfl;rfl
 |cells c vs=>
  obtain ⟨c0,_,rfl⟩:=h2 _ _ rfl
  rw[h7 _ _ _ _ rfl rfl]
  cases c<;>rfl
 |arr v l c=>obtain ⟨_,_,rfl⟩:=h3 _ _ _ rfl;rfl
 |map a b c=>obtain ⟨_,_,_,rfl⟩:=h4 _ _ _ rfl;rfl
 |zA v e l c=>obtain ⟨_,_,rfl⟩:=h5 _ _ _ _ rfl;rfl
 |vE l rows i av=>obtain ⟨_,rfl⟩:=h6 _ _ _ _ rfl;rfl
theorem aOO.sn {o o':Obj} (h:aOO o o') (hh:o'.has=true):o.sn=o'.sn:=by
 obtain ⟨h0,h1,h2,h3,h4,h5,h6,h7⟩:=h
 cases o' with
 |fresh=>simp[Obj.has]at hh
 |dead=>simp[Obj.has]at hh
 |var l row=>obtain ⟨_,_,rfl⟩:=h1 _ _ rfl;rfl
 |cells c vs=>obtain ⟨_,_,rfl⟩:=h2 _ _ rfl;rfl
 |arr v l c=>obtain ⟨_,_,rfl⟩:=h3 _ _ _ rfl;rfl
 |map a b c=>obtain ⟨_,_,_,rfl⟩:=h4 _ _ _ rfl;rfl
 |zA v e l c=>obtain ⟨_,_,rfl⟩:=h5 _ _ _ _ rfl;rfl
 |vE l rows i av=>obtain ⟨_,rfl⟩:=h6 _ _ _ _ rfl;rfl
def Ren (ids:List Nat) (pl:Pl) (St:Ev.St) (wD:Pl) (dD:Ev.St):Prop:=
 (∀j:Nat,j<ids.length→∃o':Obj,dD[j]? =some o')∧
 (∀(j:Nat) (o':Obj),dD[j]? =some o'→∃o:Obj,St[ids.getD j 0]? =some o∧aOO o o'∧wD.blk j=pl.blk (ids.getD j 0)∧wD.cap j=pl.cap (ids.getD j 0))
theorem Ren.get {ids:List Nat} {j:Nat} {o:Obj} (hd:Ren ids pl St wD dD) (hlt:j<ids.length) (ho:St[ids.getD j 0]? =some o):∃o',dD[j]? =some o'∧aOO o o'∧wD.blk j=pl.blk (ids.getD j 0)∧wD.cap j=pl.cap (ids.getD j 0):=by
 obtain ⟨o',h⟩:=hd.1 j hlt
 obtain ⟨o2,h2,h3⟩:=hd.2 j o' h
 rw[ho]at h2;obtain rfl:=Option.some.inj h2
 exact ⟨o',h,h3⟩
def InV (P:Program) (T:Nat→yF) (S:yA) (ids:List Nat) (pl:Pl) (St:Ev.St) (s:Sh) (v:AV) (ps:List PV):Prop:=
 ∃v',(∀rest,unV s (ps++rest)=(v',rest))∧∀wD dD val,Ren ids pl St wD dD→iB P T S pl St v val→iB P T S wD dD v' val
def bI4 (P:Program) (T:Nat→yF) (S:yA) (ids:List Nat) (pl:Pl) (St:Ev.St) (ss:List Sh) (vs:List AV) (ps:List PV):Prop:=
 ∃vs',vs'.length=vs.length∧(∀rest,aMY ss (ps++rest)=(vs',rest))∧∀wD dD (vals:Nat→Value),Ren ids pl St wD dD→(∀i av,vs[i]? =some av→iB P T S pl St av (vals i))→∀i av,vs'[i]? =some av→iB P T S wD dD av (vals i)
mutual
theorem a0u (hs:mW P T S pl St w) {ids:List Nat} {m:Nat} {co:Bool}:∀(s:Sh) (v:AV) (ps:List PV),Sh.under ids.length s=true→eF St m co (Sh.yD ids s) v=some ps→InV P T S ids pl St s v ps
 | .d l,v,ps,hu,h=>by
   have key:∀row,(∀val,iB P T S pl St v val→iB P T S pl St (.d l row) val)→InV P T S ids pl St (.d l) v [.r (nrm l row)]:=by
    intro row hr
    refine ⟨.d l (nrm l (nrm l row)),fun rest=>rfl,fun wD dD val _ hv=> ?_⟩
    have:=(hr val hv).aBR
    rw[this.nrm,this.nrm];exact .d this
   cases v with
   |d l' row=>
    simp only[Sh.yD,eF]at h
    split at h
    ·rename_i hb
     obtain rfl:=L.beq_eq hb
     simp only[Option.some.injEq]at h
     subst h
     exact key row fun val hv=>hv
    ·simp at h
   |sw i' u=>
    simp only[Sh.yD,eF]at h
    split at h
    ·rename_i l' row e
     split at h
     ·rename_i hb
      obtain rfl:=L.beq_eq hb
      simp only[Option.some.injEq]at h
      subst h
      exact key row fun val hv=>by rw[←e];exact aG2 hs _ _ hv
     ·simp at h
    ·simp at h
   |agg vs=>
    simp only[Sh.yD,eF]at h
    split at h
    ·rename_i l' row e
     split at h
     ·rename_i hb
      obtain rfl:=L.beq_eq hb
      simp only[Option.some.injEq]at h
      subst h
      exact key row fun val hv=>by rw[←e];exact aG2 hs _ _ hv
     ·simp at h
    ·simp at h
   |_=>simp[Sh.yD,eF]at h
 | .sw i,v,ps,hu,h=>by
   have hlt:i<ids.length:=by simpa[Sh.under]using hu
   cases v with
   |sw i' v=>
    simp only[Sh.yD,eF]at h
    split at h
    ·rename_i v' e0 l0 c0 oB
     split at h
     ·rename_i hb
      simp only[Bool.and_eq_true]at hb
      obtain rfl:=Nat.eq_of_beq_eq_true hb.1.1
      obtain rfl:=Nat.eq_of_beq_eq_true hb.1.2
      simp only[Option.some.injEq]at h
      subst h
      refine ⟨.sw i 0,fun rest=>rfl,fun wD dD val hd hv=> ?_⟩
      cases hv with
      |sw h0 h1 h2 a6V h3 h4=>
       rw[oB]at h1;obtain rfl:=Option.some.inj h1
       obtain ⟨o',g1,⟨g2,g3,g4,g5,g6,g7⟩,b1,b2⟩:=hd.get hlt oB
       refine .sw h0 g1 g2 (fun v1 e l c q=>Nat.zero_le _) (fun e l q=> ?_) (fun e l rows q=> ?_)
       ·obtain ⟨_,v1,q⟩:=g7.1 _ _ _ _ q;cases q;exact h3 _ _ rfl
       ·obtain ⟨_,v1,q⟩:=g7.1 _ _ _ _ q;cases q;rw[b1,b2];exact h4 _ _ _ rfl
     ·simp at h
    ·simp at h
   |_=>simp[Sh.yD,eF]at h
 | .agg ss,v,ps,hu,h=>by
   cases v with
   |agg vs=>
    simp only[Sh.yD,eF]at h
    obtain ⟨vs',h1,h2,h3⟩:=aG4 hs ss vs ps (by simpa[Sh.under]using hu) h
    refine ⟨.agg vs',fun rest=>by simp[unV,h2 rest],fun wD dD val hd hv=> ?_⟩
    cases hv with
    |agg vals h0 a6W=>
     have:=iB.agg (P:=P) (T:=T) (S:=S) (pl:=wD) (St:=dD) vals (fun i hi=>h0 i (by omega)) (h3 wD dD vals hd a6W)
     rw[h1]at this;exact this
   |d l row=>
    simp only[Sh.yD,eF]at h
    cases hp:pW St m co (Sh.s6 ids ss) (cellsOf l.ks row 0)with
    |none=>rw[hp]at h;simp at h
    |some ps'=>
    rw[hp]at h
    cases l with
    |one k=>simp at h
    |agg ks=>
     simp only[Option.some.injEq]at h
     subst h
     obtain ⟨vs',h1,h2,h3⟩:=aG4 hs ss (cellsOf (L.agg ks).ks row 0) ps' (by simpa[Sh.under]using hu) hp
     refine ⟨.agg vs',fun rest=>by simp[unV,h2 rest],fun wD dD val hd hv=> ?_⟩
     obtain ⟨c1,c2,c3⟩:=hv.aB0 (vs:=cellsOf (L.agg ks).ks row 0) rfl
     obtain ⟨cs,rfl,_⟩:=hv.aBR
     exact .aUL (by rw[h1];exact c1) c3 (h3 wD dD _ hd c2)
   |_=>simp[Sh.yD,eF]at h
 | .ptr i off,v,ps,hu,h=>by
   have hlt:i<ids.length:=by simpa[Sh.under]using hu
   cases v with
   |ptr i' o'=>
    simp only[Sh.yD,eF]at h
    split at h
    ·rename_i hb
     simp only[Bool.and_eq_true]at hb
     obtain rfl:=Nat.eq_of_beq_eq_true hb.1.1
     obtain rfl:=Nat.eq_of_beq_eq_true hb.1.2
     simp only[Option.some.injEq]at h
     subst h
     refine ⟨.ptr i off,fun rest=>rfl,fun wD dD val hd hv=> ?_⟩
     cases hv with
     |ptr h0 h1 h2 h3 h4=>
      obtain ⟨o',g1,⟨g2,g3,g4,g5,g6,g7⟩,b1,b2⟩:=hd.get hlt h1
      refine .ptr h0 g1 g2 (fun l row e=> ?_) (fun c vs e=> ?_)
      ·obtain ⟨l0,r0,q⟩:=g3 l row e;rw[b1];exact h3 _ _ q
      ·obtain ⟨l0,r0,q⟩:=g4 c vs e;rw[b1];exact h4 _ _ q
    ·simp at h
   |_=>simp[Sh.yD,eF]at h
 | .whole i,v,ps,hu,h=>by
   have hlt:i<ids.length:=by simpa[Sh.under]using hu
   cases v with
   |whole i' v=>
    simp only[Sh.yD,eF]at h
    split at h
    ·rename_i v' l0 c0 oB
     split at h
     ·rename_i hb
      simp only[Bool.and_eq_true]at hb
      obtain rfl:=Nat.eq_of_beq_eq_true hb.1.1
      obtain rfl:=Nat.eq_of_beq_eq_true hb.1.2
      simp only[Option.some.injEq]at h
      subst h
      refine ⟨.whole i 0,fun rest=>rfl,fun wD dD val hd hv=> ?_⟩
      cases hv with
      |whole h0 h1 h2 a6V h3 h4=>
       rw[oB]at h1;obtain rfl:=Option.some.inj h1
       obtain ⟨o',g1,⟨g2,g3,g4,g5,g6,g7⟩,b1,b2⟩:=hd.get hlt oB
       refine .whole h0 g1 g2 (fun v1 l c e=>Nat.zero_le _) (fun l e=> ?_) (fun l rows e=> ?_)
       ·obtain ⟨_,v1,q⟩:=g5 _ _ _ e;cases q;exact h3 _ rfl
       ·obtain ⟨_,v1,q⟩:=g5 _ _ _ e;cases q;rw[b1,b2];exact h4 _ _ rfl
     ·simp at h
    ·simp at h
   |_=>simp[Sh.yD,eF]at h
 | .fn f cs,v,ps,hu,h=>by
   cases v with
   |fn f' vs=>
    simp only[Sh.yD,eF]at h
    split at h
    ·rename_i hb
     obtain rfl:=Nat.eq_of_beq_eq_true hb
     obtain ⟨vs',h1,h2,h3⟩:=aG4 hs cs vs ps (by simpa[Sh.under]using hu) h
     refine ⟨.fn f vs',fun rest=>by simp[unV,h2 rest],fun wD dD val hd hv=> ?_⟩
     cases hv with
     |fn vals a6W=>
      have:=iB.fn (P:=P) (T:=T) (S:=S) (pl:=wD) (St:=dD) (f:=f) vals (h3 wD dD vals hd a6W)
      rw[h1]at this;exact this
    ·simp at h
   |_=>simp[Sh.yD,eF]at h
 | .map i,v,ps,hu,h=>by
   have hlt:i<ids.length:=by simpa[Sh.under]using hu
   cases v with
   |map i'=>
    simp only[Sh.yD,eF]at h
    split at h
    ·rename_i hb
     simp only[Bool.and_eq_true]at hb
     obtain rfl:=Nat.eq_of_beq_eq_true hb.1
     simp only[Option.some.injEq]at h
     subst h
     refine ⟨.map i,fun rest=>rfl,fun wD dD val hd hv=> ?_⟩
     cases hv with
     |map h0 h1 h2 h3=>
      obtain ⟨o',g1,⟨g2,g3,g4,g5,g6,g7⟩,b1,b2⟩:=hd.get hlt h1
      refine .map h0 g1 g2 (fun kl vl es e=> ?_)
      obtain ⟨a,b,c,q⟩:=g6 _ _ _ e;rw[b1];exact h3 _ _ _ q
    ·simp at h
   |_=>simp[Sh.yD,eF]at h
 | .aTo i,v,ps,hu,h=>by
   have hlt:i<ids.length:=by simpa[Sh.under]using hu
   cases v with
   |ptr i' off=>
    simp only[Sh.yD,eF]at h
    split at h
    ·rename_i hb
     simp only[Bool.and_eq_true]at hb
     obtain rfl:=Nat.eq_of_beq_eq_true hb.1
     simp only[Option.some.injEq]at h
     subst h
     refine ⟨.ptr i off,fun rest=>rfl,fun wD dD val hd hv=> ?_⟩
     cases hv with
     |ptr h0 h1 h2 h3 h4=>
      obtain ⟨o',g1,⟨g2,g3,g4,g5,g6,g7⟩,b1,b2⟩:=hd.get hlt h1
      refine .ptr h0 g1 g2 (fun l row e=> ?_) (fun c vs e=> ?_)
      ·obtain ⟨l0,r0,q⟩:=g3 l row e;rw[b1];exact h3 _ _ q
      ·obtain ⟨l0,r0,q⟩:=g4 c vs e;rw[b1];exact h4 _ _ q
    ·simp at h
   |_=>simp[Sh.yD,eF]at h
 | .zL i,v,ps,hu,h=>by
   have hlt:i<ids.length:=by simpa[Sh.under]using hu
   cases v with
   |zL i' v idx off=>
    simp only[Sh.yD,eF]at h
    split at h
    ·rename_i v' l0 c0 oB
     split at h
     ·rename_i hb
      simp only[Bool.and_eq_true]at hb
      obtain rfl:=Nat.eq_of_beq_eq_true hb.1.1
      obtain rfl:=Nat.eq_of_beq_eq_true hb.1.2
      simp only[Option.some.injEq]at h
      subst h
      refine ⟨.zL i 0 idx off,fun rest=>rfl,fun wD dD val hd hv=> ?_⟩
      cases hv with
      |zL h0 h1 h2 a6V h3=>
       rw[oB]at h1;obtain rfl:=Option.some.inj h1
       obtain ⟨o',g1,⟨g2,g3,g4,g5,g6,g7⟩,b1,b2⟩:=hd.get hlt oB
       refine .zL h0 g1 g2 (fun v1 l c e=>Nat.zero_le _) (fun l c e=> ?_)
       obtain ⟨_,v1,q⟩:=g5 _ _ _ e;cases q;rw[b1];exact h3 _ _ rfl
     ·simp at h
    ·simp at h
   |_=>simp[Sh.yD,eF]at h
 | .vE i,v,ps,hu,h=>by
   have hlt:i<ids.length:=by simpa[Sh.under]using hu
   cases v with
   |vE i'=>
    simp only[Sh.yD,eF]at h
    split at h
    ·rename_i hb
     simp only[Bool.and_eq_true]at hb
     obtain rfl:=Nat.eq_of_beq_eq_true hb.1
     simp only[Option.some.injEq]at h
     subst h
     refine ⟨.vE i,fun rest=>rfl,fun wD dD val hd hv=> ?_⟩
     cases hv with
     |vE h0 h1 h2 h3 h4=>
      obtain ⟨o',g1,⟨g2,g3,g4,g5,g6,g7⟩,b1,b2⟩:=hd.get hlt h1
      refine .vE h0 g1 g2 (fun l i av e=> ?_) (fun l rows i av e=> ?_)
      ·obtain ⟨a,q⟩:=g7.2.1 _ _ _ _ e;exact h3 _ _ _ q
      ·obtain ⟨a,q⟩:=g7.2.1 _ _ _ _ e;rw[b1,b2];exact h4 _ _ _ _ q
    ·simp at h
   |_=>simp[Sh.yD,eF]at h
theorem aG4 (hs:mW P T S pl St w) {ids:List Nat} {m:Nat} {co:Bool}:∀(ss:List Sh) (vs:List AV) (ps:List PV),Sh.aFl ids.length ss=true→pW St m co (Sh.s6 ids ss) vs=some ps→bI4 P T S ids pl St ss vs ps
 |[],[],ps,_,h=>by
  simp only[Sh.s6,pW,Option.some.injEq]at h
  subst h
  exact ⟨[],rfl,fun rest=>rfl,fun _ _ _ _ _ i av h=>by simp at h⟩
 |[],_::_,ps,_,h=>by simp[Sh.s6,pW]at h
 |_::_,[],ps,_,h=>by simp[Sh.s6,pW]at h
 |s::ss,v::vs,ps,hu,h=>by
  simp only[Sh.aFl,Bool.and_eq_true]at hu
  simp only[Sh.s6,pW]at h
  split at h
  ·rename_i pa pb ha hb
   simp only[Option.some.injEq]at h
   subst h
   obtain ⟨v',h1,h2⟩:=a0u hs s v pa hu.1 ha
   obtain ⟨vs',g1,g2,g3⟩:=aG4 hs ss vs pb hu.2 hb
   refine ⟨v'::vs',by simp[g1],fun rest=>by simp[aMY,List.append_assoc,h1,g2],fun wD dD vals hd hv i av hi=> ?_⟩
   cases i with
   |zero=>simp at hi;subst hi;exact h2 wD dD _ hd (hv 0 v rfl)
   |succ i=>exact g3 wD dD (fun j=>vals (j+1)) hd (fun j av hj=>hv (j+1) av (by simpa using hj)) i av (by simpa using hi)
  ·simp at h
end
theorem yC.a3G {l:L} {cs:List Value} {row:Row} (h:yC P T S l.ks cs row):Ev.nrm l row=row:=by
 cases l with
 |agg ks=>rfl
 |one k=>
  have h1:=h.aBQ
  have h0:=h.cell 0 k rfl
  match row,h1 with
  |[c],_=>
   have:at_ [c] 0=c:=rfl
   rw[this]at h0
   exact aO8 h0
def InO (P:Program) (T:Nat→yF) (S:yA) (ids:List Nat) (pl:Pl) (St:Ev.St) (o o':Obj):Prop:=
 aOO o o'∧(o'.has=true→o.has=true)∧∀wD dD w id j,Ren ids pl St wD dD→wD.blk j=pl.blk id→wD.cap j=pl.cap id→n9 P T S pl St w id o→n9 P T S wD dD w j o'
theorem a3H {ids:List Nat} (o:Obj):InO P T S ids pl St o .dead:=
 ⟨⟨by simp,fun l row e=>(by cases e),fun c vs e=>(by cases e),fun v l c e=>(by cases e),fun a b c e=>(by cases e),fun v e l c q=>(by cases q),fun _ _ _ _ e=>(by cases e),fun _ _ _ _ e q=>(by cases e<;>cases q<;>rfl)⟩,fun h=>by simp[Obj.has]at h,fun _ _ _ _ _ _ _ _ _=>trivial⟩
theorem a6X (hs:mW P T S pl St w0) {ids:List Nat} {m:Nat} (s:rN) (o:Obj) (ps:List PV) (hu:rN.under ids.length s=true) (h:nZ St m (s.yD ids) o=some ps):
 ∃o',(∀rest,unO s (ps++rest)=(o',rest))∧((∃(w:World) (id:Nat),n9 P T S pl St w id o)→InO P T S ids pl St o o'):=by
 cases s with
 |var l=>
  cases o with
  |var l' row=>
   simp only[rN.yD,nZ]at h
   split at h
   ·rename_i hb
    obtain rfl:=L.beq_eq hb
    simp only[Option.some.injEq]at h
    subst h
    refine ⟨.var l (nrm l (nrm l row)),fun rest=>rfl,fun ⟨w,id,cur,e,h1,h2⟩=> ?_⟩
    rw[h2.a3G,h2.a3G]
    refine ⟨⟨by simp,fun l row e=>⟨_,_,rfl⟩,fun c vs e=>(by cases e),fun v l c e=>(by cases e),fun a b c e=>(by cases e),fun v e l c q=>(by cases q),fun _ _ _ _ e=>(by cases e),fun _ _ _ _ e q=>(by cases e<;>cases q<;>rfl)⟩,fun h=>h,fun wD dD w id j _ b1 b2 ho=> ?_⟩
    obtain ⟨cur,e,q1,q2⟩:=ho
    exact ⟨cur,e,by rw[b1];exact q1,q2⟩
   ·simp at h
  |_=>simp[rN.yD,nZ]at h
 |arr l=>
  cases o with
  |arr v l' c=>
   simp only[rN.yD,nZ]at h
   split at h
   ·rename_i hb
    obtain rfl:=L.beq_eq hb
    simp only[Option.some.injEq]at h
    subst h
    refine ⟨.arr 0 l c,fun rest=>rfl,fun _=> ?_⟩
    refine ⟨⟨by simp,fun l row e=>(by cases e),fun c vs e=>(by cases e),fun v l c e=> ?_,fun a b c e=>(by cases e),fun v e l c q=>(by cases q),fun _ _ _ _ e=>(by cases e),fun _ _ _ _ e q=>(by cases e<;>cases q<;>rfl)⟩,fun h=> ?_,fun wD dD w id j hd b1 b2 ho=> ?_⟩
    ·cases e;exact ⟨rfl,_,rfl⟩
    ·cases c<;>exact h
    ·rcases ho with ho |⟨rows,cur,e,i,q0,q1,q2,q3,q4,q5,q6,q7,q8⟩
     ·exact .inl ho
     ·exact .inr ⟨rows,cur,e,i,q0,by rw[b1];exact q1,q2,q3,q4,by rw[b2];exact q5,by rw[b2];exact q6,by rw[b2];exact q7,q8⟩
   ·simp at h
  |_=>simp[rN.yD,nZ]at h
 |zA e l=>
  cases o with
  |zA v e' l' c=>
   simp only[rN.yD,nZ]at h
   split at h
   ·rename_i hb
    simp only[Bool.and_eq_true]at hb
    obtain rfl:=Nat.eq_of_beq_eq_true hb.1
    obtain rfl:=L.beq_eq hb.2
    simp only[Option.some.injEq]at h
    subst h
    refine ⟨.zA 0 e l c,fun rest=>rfl,fun _=> ?_⟩
    refine ⟨⟨by simp,fun l row e=>(by cases e),fun c vs e=>(by cases e),fun v l c e=>(by cases e),fun a b c e=>(by cases e),fun v e l c q=> ?_,fun _ _ _ _ e=>(by cases e),fun _ _ _ _ e q=>(by cases e<;>cases q<;>rfl)⟩,fun h=> ?_,fun wD dD w id j hd b1 b2 ho=> ?_⟩
    ·cases q;exact ⟨rfl,_,rfl⟩
    ·cases c<;>exact h
    ·rcases ho with ho |⟨rows,cur,e,i,q0,q1,q2,q3,q4,q5,q6,q7,q8,q9⟩
     ·exact .inl ho
     ·exact .inr ⟨rows,cur,e,i,q0,by rw[b1];exact q1,q2,q3,q4,by rw[b2];exact q5,by rw[b2];exact q6,by rw[b2];exact q7,q8,by rw[b1];exact q9⟩
   ·simp at h
  |_=>simp[rN.yD,nZ]at h
 |vE l s=>
  cases o with
  |vE l' c i av=>
   simp only[rN.yD,nZ]at h
   split at h
   ·rename_i hb
    obtain rfl:=L.beq_eq hb
    split at h
    ·rename_i ps' hp
     simp only[Option.some.injEq]at h
     subst h
     obtain ⟨av',g1,g2⟩:=a0u hs s av ps' (by simpa[rN.under]using hu) hp
     refine ⟨.vE l c i av',fun rest=> ?_,fun _=> ?_⟩
     ·simp only[List.cons_append,unO,List.tail_cons,g1 rest];rfl
     ·refine ⟨⟨by simp,fun l row e=>(by cases e),fun c vs e=>(by cases e),fun v l c e=>(by cases e),fun a b c e=>(by cases e),fun v e l c q=>(by cases q),fun _ _ _ _ e=>(by cases e;exact ⟨_,rfl⟩),fun _ _ _ _ e q=>(by cases e)⟩,fun h=> ?_,fun wD dD w id j hd b1 b2 ho=> ?_⟩
      ·cases c<;>exact h
      rcases ho with ho |⟨rows,cur,e,inf,qc,q0,q1,q2,q3,q4,q5,q6,q7,q8⟩
      ·exact .inl ho
      ·exact .inr ⟨rows,cur,e,inf,qc,by rw[b1];exact q0,q1,q2,q3,by rw[b2];exact q4,by rw[b2];exact q5,by rw[b2];exact q6,q7,fun hi=>⟨(q8 hi).1,g2 wD dD _ hd (q8 hi).2.1,(q8 hi).2.2⟩⟩
    ·simp at h
   ·simp at h
  |_=>simp[rN.yD,nZ]at h
 |map kl vl=>
  cases o with
  |map kl' vl' es=>
   simp only[rN.yD,nZ]at h
   split at h
   ·rename_i hb
    simp only[Bool.and_eq_true]at hb
    obtain rfl:=L.beq_eq hb.1
    obtain rfl:=L.beq_eq hb.2
    simp only[Option.some.injEq]at h
    subst h
    refine ⟨.map kl vl es,fun rest=>rfl,fun _=> ?_⟩
    refine ⟨⟨by simp,fun l row e=>(by cases e),fun c vs e=>(by cases e),fun v l c e=>(by cases e),fun a b c e=>⟨_,_,_,rfl⟩,fun v e l c q=>(by cases q),fun _ _ _ _ e=>(by cases e),fun _ _ _ _ e q=>(by cases e<;>cases q<;>rfl)⟩,fun h=>h,fun wD dD w id j hd b1 b2 ho=> ?_⟩
    obtain ⟨oW,clock,q1,q2,q3⟩:=ho
    exact ⟨oW,clock,by rw[b1];exact q1,q2,q3⟩
   ·simp at h
  |_=>simp[rN.yD,nZ]at h
 |cells c vs=>
  cases vs with
  |nil=>
   cases o with
   |cells c' yL=>
    simp only[rN.yD,Sh.s6,nZ]at h
    split at h
    ·cases yL with
     |nil=>
      simp only[pW,Option.some.injEq]at h;subst h
      exact ⟨.dead,fun rest=>rfl,fun _=>a3H _⟩
     |cons _ _=>simp[pW]at h
    ·simp at h
   |_=>
    simp only[rN.yD,Sh.s6,nZ,Option.some.injEq]at h;subst h
    exact ⟨.dead,fun rest=>rfl,fun _=>a3H _⟩
  |cons s ss=>
   cases o with
   |cells c' yL=>
    simp only[rN.yD,nZ]at h
    split at h
    ·rename_i hb
     have hcc:c=c':=by simpa using hb
     subst hcc
     obtain ⟨vs',h1,h2,h3⟩:=aG4 hs (s::ss) yL ps (by simpa[rN.under]using hu) h
     refine ⟨.cells c vs',fun rest=>by simp[unO,h2 rest],fun _=> ?_⟩
     refine ⟨⟨by simp,fun l row e=>(by cases e),fun c vs e=>⟨_,_,rfl⟩,fun v l c e=>(by cases e),fun a b c e=>(by cases e),fun v e l c q=>(by cases q),fun _ _ _ _ e=>(by cases e),fun _ _ _ _ e q=>(by cases e<;>cases q<;>rfl)⟩,fun h=>rfl,fun wD dD w id j hd b1 b2 ho=> ?_⟩
     obtain ⟨cur,e,q1,q2,q3,q4⟩:=ho
     exact ⟨cur,e,by rw[b1];exact q1,by rw[q2,h1],fun i av hi=>h3 wD dD (fun i=>cur.getD i undef) hd q3 i av hi,q4⟩
    ·simp at h
   |_=>simp[rN.yD,Sh.s6,nZ]at h
theorem aXz (hs:mW P T S pl St w0) {ids:List Nat} (hos:∀(id:Nat) (o:Obj),St[id]? =some o→∃(w:World) (j:Nat),n9 P T S pl St w j o):∀(is:List Nat) (ss:List rN) (ps:List PV),ss.all (rN.under ids.length)=true→aIM St ids is ss=some ps→
 ∃dD:Ev.St,(∀rest,aJ1 ss (ps++rest)=dD)∧dD.length=is.length∧ss.length=is.length∧∀(j:Nat) (o':Obj),dD[j]? =some o'→∃o:Obj,St[is.getD j 0]? =some o∧InO P T S ids pl St o o'
 |[],[],ps,_,h=>by
  simp only[aIM,Option.some.injEq]at h
  subst h
  exact ⟨[],fun rest=>rfl,rfl,rfl,fun j o' h=>by simp at h⟩
 |[],_::_,ps,_,h=>by simp[aIM]at h
 |_::_,[],ps,_,h=>by simp[aIM]at h
 |i::is,s::ss,ps,hu,h=>by
  simp only[List.all_cons,Bool.and_eq_true]at hu
  simp only[aIM]at h
  split at h
  ·rename_i o ho
   split at h
   ·rename_i pa pb ha hb
    simp only[Option.some.injEq]at h
    subst h
    obtain ⟨o',h1,h2⟩:=a6X hs s o pa hu.1 ha
    obtain ⟨dD,g1,g2,g2',g3⟩:=aXz hs hos is ss pb hu.2 hb
    refine ⟨o'::dD,fun rest=>by simp[aJ1,List.append_assoc,h1,g1],by simp[g2],by simp[g2'],fun j o1 hi=> ?_⟩
    cases j with
    |zero=>simp at hi;subst hi;exact ⟨o,by simpa using ho,h2 (hos i o ho)⟩
    |succ j=>
     obtain ⟨o2,q1,q2⟩:=g3 j o1 (by simpa using hi)
     exact ⟨o2,by simpa using q1,q2⟩
   ·simp at h
  ·simp at h
def Pl.sub (pl:Pl) (ids:List Nat):Pl:=⟨fun j=>pl.blk (ids.getD j 0),fun j=>pl.cap (ids.getD j 0)⟩
theorem a0v {ids:List Nat} {en:Shape} {yL:List AV} {ps:List PV} {vals:Nat→Value} (hs:mW P T S pl St w) (hnd:ids.Nodup) (hu:Shape.under ids.length en=true) (hv:∀i av,yL[i]? =some av→iB P T S pl St av (vals i))
 (h:aUx St ids en yL=some ps):
 ∃(vs:List AV) (r:List PV) (dD:Ev.St),aMY (en.slots.map (·.2)) ps=(vs,r)∧dD=aJ1 en.objs r∧vs.length=yL.length∧dD.length=ids.length∧en.objs.length=ids.length∧Ren ids pl St (pl.sub ids) dD∧mW P T S (pl.sub ids) dD w∧
  (∀i av,vs[i]? =some av→iB P T S (pl.sub ids) dD av (vals i))∧(∀b,nW (pl.sub ids) dD b→∃i∈ids,∃o,St[i]? =some o∧o.has=true∧o.cst=false∧pl.blk i=b)∧
  ∀(j:Nat) (o':Obj),dD[j]? =some o'→∃o:Obj,St[ids.getD j 0]? =some o∧aOO o o'∧(o'.has=true→o.has=true):=by
 simp only[Shape.under,Bool.and_eq_true]at hu
 unfold aUx at h
 split at h
 ·rename_i pa pb ha hb
  simp only[Option.some.injEq]at h
  subst h
  have hun:Sh.aFl ids.length (en.slots.map (·.2))=true:=by
   have:=hu.1
   clear ha
   generalize en.slots=ss at this⊢
   induction ss with
   |nil=>rfl
   |cons p ss ih=>
    simp only[List.all_cons,Bool.and_eq_true]at this
    simp only[List.map_cons,Sh.aFl,this.1,ih this.2,Bool.and_self]
  obtain ⟨vs,v1,v2,v3⟩:=aG4 hs (ids:=ids) _ yL pa hun ha
  obtain ⟨dD,g1,g2,g2',g3⟩:=aXz hs (ids:=ids) (fun id o ho=>⟨w,id,hs.objs id o ho⟩) ids en.objs pb hu.2 hb
  have bDU:Ren ids pl St (pl.sub ids) dD:=by
   refine ⟨fun j hj=>⟨_,List.getElem?_eq_getElem (by rw[g2];exact hj)⟩,fun j o' ho'=> ?_⟩
   obtain ⟨o,q1,q2⟩:=g3 j o' ho'
   exact ⟨o,q1,q2.1,rfl,rfl⟩
  have hinj:∀i j,i<ids.length→j<ids.length→ids.getD i 0=ids.getD j 0→i=j:=by
   intro i j hi hj e
   rw[List.getD_eq_getElem?_getD,List.getD_eq_getElem?_getD,List.getElem?_eq_getElem hi,List.getElem?_eq_getElem hj]at e
   exact (List.getElem_inj hnd).1 e
  have hlt:∀(j:Nat) (o':Obj),dD[j]? =some o'→j<ids.length:=fun j o' h=>by rw[←g2];exact (List.getElem?_eq_some_iff.1 h).1
  refine ⟨vs,pb,dD,v2 pb,by have:=g1 [];rw[List.append_nil]at this;exact this.symm,v1,g2,g2',bDU, ?_,v3 _ _ vals bDU hv,fun b hb=> ?_,fun j o' ho'=> ?_⟩
  ·refine ⟨hs.yM,fun j o' ho'=> ?_,fun j o' ho' hh off hoff=> ?_,fun i j o o' hi hj h1 h2 hbb=> ?_,hs.fR,fun g t l row e=>⟨(hs.glo g t l row e).1,fun j o' ho' hh=> ?_⟩⟩
   ·obtain ⟨o,q1,q2⟩:=g3 j o' ho'
    exact q2.2.2 _ dD w _ j bDU rfl rfl (hs.objs _ o q1)
   ·obtain ⟨o,q1,q2⟩:=g3 j o' ho'
    exact hs.apart _ o q1 (q2.2.1 hh) off (by rw[q2.1.sn hh];exact hoff)
   ·obtain ⟨o1,q1,q2⟩:=g3 i o hi
    obtain ⟨o2,q3,q4⟩:=g3 j o' hj
    exact hinj i j (hlt i o hi) (hlt j o' hj) (hs.inj _ _ o1 o2 q1 q3 (q2.2.1 h1) (q4.2.1 h2) hbb)
   ·obtain ⟨o,q1,q2⟩:=g3 j o' ho'
    exact (hs.glo g t l row e).2 _ o q1 (q2.2.1 hh)
  ·obtain ⟨j,o',ho',hh,hc1,hbb⟩:=hb
   obtain ⟨o,q1,q2⟩:=g3 j o' ho'
   have hj:=hlt j o' ho'
   refine ⟨ids.getD j 0, ?_,o,q1,q2.2.1 hh,(q2.1.cst hh).trans hc1,hbb⟩
   rw[List.getD_eq_getElem?_getD,List.getElem?_eq_getElem hj];exact List.getElem_mem hj
  ·obtain ⟨o,q1,q2⟩:=g3 j o' ho'
   exact ⟨o,q1,q2.1,q2.2.1⟩
 ·simp at h
end Go.Ev
namespace Go.Ev
variable {E:Env} {P:Program} {T:Nat→yF} {S S':yA} {pl wD rM:Pl} {St dD St2:Ev.St} {F F':Fr} {a:Act} {w w':World}
theorem aNr (ids lC:List Nat):∀(cs:List AV) (i:Nat),(AV.s6 ids lC cs)[i]? =(cs[i]?).map (AV.yD ids lC)
 |[],_=>by simp[AV.s6]
 |c::cs,0=>by simp[AV.s6]
 |c::cs,i+1=>by simp[AV.s6,aNr ids lC cs i]
theorem aBs (ids lC:List Nat):∀(cs:List AV),(AV.s6 ids lC cs).length=cs.length
 |[]=>rfl
 |c::cs=>by simp[AV.s6,aBs ids lC cs]
def aHh (all lC:List Nat) (v:Nat) (o' o3:Obj):Prop:=o3=Obj.yD all lC v o'∨((∃vs,o3= .cells true vs)∧∃vs,o'= .cells true vs)
def a9Q (all lC:List Nat) (wD:Pl) (dD:Ev.St) (rM:Pl) (St2:Ev.St):Prop:=
 ∀(j:Nat) (o':Obj),dD[j]? =some o'→∃o3,St2[all.getD j 0]? =some o3∧aHh all lC (lC.getD j 0) o' o3∧rM.blk (all.getD j 0)=wD.blk j∧rM.cap (all.getD j 0)=wD.cap j
theorem aQl (all lC:List Nat) (v:Nat) (o:Obj):Obj.yD all lC v o≠ .fresh:=by
 cases o with
 |arr u l c=>cases u<;>simp[Obj.yD]
 |zA u e l c=>cases u<;>simp[Obj.yD]
 |_=>simp[Obj.yD]
theorem a3I {all lC:List Nat} {v:Nat} {o:Obj} {l:L} {row:Row} (h:Obj.yD all lC v o= .var l row):o= .var l row:=by
 cases o with
 |arr u l c=>cases u<;>simp[Obj.yD]at h
 |zA u e l c=>cases u<;>simp[Obj.yD]at h
 |var l r=>simpa[Obj.yD]using h
 |_=>simp[Obj.yD]at h
theorem aXA {all lC:List Nat} {v:Nat} {o:Obj} {c:Bool} {vs:List AV} (h:Obj.yD all lC v o= .cells c vs):∃vs0,o= .cells c vs0∧vs=AV.s6 all lC vs0:=by
 cases o with
 |arr u l c=>cases u<;>simp[Obj.yD]at h
 |zA u e l c=>cases u<;>simp[Obj.yD]at h
 |cells c' vs0=>simp[Obj.yD]at h;obtain ⟨rfl,rfl⟩:=h;exact ⟨vs0,rfl,rfl⟩
 |_=>simp[Obj.yD]at h
theorem a3J {all lC:List Nat} {v u:Nat} {o:Obj} {l:L} {c:C} (h:Obj.yD all lC v o= .arr u l c):o= .arr 0 l c∧u=v:=by
 cases o with
 |arr u' l' c'=>
  cases u' with
  |zero=>simp[Obj.yD]at h;obtain ⟨rfl,rfl,rfl⟩:=h;exact ⟨rfl,rfl⟩
  |succ u'=>simp[Obj.yD]at h
 |zA u' e' l' c'=>cases u'<;>simp[Obj.yD]at h
 |_=>simp[Obj.yD]at h
theorem a0w {all lC:List Nat} {v u:Nat} {o:Obj} {e:TypeId} {l:L} {c:C} (h:Obj.yD all lC v o= .zA u e l c):o= .zA 0 e l c∧u=v:=by
 cases o with
 |arr u' l' c'=>cases u'<;>simp[Obj.yD]at h
 |zA u' e' l' c'=>
  cases u' with
  |zero=>simp[Obj.yD]at h;obtain ⟨rfl,rfl,rfl,rfl⟩:=h;exact ⟨rfl,rfl⟩
  |succ u'=>simp[Obj.yD]at h
 |_=>simp[Obj.yD]at h
theorem a3K {all lC:List Nat} {v:Nat} {o:Obj} {kl vl:L} {es:List (Row×Row)} (h:Obj.yD all lC v o= .map kl vl es):o= .map kl vl es:=by
 cases o with
 |arr u l c=>cases u<;>simp[Obj.yD]at h
 |zA u e l c=>cases u<;>simp[Obj.yD]at h
 |map a b c=>simpa[Obj.yD]using h
 |_=>simp[Obj.yD]at h
theorem a3L {all lC:List Nat} {v:Nat} {o:Obj} {l:L} {c:C} {i:Nat} {av:AV} (h:Obj.yD all lC v o= .vE l c i av):∃av0,o= .vE l c i av0:=by
 cases o with
 |arr u l c=>cases u<;>simp[Obj.yD]at h
 |zA u e l c=>cases u<;>simp[Obj.yD]at h
 |vE l' c' i' av'=>simp[Obj.yD]at h;obtain ⟨rfl,rfl,rfl,_⟩:=h;exact ⟨_,rfl⟩
 |_=>simp[Obj.yD]at h
section
variable {all lC:List Nat} {v:Nat} {o o3:Obj}
theorem aHh.ne (h:aHh all lC v o o3):o3≠ .fresh:=by
 rcases h with rfl |⟨⟨vs,rfl⟩,_⟩
 ·exact aQl _ _ _ _
 ·simp
theorem aHh.var {l:L} {row:Row} (h:aHh all lC v o o3) (e:o3= .var l row):o= .var l row:=by
 rcases h with rfl |⟨⟨vs,rfl⟩,_⟩
 ·exact a3I e
 ·cases e
theorem aHh.cells {c:Bool} {vs:List AV} (h:aHh all lC v o o3) (e:o3= .cells c vs):∃c0 vs0,o= .cells c0 vs0:=by
 rcases h with rfl |⟨⟨vs,rfl⟩,vs0,rfl⟩
 ·obtain ⟨vs0,q,_⟩:=aXA e;exact ⟨_,_,q⟩
 ·exact ⟨_,_,rfl⟩
theorem aHh.arr {u:Nat} {l:L} {c:C} (h:aHh all lC v o o3) (e:o3= .arr u l c):o= .arr 0 l c∧u=v:=by
 rcases h with rfl |⟨⟨vs,rfl⟩,_⟩
 ·exact a3J e
 ·cases e
theorem aHh.zA {u:Nat} {e0:TypeId} {l:L} {c:C} (h:aHh all lC v o o3) (e:o3= .zA u e0 l c):o= .zA 0 e0 l c∧u=v:=by
 rcases h with rfl |⟨⟨vs,rfl⟩,_⟩
 ·exact a0w e
 ·cases e
theorem aHh.vE {l:L} {c:C} {i:Nat} {av:AV} (h:aHh all lC v o o3) (e:o3= .vE l c i av):∃av0,o= .vE l c i av0:=by
 rcases h with rfl |⟨⟨vs,rfl⟩,_⟩
 ·exact a3L e
 ·cases e
theorem aHh.map {kl vl:L} {es:List (Row×Row)} (h:aHh all lC v o o3) (e:o3= .map kl vl es):o= .map kl vl es:=by
 rcases h with rfl |⟨⟨vs,rfl⟩,_⟩
 ·exact a3K e
 ·cases e
end
theorem iB.back {all lC:List Nat} (hb:a9Q all lC wD dD rM St2) {av:AV} {v:Value} (h:iB P T S wD dD av v):iB P T S rM St2 (AV.yD all lC av) v:=by
 induction h with
 |undef=>simp[AV.yD];exact .undef
 |und=>simp[AV.yD];exact .undef
 |d h=>simp only[AV.yD];exact .d h
 | @ptr id off o v h0 h1 h2 h3 h4=>
   obtain ⟨o3,g1,gb,g2,g3⟩:=hb id o h1
   simp only[AV.yD]
   refine .ptr h0 g1 gb.ne (fun l row e=> ?_) (fun c vs e=> ?_)
   ·rw[g2];exact h3 _ _ (gb.var e)
   ·obtain ⟨c0,vs0,q⟩:=gb.cells e
    rw[g2];exact h4 _ _ q
 | @zL id bO idx off o v h0 h1 h2 hv h3=>
   obtain ⟨o3,g1,gb,g2,g3⟩:=hb id o h1
   cases bO with
   |succ bO=>simp[AV.yD];exact .undef
   |zero=>
    simp only[AV.yD]
    refine .zL h0 g1 gb.ne (fun v1 l c e=> ?_) (fun l c e=> ?_)
    ·rw[(gb.arr e).2];exact Nat.le_refl _
    ·rw[g2];exact h3 _ _ (gb.arr e).1
 | @whole id bO o v h0 h1 h2 hv h3 h4=>
   obtain ⟨o3,g1,gb,g2,g3⟩:=hb id o h1
   cases bO with
   |succ bO=>simp[AV.yD];exact .undef
   |zero=>
    simp only[AV.yD]
    refine .whole h0 g1 gb.ne (fun v1 l c e=> ?_) (fun l e=> ?_) (fun l rows e=> ?_)
    ·rw[(gb.arr e).2];exact Nat.le_refl _
    ·exact h3 _ (gb.arr e).1
    ·rw[g2,g3];exact h4 _ _ (gb.arr e).1
 |own=>simp[AV.yD];exact .undef
 | @sw id bO o v h0 h1 h2 hv h3 h4=>
   obtain ⟨o3,g1,gb,g2,g3⟩:=hb id o h1
   cases bO with
   |succ bO=>simp[AV.yD];exact .undef
   |zero=>
    simp only[AV.yD]
    refine .sw h0 g1 gb.ne (fun v1 e l c q=> ?_) (fun e l q=> ?_) (fun e l rows q=> ?_)
    ·rw[(gb.zA q).2];exact Nat.le_refl _
    ·exact h3 _ _ (gb.zA q).1
    ·rw[g2,g3];exact h4 _ _ _ (gb.zA q).1
 | @agg yL vs h0 h ih=>
   simp only[AV.yD]
   have:=iB.agg (P:=P) (T:=T) (S:=S) (pl:=rM) (St:=St2) (yL:=AV.s6 all lC yL) vs (fun i hi=>h0 i (by rw[aBs]at hi;exact hi)) (fun i av hi=>by
    rw[aNr]at hi
    obtain ⟨c,hc,rfl⟩:=Option.map_eq_some_iff.1 hi
    exact ih i c hc)
   rw[aBs]at this;exact this
 | @fn f caps vs h ih=>
   simp only[AV.yD]
   have:=iB.fn (P:=P) (T:=T) (S:=S) (pl:=rM) (St:=St2) (f:=f) (caps:=AV.s6 all lC caps) vs (fun i av hi=>by
    rw[aNr]at hi
    obtain ⟨c,hc,rfl⟩:=Option.map_eq_some_iff.1 hi
    exact ih i c hc)
   rw[aBs]at this;exact this
 |tup=>simp[AV.yD];exact .undef
 | @vE id o v h0 h1 h2 h3 h4=>
   obtain ⟨o3,g1,gb,g2,g3⟩:=hb id o h1
   simp only[AV.yD]
   refine .vE h0 g1 gb.ne (fun l i av e=> ?_) (fun l rows i av e=> ?_)
   ·obtain ⟨av0,q⟩:=gb.vE e;exact h3 _ _ _ q
   ·obtain ⟨av0,q⟩:=gb.vE e;rw[g2,g3];exact h4 _ _ _ _ q
 | @aKU id idx o v h0 h1 h2 h3=>
   obtain ⟨o3,g1,gb,g2,g3⟩:=hb id o h1
   simp only[AV.yD]
   refine .aKU h0 g1 gb.ne (fun l c i av e=> ?_)
   obtain ⟨av0,q⟩:=gb.vE e;rw[g2];exact h3 _ _ _ _ q
 | @map id o v h0 h1 h2 h3=>
   obtain ⟨o3,g1,gb,g2,g3⟩:=hb id o h1
   simp only[AV.yD]
   refine .map h0 g1 gb.ne (fun kl vl es e=> ?_)
   rw[g2];exact h3 _ _ _ (gb.map e)
end Go.Ev
namespace Go.Ev
variable {E:Env} {P:Program} {T:Nat→yF} {S S' S2:yA} {pl wD rM:Pl} {St dD St2:Ev.St} {F F':Fr} {a:Act} {w w':World}
mutual
theorem Sh.beq_eq:∀(a b:Sh),Sh.beq a b=true→a=b
 | .d a,b,h=>by cases b<;>simp[Sh.beq]at h;rw[L.beq_eq h]
 | .ptr i o,b,h=>by cases b<;>simp[Sh.beq]at h;rw[h.1,h.2]
 | .whole i,b,h=>by cases b<;>simp[Sh.beq]at h;rw[h]
 | .fn f cs,b,h=>by
   cases b<;>simp[Sh.beq]at h
   rw[h.1,Sh.aLj _ _ h.2]
 | .map i,b,h=>by cases b<;>simp[Sh.beq]at h;rw[h]
 | .sw i,b,h=>by cases b<;>simp[Sh.beq]at h;rw[h]
 | .agg cs,b,h=>by
   cases b<;>simp[Sh.beq]at h
   rw[Sh.aLj _ _ h]
 | .aTo i,b,h=>by cases b<;>simp[Sh.beq]at h;rw[h]
 | .zL i,b,h=>by cases b<;>simp[Sh.beq]at h;rw[h]
 | .vE i,b,h=>by cases b<;>simp[Sh.beq]at h;rw[h]
theorem Sh.aLj:∀(a b:List Sh),Sh.aO6 a b=true→a=b
 |[],b,h=>by cases b<;>simp[Sh.aO6]at h;rfl
 |a::r,b,h=>by
  cases b with
  |nil=>simp[Sh.aO6]at h
  |cons b r'=>
   simp only[Sh.aO6,Bool.and_eq_true]at h
   rw[Sh.beq_eq _ _ h.1,Sh.aLj _ _ h.2]
end
theorem rN.beq_eq {a b:rN} (h:rN.beq a b=true):a=b:=by
 cases a<;>cases b<;>simp[rN.beq]at h
 ·rw[L.beq_eq h]
 ·rename_i c vs c' vs'
  rw[Sh.aLj _ _ h.2]
  cases c<;>cases c'<;>simp_all
 ·rw[L.beq_eq h]
 ·rw[L.beq_eq h.1,L.beq_eq h.2]
 ·rw[h.1,L.beq_eq h.2]
 ·rw[L.beq_eq h.1,Sh.beq_eq _ _ h.2]
theorem rN.aLj:∀{a b:List rN},rN.aO6 a b=true→a=b
 |[],[],_=>rfl
 |[],_::_,h=>by simp[rN.aO6]at h
 |_::_,[],h=>by simp[rN.aO6]at h
 |a::r,b::r',h=>by
  simp only[rN.aO6,Bool.and_eq_true]at h
  rw[rN.beq_eq h.1,rN.aLj h.2]
theorem aSS:∀{a b:List (Nat×Sh)},aJ0 a b=true→a=b
 |[],[],_=>rfl
 |[],_::_,h=>by simp[aJ0]at h
 |_::_,[],h=>by simp[aJ0]at h
 |(n,a)::r,(m,b)::r',h=>by
  simp only[aJ0,Bool.and_eq_true]at h
  rw[Nat.eq_of_beq_eq_true h.1.1,Sh.beq_eq _ _ h.1.2,aSS h.2]
theorem Shape.beq_eq {a b:Shape} (h:Shape.beq a b=true):a=b:=by
 simp only[Shape.beq,Bool.and_eq_true]at h
 cases a;cases b
 simp at h
 rw[aSS h.1.1,rN.aLj h.1.2,h.2]
def aUd (pl:Pl) (St:Ev.St) (rM:Pl) (St2:Ev.St):Prop:=∀(j:Nat) (o:Obj) (l:L) (c:C) (i:Nat) (av:AV),St[j]? =some o→St2[j]? =some (.vE l c i av)→
 ∃c0 i0 av0,o= .vE l c0 i0 av0∧(c= .bA→c0= .bA)∧(∀rows,c= .sl rows→∃cH,c0= .sl cH∧cH.length=rows.length∧rM.blk j=pl.blk j∧rM.cap j=pl.cap j)
def bGo (P:Program) (T:Nat→yF) (ic:Nat→List PV→Option (List PV)):Prop:=
 ∀i af,T i= .imp af→∀ps ps',ic i ps=some ps'→∀(S:yA) (pl:Pl) (St:Ev.St) (w:World) (yL:List AV) (r:List PV) (vals:Nat→Value),
  aMY (af.entry.slots.map (·.2)) ps=(yL,r)→St=aJ1 af.entry.objs r→mW P T S pl St w→(∀i av,yL[i]? =some av→iB P T S pl St av (vals i))→
  (callFunc af.fn ((List.range yL.length).map vals).toArray).run P w= .ok (.enter af.fn ((List.range yL.length).map vals).toArray) w∧
  Calls P af.fn ((List.range yL.length).map vals).toArray w fun e w'=>∃(S2:yA) (rM:Pl) (St2:Ev.St) (aQm:List AV) (r2:List PV) (out:List Value),
   aMY (af.exit.slots.map (·.2)) ps'=(aQm,r2)∧St2=aJ1 af.exit.objs r2∧e= .returned (aPe out)∧out.length=aQm.length∧
   mW P T S2 rM St2 w'∧Grow (nW pl St) S w S2 w'∧(∀i av,aQm[i]? =some av→iB P T S2 rM St2 av (out.getD i undef))∧
   (∀b,nW rM St2 b→nW pl St b∨w.heap.size≤b)∧
   (∀(j:Nat) (o o':Obj),St[j]? =some o→St2[j]? =some o'→((∃l row,o'= .var l row)∨(∃c vs,o'= .cells c vs)∨∃kl vl es,o'= .map kl vl es)→rM.blk j=pl.blk j)∧aUd pl St rM St2
structure aQn (P:Program) (T:Nat→yF) (E:Env):Prop where
 pc:a6B P T E.pc
 ic:bGo P T E.ic
def a6Y:rN→Obj→Prop
 | .var l,o=>∃row,o= .var l row
 | .cells _ [],o=>o= .dead
 | .cells c (_::_),o=>∃vs,o= .cells c vs
 | .arr l,o=>∃c,o= .arr 0 l c
 | .map kl vl,o=>∃es,o= .map kl vl es
 | .zA e l,o=>∃c,o= .zA 0 e l c
 | .vE l _,o=>∃c i av,o= .vE l c i av
theorem bDV (s:rN) (ps:List PV):a6Y s (unO s ps).1:=by
 cases s with
 |var l=>exact ⟨_,rfl⟩
 |cells c vs=>cases vs with
  |nil=>rfl
  |cons v vs=>exact ⟨_,rfl⟩
 |arr l=>exact ⟨_,rfl⟩
 |map kl vl=>exact ⟨_,rfl⟩
 |zA e l=>exact ⟨_,rfl⟩
 |vE l s=>exact ⟨_,_,_,rfl⟩
theorem aIl:∀(ss:List rN) (ps:List PV),(aJ1 ss ps).length=ss.length
 |[],_=>rfl
 |s::ss,ps=>by simp[aJ1,aIl ss]
theorem aF8:∀(ss:List rN) (ps:List PV) (j:Nat) (o:Obj),(aJ1 ss ps)[j]? =some o→∃s,ss[j]? =some s∧a6Y s o
 |[],_,_,_,h=>by simp[aJ1]at h
 |s::ss,ps,0,o,h=>by
  simp only[aJ1,List.getElem?_cons_zero,Option.some.injEq]at h
  subst h
  exact ⟨s,rfl,bDV s ps⟩
 |s::ss,ps,j+1,o,h=>by
  simp only[aJ1,List.getElem?_cons_succ]at h
  obtain ⟨s',h1,h2⟩:=aF8 ss _ j o h
  exact ⟨s',by simpa using h1,h2⟩
theorem aKa:∀{a b:List rN} {j:Nat} {s s':rN},aJ2 a b=true→a[j]? =some s→b[j]? =some s'→
 (∀c,s'= .cells c []→True)∧(∀l,s'= .var l→∃l0,s= .var l0)∧(∀c v vs,s'= .cells c (v::vs)→∃c0 v0 vs0,s= .cells c0 (v0::vs0))∧(∀l,s'= .arr l→s= .arr l)∧
 (∀kl vl,s'= .map kl vl→∃kl0 vl0,s= .map kl0 vl0)∧(∀e l,s'= .zA e l→s= .zA e l)∧(∀l s2,s'= .vE l s2→∃s0,s= .vE l s0)∧(s'.cst=true→s.cst=true)
 |[],_,_,_,_,_,h,_=>by simp at h
 |_::_,[],_,_,_,h,_,_=>by simp[aJ2]at h
 |a::r,b::r',0,s,s',h,h1,h2=>by
  simp only[List.getElem?_cons_zero,Option.some.injEq]at h1 h2
  subst h1;subst h2
  simp only[aJ2,Bool.and_eq_true]at h
  obtain ⟨h,_⟩:=h
  refine ⟨fun _ _=>trivial,fun l e=> ?_,fun c v vs e=> ?_,fun l e=> ?_,fun kl vl e=> ?_,fun e l q=> ?_,fun l s2 q=> ?_,fun q=> ?_⟩
  ·subst e;cases a<;>simp at h;exact ⟨_,rfl⟩
  ·subst e
   cases a with
   |cells c0 vs0=>cases vs0 with
    |nil=>simp at h
    |cons v0 vs0=>exact ⟨_,_,_,rfl⟩
   |_=>simp at h
  ·subst e;cases a<;>simp at h;rw[L.beq_eq h]
  ·subst e;cases a<;>simp at h;exact ⟨_,_,rfl⟩
  ·subst q;cases a<;>simp at h;rw[h.1,L.beq_eq h.2]
  ·subst q;cases a<;>simp at h;rw[L.beq_eq h];exact ⟨_,rfl⟩
  ·cases b with
   |cells c vs=>cases vs with
    |nil=>simp[rN.cst]at q
    |cons v vs=>
     cases c with
     |false=>simp[rN.cst]at q
     |true=>
      cases a with
      |cells c0 vs0=>cases vs0 with
       |nil=>simp at h
       |cons v0 vs0=>cases c0<;>simp at h⊢<;>rfl
      |_=>simp at h
   |_=>simp[rN.cst]at q
 |a::r,b::r',j+1,s,s',h,h1,h2=>by
  simp only[aJ2,Bool.and_eq_true]at h
  exact aKa h.2 (by simpa using h1) (by simpa using h2)
theorem aXB:∀{a b:List rN} {j:Nat} {s':rN},aJ2 a b=true→a.length≤j→b[j]? =some s'→s'.cst=false
 |[],r,j,s',h,_,h2=>by
  simp only[aJ2,List.all_eq_true]at h
  have:=h s' (List.mem_of_getElem? h2)
  simpa using this
 |_::_,[],_,_,h,_,_=>by simp[aJ2]at h
 |a::r,b::r',0,s,h,h1,h2=>by simp at h1
 |a::r,b::r',j+1,s,h,h1,h2=>by
  simp only[aJ2,Bool.and_eq_true]at h
  exact aXB h.2 (by simpa using h1) (by simpa using h2)
theorem a0x {s:rN} {o:Obj} (h:a6Y s o):o.cst=s.cst:=by
 cases s with
 |cells c vs=>cases vs with
  |nil=>cases h;cases c<;>rfl
  |cons v vs=>obtain ⟨vs',rfl⟩:=h;cases c<;>rfl
 |var l=>obtain ⟨_,rfl⟩:=h;rfl
 |arr l=>obtain ⟨_,rfl⟩:=h;rfl
 |map a b=>obtain ⟨_,rfl⟩:=h;rfl
 |zA e l=>obtain ⟨_,rfl⟩:=h;rfl
 |vE l s=>obtain ⟨_,_,_,rfl⟩:=h;rfl
theorem aMF:∀(i n:Nat),(xE i n).length=n
 |_,0=>rfl
 |i,n+1=>by simp[xE,aMF (i+1) n]
theorem aLk:∀{l:List Nat},nodupB l=true→l.Nodup
 |[],_=>List.nodup_nil
 |a::r,h=>by
  simp only[nodupB,Bool.and_eq_true,Bool.not_eq_true',List.any_eq_false]at h
  refine List.nodup_cons.2 ⟨fun hm=> ?_,aLk h.2⟩
  exact h.1 a hm (by simp)
theorem aOP:∀{is:List Nat},aId St is=true→∀i∈is,St[i]? =some .fresh
 |[],_,i,h=>by cases h
 |a::r,h,i,hi=>by
  simp only[aId,Bool.and_eq_true]at h
  rcases List.mem_cons.1 hi with rfl |hi
  ·have:=h.1
   split at this
   ·assumption
   ·simp at this
  ·exact aOP h.2 i hi
theorem aLl (ids lC:List Nat):∀(is vs:List Nat) (os:List Obj),is.length=vs.length→is.length=os.length→(sN ids lC is vs os).map (·.1)=is
 |[],_,_,_,_=>by simp[sN]
 |i::is,[],_,h,_=>by simp at h
 |i::is,v::vs,[],_,h=>by simp at h
 |i::is,v::vs,o::os,h1,h2=>by simp only[sN,List.map_cons];rw[aLl ids lC is vs os (by simpa using h1) (by simpa using h2)]
theorem aF9:∀(us:List (Nat×Obj)) (S:Ev.St) (j:Nat),j∉us.map (·.1)→(zF us S)[j]? =S[j]?
 |[],_,_,_=>rfl
 |(i,o)::r,S,j,h=>by
  simp only[List.map_cons,List.mem_cons,not_or]at h
  simp only[zF]
  rw[aF9 r _ j h.2,List.getElem?_set_ne (Ne.symm h.1)]
theorem aOh (S0:Ev.St):∀(us:List (Nat×Obj)) (j:Nat),j∈(aDh S0 us).map (·.1)→j∈us.map (·.1)
 |[],_,h=>h
 |p::r,j,h=>by
  simp only[aDh]at h
  split at h
  ·exact List.mem_cons_of_mem _ (aOh S0 r j h)
  ·simp only[List.map_cons,List.mem_cons]at h⊢
   rcases h with h |h
   ·exact .inl h
   ·exact .inr (aOh S0 r j h)
theorem aNs (S0:Ev.St) (ids lC:List Nat):∀(is vs:List Nat) (os:List Obj) (S:Ev.St) (j:Nat) (o:Obj),is.length=vs.length→is.length=os.length→is.Nodup→(∀i∈is,i<S.length)→os[j]? =some o→
 (zF (aDh S0 (sN ids lC is vs os)) S)[is.getD j 0]? =if (aOG S0 (is.getD j 0)&&(Obj.yD ids lC (vs.getD j 0) o).cst)=true then S[is.getD j 0]? else some (Obj.yD ids lC (vs.getD j 0) o)
 |[],_,os,_,_,_,_,h,_,_,ho=>by
  have:os=[]:=List.eq_nil_of_length_eq_zero (by simpa using h.symm)
  subst this;simp at ho
 |i::is,[],_,_,_,_,h,_,_,_,_=>by simp at h
 |i::is,v::vs,[],_,_,_,_,h,_,_,_=>by simp at h
 |i::is,v::vs,o0::os,S,0,o,h1,h2,hnd,hlt,ho=>by
  simp only[List.getElem?_cons_zero,Option.some.injEq]at ho
  subst ho
  obtain ⟨hni,hnd⟩:=List.nodup_cons.1 hnd
  have hk:i∉(aDh S0 (sN ids lC is vs os)).map (·.1):=fun h=>hni (by
   have:=aOh S0 _ _ h
   rw[aLl _ _ _ _ _ (by simpa using h1) (by simpa using h2)]at this;exact this)
  simp only[sN,aDh,List.getD_cons_zero]
  split
  ·rename_i hc
   rw[if_pos hc,aF9 _ _ _ hk]
  ·rename_i hc
   rw[if_neg (by rw[hc];simp)]
   simp only[zF]
   rw[aF9 _ _ _ hk]
   exact List.getElem?_set_self (hlt i (by simp))
 |i::is,v::vs,o0::os,S,j+1,o,h1,h2,hnd,hlt,ho=>by
  obtain ⟨hni,hnd⟩:=List.nodup_cons.1 hnd
  simp only[sN,aDh,List.getD_cons_succ]
  split
  ·exact aNs S0 ids lC is vs os S j o (by simpa using h1) (by simpa using h2) hnd (fun k hk=>hlt k (by simp[hk])) (by simpa using ho)
  ·simp only[zF]
   rw[aNs S0 ids lC is vs os _ j o (by simpa using h1) (by simpa using h2) hnd (fun k hk=>by simpa using hlt k (by simp[hk])) (by simpa using ho)]
   have hne:is.getD j 0≠i:=fun e=>hni (by
    have hj:j<is.length:=by
     have:=(List.getElem?_eq_some_iff.1 ho).1
     simp at this h2;omega
    rw[←e,List.getD_eq_getElem?_getD,List.getElem?_eq_getElem hj];exact List.getElem_mem hj)
   rw[List.getElem?_set_ne (Ne.symm hne)]
theorem aQo {l:List Nat} {j i:Nat} (h:l[j]? =some i):l.getD j 0=i:=by simp[List.getD_eq_getElem?_getD,h]
theorem n9.back {all lC:List Nat} (hb:a9Q all lC wD dD rM St2) {j id v:Nat} {o:Obj} (hid:rM.blk id=wD.blk j) (hc:rM.cap id=wD.cap j) (h:n9 P T S wD dD w j o):n9 P T S rM St2 w id (Obj.yD all lC v o):=by
 cases o with
 |fresh=>trivial
 |dead=>trivial
 |var l row=>
  obtain ⟨cur,e,h1,h2⟩:=h
  exact ⟨cur,e,by rw[hid];exact h1,h2⟩
 |cells c vs=>
  obtain ⟨cur,e,h1,h2,h3,h4⟩:=h
  refine ⟨cur,e,by rw[hid];exact h1,by rw[aBs];exact h2,fun i av hi=> ?_,h4⟩
  rw[aNr]at hi
  obtain ⟨u,hu,rfl⟩:=Option.map_eq_some_iff.1 hi
  exact (h3 i u hu).back hb
 |arr u l c=>
  cases u with
  |succ u=>trivial
  |zero=>
   rcases h with h |⟨rows,cur,e,i,q0,q1,q2,q3,q4,q5,q6,q7,q8⟩
   ·exact .inl h
   ·exact .inr ⟨rows,cur,e,i,q0,by rw[hid];exact q1,q2,q3,q4,by rw[hc];exact q5,by rw[hc];exact q6,by rw[hc];exact q7,q8⟩
 |zA u e l c=>
  cases u with
  |succ u=>trivial
  |zero=>
   rcases h with h |⟨rows,cur,e,i,q0,q1,q2,q3,q4,q5,q6,q7,q8,q9⟩
   ·exact .inl h
   ·exact .inr ⟨rows,cur,e,i,q0,by rw[hid];exact q1,q2,q3,q4,by rw[hc];exact q5,by rw[hc];exact q6,by rw[hc];exact q7,q8,by rw[hid];exact q9⟩
 |map kl vl es=>
  obtain ⟨oW,clock,h1,h2,h3⟩:=h
  exact ⟨oW,clock,by rw[hid];exact h1,h2,h3⟩
 |vE l c i av=>
  rcases h with h |⟨rows,cur,e,inf,q0,q1,q2,q3,q4,q5,q6,q7,q8,q9⟩
  ·exact .inl h
  ·exact .inr ⟨rows,cur,e,inf,q0,by rw[hid];exact q1,q2,q3,q4,by rw[hc];exact q5,by rw[hc];exact q6,by rw[hc];exact q7,q8,fun hi=>⟨(q9 hi).1,(q9 hi).2.1.back hb,(q9 hi).2.2⟩⟩
theorem aLm {all lC:List Nat} {v:Nat} {o:Obj} (h:(Obj.yD all lC v o).has=true):o.has=true∧(Obj.yD all lC v o).sn=o.sn:=by
 cases o with
 |arr u l c=>cases u<;>simp[Obj.yD,Obj.has]at h⊢;cases c<;>simp_all[Obj.has,Obj.sn]
 |zA u e l c=>cases u<;>simp[Obj.yD,Obj.has]at h⊢;cases c<;>simp_all[Obj.has,Obj.sn]
 |fresh=>simp[Obj.yD,Obj.has]at h
 |dead=>simp[Obj.yD,Obj.has]at h
 |vE l c i av=>cases c<;>simp_all[Obj.yD,Obj.has,Obj.sn]
 |_=>simp[Obj.yD,Obj.has,Obj.sn]
noncomputable def Pl.back (pl rM:Pl) (all:List Nat):Pl:=
 ⟨fun id=>if id∈all then rM.blk (all.idxOf id)else pl.blk id,fun id=>if id∈all then rM.cap (all.idxOf id)else pl.cap id⟩
theorem Pl.aB8 {pl rM:Pl} {all:List Nat} (hnd:all.Nodup) {j:Nat} (hj:j<all.length):(pl.back rM all).blk (all.getD j 0)=rM.blk j∧(pl.back rM all).cap (all.getD j 0)=rM.cap j:=by
 have hm:all.getD j 0∈all:=by rw[List.getD_eq_getElem?_getD,List.getElem?_eq_getElem hj];exact List.getElem_mem hj
 have hi:all.idxOf (all.getD j 0)=j:=by
  rw[List.getD_eq_getElem?_getD,List.getElem?_eq_getElem hj]
  exact hnd.idxOf_getElem j hj
 simp only[Pl.back,if_pos hm,hi,and_self]
theorem Pl.a0y {pl rM:Pl} {all:List Nat} {id:Nat} (h:id∉all):(pl.back rM all).blk id=pl.blk id∧(pl.back rM all).cap id=pl.cap id:=by
 simp only[Pl.back,if_neg h,and_self]
end Go.Ev
namespace Go.Ev
variable {E:Env} {P:Program} {T:Nat→yF} {S S' S2:yA} {pl wD rM:Pl} {St dD St2:Ev.St} {F F':Fr} {a:Act} {w w':World}
theorem aYR {all lC:List Nat} (v:Nat) (o':Obj) (h:(Obj.yD all lC v o').cst=true):∃vs,o'= .cells true vs:=by
 cases o' with
 |cells c vs=>
  cases c with
  |true=>exact ⟨vs,rfl⟩
  |false=>simp[Obj.yD,Obj.cst]at h
 |arr u l c=>cases u<;>simp[Obj.yD,Obj.cst]at h
 |zA u e l c=>cases u<;>simp[Obj.yD,Obj.cst]at h
 |_=>simp[Obj.yD,Obj.cst]at h
theorem aUT {all lC:List Nat} (v:Nat) (o':Obj) (h:(Obj.yD all lC v o').cst=false):o'.cst=false:=by
 cases o' with
 |cells c vs=>
  cases c with
  |true=>simp[Obj.yD,Obj.cst]at h
  |false=>rfl
 |_=>rfl
theorem a2w {ids new all lC:List Nat} {en ex:List rN} {r r2:List PV} {St3:Ev.St} (hs:mW P T S pl St w) (hsub:mW P T S (pl.sub ids) dD w) (bDW:dD=aJ1 en r) (bGp:St2=aJ1 ex r2) (hs2:mW P T S2 rM St2 w')
 (hall:all=ids++new) (hfresh:∀i∈new,St[i]? =some .fresh) (hnd:all.Nodup) (hlen:St2.length=all.length) (hlen':dD.length=ids.length) (kT:aJ2 en ex=true) (bAZ:lC=all.map (aMC St))
 (aUU:∀(j:Nat) (o':Obj),dD[j]? =some o'→∃o:Obj,St[ids.getD j 0]? =some o∧aOO o o'∧(o'.has=true→o.has=true))
 (hg:Grow (nW (pl.sub ids) dD) S w S2 w') (hown:∀b,nW (pl.sub ids) dD b→∃i∈ids,∃o,St[i]? =some o∧o.has=true∧o.cst=false∧pl.blk i=b)
 (hy:∀b,nW rM St2 b→nW (pl.sub ids) dD b∨w.heap.size≤b)
 (aWc:∀(j:Nat) (o o':Obj),dD[j]? =some o→St2[j]? =some o'→((∃l row,o'= .var l row)∨(∃c vs,o'= .cells c vs)∨∃kl vl es,o'= .map kl vl es)→rM.blk j=(pl.sub ids).blk j)
 (bGq:aUd (pl.sub ids) dD rM St2)
 (bGr:St3=zF (aDh St (sN all lC all lC St2)) St):
 mW P T S2 (pl.back rM all) St3 w'∧Grow (nW pl St) S w S2 w'∧a9Q all lC rM St2 (pl.back rM all) St3∧kD pl St (pl.back rM all) St3∧(∀b,nW (pl.back rM all) St3 b→nW pl St b∨w.heap.size≤b):=by
 have hvl:all.length=lC.length:=by rw[bAZ];simp
 have vE:all.length=St2.length:=hlen.symm
 have a9R:∀i∈all,i<St.length:=by
  intro i hi
  rw[hall]at hi
  rcases List.mem_append.1 hi with h |h
  ·obtain ⟨j,hj,rfl⟩:=List.getElem_of_mem h
   have hj':j<dD.length:=by omega
   obtain ⟨o,h1,_⟩:=aUU j _ (List.getElem?_eq_getElem hj')
   rw[aQo (List.getElem?_eq_getElem hj)]at h1
   exact (List.getElem?_eq_some_iff.1 h1).1
  ·exact (List.getElem?_eq_some_iff.1 (hfresh i h)).1
 have a2x:∀(j:Nat) (o':Obj),St2[j]? =some o'→St3[all.getD j 0]? =if (aOG St (all.getD j 0)&&(Obj.yD all lC (lC.getD j 0) o').cst)=true then St[all.getD j 0]? else some (Obj.yD all lC (lC.getD j 0) o'):=fun j o' h=>by
  rw[bGr];exact aNs St all lC all lC St2 St j o' hvl vE hnd a9R h
 have a3M:∀id,id∉all→St3[id]? =St[id]? :=fun id h=>by
  rw[bGr];exact aF9 _ _ _ (fun q=>h (by have:=aOh _ _ _ q;rw[aLl _ _ _ _ _ hvl vE]at this;exact this))
 have a6Z:∀(j:Nat) (o':Obj),St2[j]? =some o'→aOG St (all.getD j 0)=true→o'.cst=true→
  ∃vs,St[all.getD j 0]? =some (.cells true vs)∧(∃vs',o'= .cells true vs')∧rM.blk j=pl.blk (all.getD j 0)∧¬nW (pl.sub ids) dD (pl.blk (all.getD j 0)):=fun j o' h hc hc'=>by
  have hv:∃vs,St[all.getD j 0]? =some (.cells true vs):=by
   unfold aOG at hc
   split at hc
   ·rename_i o e
    cases o with
    |cells c vs=>cases c with
     |true=>exact ⟨vs,e⟩
     |false=>simp[Obj.cst]at hc
    |_=>simp[Obj.cst]at hc
   ·simp at hc
  obtain ⟨vs,hv⟩:=hv
  have hv':∃vs',o'= .cells true vs':=by
   cases o' with
   |cells c vs'=>cases c with
    |true=>exact ⟨vs',rfl⟩
    |false=>simp[Obj.cst]at hc'
   |_=>simp[Obj.cst]at hc'
  obtain ⟨vs',rfl⟩:=hv'
  have hj:j<all.length:=by have:=(List.getElem?_eq_some_iff.1 h).1;omega
  have hj2:j<ids.length:=by
   rcases Nat.lt_or_ge j ids.length with q |q
   ·exact q
   ·exfalso
    have:all[j]? =some (all.getD j 0):=by rw[List.getD_eq_getElem?_getD,List.getElem?_eq_getElem hj];rfl
    rw[hall,List.getElem?_append_right q]at this
    have hf:=hfresh _ (List.mem_of_getElem? (hall▸this))
    rw[hv]at hf;cases hf
  have e:all.getD j 0=ids.getD j 0:=by
   rw[hall,List.getD_eq_getElem?_getD,List.getD_eq_getElem?_getD,List.getElem?_append_left hj2]
  refine ⟨vs,hv,⟨vs',rfl⟩, ?_,fun hq=> ?_⟩
  ·rw[aWc j _ _ (List.getElem?_eq_getElem (by omega)) h (.inr (.inl ⟨_,_,rfl⟩)),e];rfl
  ·obtain ⟨i,_,o,h1,h2,h3,h4⟩:=hown _ hq
   have:=hs.inj i _ o _ h1 hv h2 rfl h4
   subst this
   rw[hv]at h1;obtain rfl:=Option.some.inj h1
   simp[Obj.cst]at h3
 have bDX:∀(j:Nat) (o':Obj),St2[j]? =some o'→o'.cst=true→aOG St (all.getD j 0)=true:=fun j o' h hc=>by
  have hj:j<all.length:=by have:=(List.getElem?_eq_some_iff.1 h).1;omega
  obtain ⟨s2,k3,k4⟩:=aF8 ex r2 j o' (by rw[←bGp];exact h)
  have hc2:s2.cst=true:=by rw[←a0x k4];exact hc
  have hen:en.length=ids.length:=by rw[←hlen',bDW,aIl]
  rcases Nat.lt_or_ge j ids.length with q |q
  ·have hj3:j<dD.length:=by omega
   obtain ⟨s1,k1,k2⟩:=aF8 en r j dD[j] (by rw[←bDW];exact List.getElem?_eq_getElem hj3)
   obtain ⟨_,_,_,_,_,_,_,q5⟩:=aKa kT k1 k3
   have hc1:=q5 hc2
   rw[←a0x k2]at hc1
   obtain ⟨o,h1,h2,h3⟩:=aUU j _ (List.getElem?_eq_getElem hj3)
   have hh:(dD[j]).has=true:=by
    generalize dD[j]=o9 at hc1
    cases o9<;>simp_all[Obj.cst,Obj.has]
   have e:all.getD j 0=ids.getD j 0:=by
    rw[hall,List.getD_eq_getElem?_getD,List.getD_eq_getElem?_getD,List.getElem?_append_left q]
   unfold aOG
   rw[e,h1]
   simp only
   rw[h2.cst hh];exact hc1
  ·have:=aXB kT (by omega) k3
   rw[this]at hc2;cases hc2
 have split:∀(id:Nat) (o:Obj),St3[id]? =some o→(∃j o',j<all.length∧id=all.getD j 0∧St2[j]? =some o'∧o=Obj.yD all lC (lC.getD j 0) o'∧o.cst=false)∨
  (¬nW (pl.sub ids) dD (pl.blk id)∨o.has=false)∧St[id]? =some o∧(pl.back rM all).blk id=pl.blk id∧(id∉all∧(pl.back rM all).cap id=pl.cap id∨∃j o' vs,j<all.length∧id=all.getD j 0∧St2[j]? =some o'∧o'.has=true∧rM.blk j=pl.blk id∧o= .cells true vs):=by
  intro id o h
  by_cases hid:id∈all
  ·obtain ⟨j,hj,rfl⟩:=List.getElem_of_mem hid
   have e:=aQo (List.getElem?_eq_getElem hj)
   have hj2:j<St2.length:=by omega
   have hS2:=List.getElem?_eq_getElem hj2
   have:=a2x j _ hS2
   rw[e,h]at this
   by_cases hc:(St2[j]).cst=true
   ·have hca:=bDX j _ hS2 hc
    obtain ⟨vs,v1,⟨vs',v2⟩,v3,v4⟩:=a6Z j _ hS2 hca hc
    rw[e]at hca v1 v3 v4
    have hrc:(Obj.yD all lC (lC.getD j 0) St2[j]).cst=true:=by rw[v2];rfl
    rw[if_pos (by rw[hca,hrc];rfl),v1]at this
    obtain rfl:=Option.some.inj this
    have hb:=(Pl.aB8 (pl:=pl) (rM:=rM) hnd hj).1
    rw[e]at hb
    exact .inr ⟨.inl v4,v1,hb.trans v3,.inr ⟨j,_,vs,hj,e.symm,hS2,by rw[v2];rfl,v3,rfl⟩⟩
   ·have hrc:(Obj.yD all lC (lC.getD j 0) St2[j]).cst=false:=by
     cases hq:(Obj.yD all lC (lC.getD j 0) St2[j]).cst with
     |false=>rfl
     |true=>obtain ⟨vs,q⟩:=aYR _ _ hq;rw[q]at hc;exact absurd rfl hc
    rw[if_neg (by rw[hrc];simp)]at this
    obtain rfl:=Option.some.inj this
    exact .inl ⟨j,St2[j],hj,e.symm,hS2,rfl,hrc⟩
  ·rw[a3M id hid]at h
   obtain ⟨b1,b2⟩:=Pl.a0y (pl:=pl) (rM:=rM) hid
   refine .inr ⟨?_,h,b1,.inl ⟨hid,b2⟩⟩
   by_cases hh:o.has=true
   ·refine .inl fun hq=> ?_
    obtain ⟨i,hi,o1,h1,h2,h3,h4⟩:=hown _ hq
    have:=hs.inj i id o1 o h1 h h2 hh h4
    subst this
    exact hid (by rw[hall];exact List.mem_append_left _ hi)
   ·exact .inr (by simpa using hh)
 have bA0:a9Q all lC rM St2 (pl.back rM all) St3:=by
  intro j o' ho'
  have hj:j<all.length:=by have:=(List.getElem?_eq_some_iff.1 ho').1;omega
  have hg:=a2x j o' ho'
  by_cases hc:(aOG St (all.getD j 0)&&(Obj.yD all lC (lC.getD j 0) o').cst)=true
  ·rw[if_pos hc]at hg
   simp only[Bool.and_eq_true]at hc
   obtain ⟨vs',q⟩:=aYR _ _ hc.2
   obtain ⟨vs,v1,_⟩:=a6Z j o' ho' hc.1 (by rw[q];rfl)
   exact ⟨_,hg.trans v1,.inr ⟨⟨vs,rfl⟩,vs',q⟩,Pl.aB8 hnd hj⟩
  ·rw[if_neg hc]at hg
   exact ⟨_,hg,.inl rfl,Pl.aB8 hnd hj⟩
 have a61:∀b,nW (pl.sub ids) dD b→nW pl St b:=fun b h=>by
  obtain ⟨i,_,o,h1,h2,h3⟩:=hown b h
  exact ⟨i,o,h1,h2,h3⟩
 have hgrow:Grow (nW pl St) S w S2 w':=⟨hg.os,hg.tape,hg.output,hg.size,fun b hb hn=>hg.block b hb (fun h=>hn (a61 b h)),hg.mono,fun b off hb hn=>hg.new b off hb (fun h=>hn (a61 b h))⟩
 have kept:kD pl St (pl.back rM all) St3:=by
  intro id o h hf
  by_cases hid:id∈all
  ·obtain ⟨j,hj,e⟩:=List.getElem_of_mem hid
   have bNg:id∈ids:=by
    rw[hall]at hid
    rcases List.mem_append.1 hid with q |q
    ·exact q
    ·exact absurd (Option.some.inj ((hfresh id q).symm.trans h)).symm hf
   have hj2:j<ids.length:=by
    rcases Nat.lt_or_ge j ids.length with q |q
    ·exact q
    ·exfalso
     have hni:id∈new:=by
      have:all[j]? =some id:=by rw[List.getElem?_eq_getElem hj,e]
      rw[hall,List.getElem?_append_right q]at this
      exact List.mem_of_getElem? this
     exact absurd (Option.some.inj ((hfresh id hni).symm.trans h)).symm hf
   have ei:ids.getD j 0=id:=by
    have h1:all[j]? =some id:=by rw[List.getElem?_eq_getElem hj,e]
    rw[hall,List.getElem?_append_left hj2]at h1
    exact aQo h1
   have ea:all.getD j 0=id:=aQo (by rw[List.getElem?_eq_getElem hj,e])
   have hj3:j<dD.length:=by omega
   have hj4:j<St2.length:=by omega
   have aUV:dD[j]? =some dD[j]:=List.getElem?_eq_getElem hj3
   have aST:St2[j]? =some St2[j]:=List.getElem?_eq_getElem hj4
   generalize ho1:dD[j]=o1 at aUV
   generalize ho2:St2[j]=o2 at aST
   obtain ⟨o0,d1,d2,d3⟩:=aUU j o1 aUV
   rw[ei,h]at d1;obtain rfl:=Option.some.inj d1
   have hs1:∃s,en[j]? =some s∧a6Y s o1:=aF8 en r j o1 (by rw[←bDW];exact aUV)
   have bI7:∃s,ex[j]? =some s∧a6Y s o2:=aF8 ex r2 j o2 (by rw[←bGp];exact aST)
   obtain ⟨s1,k1,k2⟩:=hs1
   obtain ⟨s2,k3,k4⟩:=bI7
   obtain ⟨_,q1,q2,q3,q4,q5⟩:=aKa kT k1 k3
   have a6V:lC.getD j 0=aMC St id:=by
    rw[bAZ]
    simp[List.getD_eq_getElem?_getD,List.getElem?_map,List.getElem?_eq_getElem hj,e]
   obtain ⟨b1,b2⟩:=Pl.aB8 (pl:=pl) (rM:=rM) hnd hj
   rw[ea]at b1 b2
   have hg3:=a2x j o2 aST
   rw[ea]at hg3
   have hsb:(pl.sub ids).blk j=pl.blk id:=by show pl.blk (ids.getD j 0)=_;rw[ei]
   by_cases hcc:(aOG St id&&(Obj.yD all lC (lC.getD j 0) o2).cst)=true
   ·rw[if_pos hcc]at hg3
    simp only[Bool.and_eq_true]at hcc
    obtain ⟨vs',q⟩:=aYR _ _ hcc.2
    obtain ⟨vs,v1,_,v3,_⟩:=a6Z j o2 aST (by rw[ea];exact hcc.1) (by rw[q];rfl)
    rw[ea]at v1 v3
    rw[h]at v1;obtain rfl:=Option.some.inj v1
    exact ⟨_,hg3.trans h,hf,fun l row e=>(by cases e),fun c vs e=>⟨⟨_,_,rfl⟩,b1.trans v3⟩,fun v l' c e=>(by cases e),fun _ _ _ _ e=>(by cases e),fun _ _ _ e=>(by cases e),fun _ _ _ _ e=>(by cases e)⟩
   rw[if_neg hcc]at hg3
   refine ⟨_,hg3,aQl _ _ _ _,fun l row e=> ?_,fun c vs e=> ?_,fun v l c e=> ?_,fun v e l c q=> ?_,fun kl vl es e=> ?_,fun l c i av e=> ?_⟩
   ·have e:=a3I e
    subst e
    cases s2 with
    |var l2=>
     obtain ⟨l0,rfl⟩:=q1 _ rfl
     obtain ⟨a6U,rfl⟩:=k2
     obtain ⟨l9,bI8,rfl⟩:=d2.2.1 _ _ rfl
     exact ⟨⟨_,_,rfl⟩,by rw[b1,aWc j _ _ aUV aST (.inl ⟨_,_,rfl⟩),hsb]⟩
    |cells c vs=>cases vs with
     |nil=>cases k4
     |cons _ _=>obtain ⟨_,q⟩:=k4;cases q
    |arr l=>obtain ⟨_,q⟩:=k4;cases q
    |map kl vl=>obtain ⟨_,q⟩:=k4;cases q
    |zA e l=>obtain ⟨_,q⟩:=k4;cases q
    |vE l s=>obtain ⟨_,_,_,q⟩:=k4;cases q
   ·obtain ⟨vs0,e,_⟩:=aXA e
    subst e
    cases s2 with
    |cells c2 vs2=>cases vs2 with
     |nil=>cases k4
     |cons v2 vs2=>
      obtain ⟨c0,v1,vs1,rfl⟩:=q2 _ _ _ rfl
      obtain ⟨vs9,rfl⟩:=k2
      obtain ⟨l9,bI8,rfl⟩:=d2.2.2.1 _ _ rfl
      exact ⟨⟨_,_,rfl⟩,by rw[b1,aWc j _ _ aUV aST (.inr (.inl ⟨_,_,rfl⟩)),hsb]⟩
    |var l=>obtain ⟨_,q⟩:=k4;cases q
    |arr l=>obtain ⟨_,q⟩:=k4;cases q
    |map kl vl=>obtain ⟨_,q⟩:=k4;cases q
    |zA e l=>obtain ⟨_,q⟩:=k4;cases q
    |vE l s=>obtain ⟨_,_,_,q⟩:=k4;cases q
   ·obtain ⟨eq1,eq2⟩:=a3J e
    subst eq1;subst eq2
    cases s2 with
    |arr l2=>
     have:=q3 _ rfl
     subst this
     obtain ⟨c0,q⟩:=k4
     simp only[Obj.arr.injEq,true_and]at q
     obtain ⟨rfl,rfl⟩:=q
     obtain ⟨c1,rfl⟩:=k2
     obtain ⟨_,v0,rfl⟩:=d2.2.2.2.1 _ _ _ rfl
     rw[a6V]
     simp only[aMC,h]
     exact ⟨v0,_,rfl,Nat.le_succ _,fun q=>by omega⟩
    |cells c vs=>cases vs with
     |nil=>cases k4
     |cons _ _=>obtain ⟨_,q⟩:=k4;cases q
    |var l=>obtain ⟨_,q⟩:=k4;cases q
    |map kl vl=>obtain ⟨_,q⟩:=k4;cases q
    |zA e l=>obtain ⟨_,q⟩:=k4;cases q
    |vE l s=>obtain ⟨_,_,_,q⟩:=k4;cases q
   ·obtain ⟨eq1,eq2⟩:=a0w q
    subst eq1;subst eq2
    cases s2 with
    |zA e2 l2=>
     have:=q5.1 _ _ rfl
     subst this
     obtain ⟨c0,q⟩:=k4
     simp only[Obj.zA.injEq,true_and]at q
     obtain ⟨rfl,rfl,rfl⟩:=q
     obtain ⟨c1,rfl⟩:=k2
     obtain ⟨_,v0,rfl⟩:=d2.2.2.2.2.2.1 _ _ _ _ rfl
     rw[a6V]
     simp only[aMC,h]
     exact ⟨v0,_,rfl,Nat.le_succ _,fun q=>by omega⟩
    |cells c vs=>cases vs with
     |nil=>cases k4
     |cons _ _=>obtain ⟨_,q⟩:=k4;cases q
    |var l=>obtain ⟨_,q⟩:=k4;cases q
    |map kl vl=>obtain ⟨_,q⟩:=k4;cases q
    |arr l=>obtain ⟨_,q⟩:=k4;cases q
    |vE l s=>obtain ⟨_,_,_,q⟩:=k4;cases q
   ·have e:=a3K e
    subst e
    cases s2 with
    |map kl2 vl2=>
     obtain ⟨kl0,vl0,rfl⟩:=q4 _ _ rfl
     obtain ⟨es0,rfl⟩:=k2
     obtain ⟨kl9,vl9,es9,rfl⟩:=d2.2.2.2.2.1 _ _ _ rfl
     exact ⟨⟨_,_,_,rfl⟩,by rw[b1,aWc j _ _ aUV aST (.inr (.inr ⟨_,_,_,rfl⟩)),hsb]⟩
    |cells c vs=>cases vs with
     |nil=>cases k4
     |cons _ _=>obtain ⟨_,q⟩:=k4;cases q
    |var l=>obtain ⟨_,q⟩:=k4;cases q
    |arr l=>obtain ⟨_,q⟩:=k4;cases q
    |zA e l=>obtain ⟨_,q⟩:=k4;cases q
    |vE l s=>obtain ⟨_,_,_,q⟩:=k4;cases q
   ·obtain ⟨av0,e⟩:=a3L e
    subst e
    obtain ⟨c0,i0,av1,rfl,n1,r1⟩:=bGq j o1 l c i av0 aUV aST
    obtain ⟨av2,rfl⟩:=d2.2.2.2.2.2.2.1 _ _ _ _ rfl
    have hsc:(pl.sub ids).cap j=pl.cap id:=by show pl.cap (ids.getD j 0)=_;rw[ei]
    exact ⟨c0,i0,av2,rfl,n1,fun rows hq=>let ⟨cH,x1,x2,x3,x4⟩:=r1 rows hq;⟨cH,x1,x2,b1.trans (x3.trans hsb),b2.trans (x4.trans hsc)⟩⟩
  ·obtain ⟨b1,b2⟩:=Pl.a0y (pl:=pl) (rM:=rM) hid
   exact ⟨o,by rw[a3M id hid];exact h,hf,kD.same b1 b2⟩
 have aUe:∀{id:Nat} {o:Obj},(¬nW (pl.sub ids) dD (pl.blk id)∨o.has=false)→o.has=true→¬nW (pl.sub ids) dD (pl.blk id):=fun h hh=>h.resolve_right (by rw[hh];simp)
 refine ⟨⟨hs2.yM,fun id o h=> ?_,fun id o h hh off hoff=> ?_,fun i j o o' hi hj h1 h2 hbb=> ?_,hs2.fR,fun g t l row e=>⟨(hs2.glo g t l row e).1,fun id o h hh=> ?_⟩⟩,hgrow,bA0,kept,fun b hb=> ?_⟩
 ·rcases split id o h with ⟨j,o',hj,rfl,h2,rfl,_⟩|⟨hno,h2,b1,hq⟩
  ·obtain ⟨b1,b2⟩:=Pl.aB8 (pl:=pl) (rM:=rM) hnd hj
   exact (hs2.objs j o' h2).back bA0 b1 b2
  ·rcases hq with ⟨hid,b2⟩|⟨j,o',vs,_,_,_,_,_,rfl⟩
   ·exact (hs.objs id o h2).keep kept hg.mono b1 b2 (fun hh=>hg.block _ (hs.aAZ h2 hh) (aUe hno hh))
   ·obtain ⟨cur,e,z1,z2,z3,z4⟩:=hs.objs id _ h2
    exact ⟨cur,e,by rw[b1,hg.block _ (hs.aAZ h2 rfl) (aUe hno rfl)];exact z1,z2,fun i av hi=>(z3 i av hi).keep kept hg.mono,z4⟩
 ·rcases split id o h with ⟨j,o',hj,rfl,h2,rfl,_⟩|⟨hno,h2,b1,_⟩
  ·obtain ⟨b1,b2⟩:=Pl.aB8 (pl:=pl) (rM:=rM) hnd hj
   obtain ⟨g1,g2⟩:=aLm hh
   rw[b1];exact hs2.apart j o' h2 g1 off (by rw[←g2];exact hoff)
  ·rw[b1,hg.new _ _ (hs.aAZ h2 hh) (aUe hno hh)]
   exact hs.apart id o h2 hh off hoff
 ·have mixed:∀(j id:Nat) (o' o:Obj),j<all.length→St2[j]? =some o'→o'.has=true→o'.cst=false→(¬nW (pl.sub ids) dD (pl.blk id)∨o.has=false)→St[id]? =some o→o.has=true→rM.blk j=pl.blk id→False:=by
   intro j id o' o hj h2 hh hc hno h hh2 hb
   rcases hy (rM.blk j) ⟨j,o',h2,hh,hc,rfl⟩with q |q
   ·rw[hb]at q;exact aUe hno hh2 q
   ·have:=hs.aAZ h hh2;omega
  rcases split i o hi with ⟨k,o1,hk,rfl,g1,rfl,gc⟩|⟨hno,g1,b1,_⟩
  ·obtain ⟨b1,_⟩:=Pl.aB8 (pl:=pl) (rM:=rM) hnd hk
   rcases split j o' hj with ⟨k',o1',hk',rfl,g1',rfl,gc'⟩|⟨bGu,g1',b1',_⟩
   ·obtain ⟨b1',_⟩:=Pl.aB8 (pl:=pl) (rM:=rM) hnd hk'
    rw[b1,b1']at hbb
    rw[hs2.inj k k' o1 o1' g1 g1' (aLm h1).1 (aLm h2).1 hbb]
   ·rw[b1,b1']at hbb
    exact (mixed k j o1 o' hk g1 (aLm h1).1 (aUT _ _ gc) bGu g1' h2 hbb).elim
  ·rcases split j o' hj with ⟨k',o1',hk',rfl,g1',rfl,gc'⟩|⟨bGu,g1',b1',_⟩
   ·obtain ⟨b1',_⟩:=Pl.aB8 (pl:=pl) (rM:=rM) hnd hk'
    rw[b1,b1']at hbb
    exact (mixed k' i o1' o hk' g1' (aLm h2).1 (aUT _ _ gc') hno g1 h1 hbb.symm).elim
   ·rw[b1,b1']at hbb
    exact hs.inj i j o o' g1 g1' h1 h2 hbb
 ·rcases split id o h with ⟨j,o',hj,rfl,h2,rfl,_⟩|⟨hno,h2,b1,_⟩
  ·obtain ⟨b1,_⟩:=Pl.aB8 (pl:=pl) (rM:=rM) hnd hj
   rw[b1];exact (hs2.glo g t l row e).2 j o' h2 (aLm hh).1
  ·rw[b1];exact (hs.glo g t l row e).2 id o h2 hh
 ·obtain ⟨id,o,h,hh,hc,hbb⟩:=hb
  rcases split id o h with ⟨j,o',hj,rfl,h2,rfl,_⟩|⟨hno,h2,b1,_⟩
  ·obtain ⟨b1,_⟩:=Pl.aB8 (pl:=pl) (rM:=rM) hnd hj
   rw[b1]at hbb
   rcases hy b ⟨j,o',h2,(aLm hh).1,aUT _ _ hc,hbb⟩with q |q
   ·exact .inl (a61 b q)
   ·exact .inr q
  ·rw[b1]at hbb
   exact .inl ⟨id,o,h2,hh,hc,hbb⟩
theorem aUW (hs:mW P T S pl St w) (hF:wX P T S pl St F a.tmps):∀(xs:List Operand) (axs:List rD),mG P T xs axs=true→xs.length=axs.length∧∀i av,(axs.map (·.ev F))[i]? =some av→iB P T S pl St av ((xs.map a.eval).getD i undef)
 |[],[],_=>⟨rfl,fun i av h=>by simp at h⟩
 |[],_::_,h=>by simp[mG]at h
 |_::_,[],h=>by simp[mG]at h
 |x::xs,ax::axs,h=>by
  simp only[mG,Bool.and_eq_true]at h
  obtain ⟨h1,h2⟩:=aUW hs hF xs axs h.2
  refine ⟨by simp[h1],fun i av hi=> ?_⟩
  cases i with
  |zero=>simp at hi;subst hi;simpa using sC hs h.1 hF
  |succ i=>simpa using h2 i av (by simpa using hi)
theorem aSU (l:List Value) (n:Nat) (h:l.length=n):(List.range n).map (fun i=>l.getD i undef)=l:=by
 apply List.ext_getElem?
 intro i
 by_cases hi:i<l.length
 ·simp[←h,hi]
 ·simp[←h,hi]
theorem aYS {A:Type} {o:Oper} {x:Operand} {xs:Array Operand} {ts:Array TypeId} {f:Nat} {ax:Option rD} {axs:List rD} {k:List AV→Option A} {res:A} (hs:mW P T S pl St w) (hF:wX P T S pl St F a.tmps)
 (ho:o.op= .call {callee:= .value x,args:=xs,argTypes:=ts}) (hxs:mG P T xs.toList axs=true)
 (hx:aUb P T x f ax=true) (h:vM F f ax axs k=some res):
 ∃(vs:List AV) (vals:Nat→Value),k vs=some res∧(∀j u,vs[j]? =some u→iB P T S pl St u (vals j))∧
  (execOp a.eval o).run P w=(callFunc f ((List.range vs.length).map vals).toArray).run P w:=by
 obtain ⟨hl,hv⟩:=aUW hs hF _ _ hxs
 have e0:(List.map a.eval xs.toList).toArray=Array.map a.eval xs:=by apply Array.ext';simp
 unfold vM at h
 split at h
 ·refine ⟨_,fun i=>(xs.toList.map a.eval).getD i undef,h,hv, ?_⟩
  simp only[aUb]at hx
  unfold bAY at hx
  split at hx
  ·rename_i f' ho
   obtain rfl:=Nat.eq_of_beq_eq_true hx
   have e:((List.range (axs.map (·.ev F)).length).map fun i=>(xs.toList.map a.eval).getD i undef)=xs.toList.map a.eval:=aSU _ _ (by simpa using hl)
   rw[e,e0]
   unfold execOp
   simp[ho,resolve,Deferred.ofValue,invoke,Act.eval]
  ·simp at hx
 ·rename_i ay
  split at h
  ·rename_i f' caps ey
   obtain ⟨hb,hk⟩:=lA h
   obtain rfl:=Nat.eq_of_beq_eq_true hb
   simp only[aUb]at hx
   have hvx:=sC hs hx hF
   rw[ey]at hvx
   generalize hq:a.eval x=q at hvx
   cases hvx with
   |fn cv hcv=>
    refine ⟨_,fun i=>if i<axs.length then (xs.toList.map a.eval).getD i undef else cv (i - axs.length),hk,fun j u hj=> ?_, ?_⟩
    ·by_cases hjl:j<axs.length
     ·rw[List.getElem?_append_left (by simpa using hjl)]at hj
      simp only[if_pos hjl];exact hv j u hj
     ·rw[List.getElem?_append_right (by simp;omega)]at hj
      simp only[if_neg hjl]
      simpa using hcv _ u hj
    ·have e:((List.range (axs.map (·.ev F)++caps).length).map fun i=>if i<axs.length then (xs.toList.map a.eval).getD i undef else cv (i - axs.length))=xs.toList.map a.eval++(List.range caps.length).map cv:=by
      apply List.ext_getElem?
      intro i
      by_cases h1:i<axs.length
      ·rw[List.getElem?_append_left (by simp at hl;simp;omega)]
       have h2:i<xs.size:=by simp at hl;omega
       have h3:i<axs.length+caps.length:=by omega
       simp[h1,h2,h3]
      ·rw[List.getElem?_append_right (by simp at hl;simp;omega)]
       have h4:xs.size=axs.length:=by simpa using hl
       by_cases h2:i<axs.length+caps.length
       ·have h5:i - axs.length<caps.length:=by omega
        simp[h1,h2,h4,h5]
       ·have h5:¬i - axs.length<caps.length:=by omega
        simp[h1,h2,h4,h5]
     rw[e]
     unfold execOp
     simp[ho,resolve,Deferred.ofValue,invoke,hq]
     congr 2
     apply Array.ext'
     simp
  ·simp at h
theorem a62 {yL:List AV} {vs:List Value} (hl:vs.length=yL.length) (h:∀i av,yL[i]? =some av→iB P T S pl St av (vs.getD i Go.undef)):iB P T S pl St (bC5 yL) (aPe vs):=by
 have tup:iB P T S pl St (.tup yL) (.tuple vs.toArray):=by
  have:=iB.tup (P:=P) (T:=T) (S:=S) (pl:=pl) (St:=St) (yL:=yL) (fun i=>vs.getD i Go.undef) h
  rw[aSU vs yL.length hl]at this;exact this
 match yL,vs,hl with
 |[v],[u],_=>simpa[bC5,aPe]using h 0 v rfl
 |[],[],_=>exact tup
 |_::_::_,_::_::_,_=>exact tup
theorem a9S {o:Oper} {base i f new:Nat} {en ex:Shape} {ids:List Nat} {ax:Option rD} {axs:List rD} {av:AV} {us:List (Nat×Obj)} {rd:List Nat} (hs:mW P T S pl St w) (hF:wX P T S pl St F a.tmps) (hic:bGo P T E.ic)
 (hok:fG P T o.op (.aBZ i f en ex ids new ax axs)=true)
 (h:opK E F St (.aBZ i f en ex ids new ax axs) base (fun v us rd=>some (v,us,rd))=some (av,us,rd)):cE P o a w (bB P T S pl St w (zF us St) av):=by
 simp only[fG]at hok
 split at hok
 ·rename_i x xs ts ho
  simp only[Bool.and_eq_true]at hok
  obtain ⟨⟨hT,hxs⟩,hx⟩:=hok
  split at hT
  ·rename_i af hTi
   simp only[Bool.and_eq_true]at hT
   obtain rfl:=Nat.eq_of_beq_eq_true hT.1.1
   obtain rfl:=Shape.beq_eq hT.1.2
   obtain rfl:=Shape.beq_eq hT.2
   simp only[opK]at h
   obtain ⟨vs,vals,h1,hv,hrun⟩:=aYS hs hF ho hxs hx h
   obtain ⟨hck,h2⟩:=lA h1
   simp only[Bool.and_eq_true]at hck
   obtain ⟨⟨⟨⟨⟨c1,c2⟩,c3⟩,c4⟩,c5⟩,c6⟩:=hck
   obtain ⟨ps,hp,h3⟩:=Option.bind_eq_some_iff.1 h2
   obtain ⟨ps',hc,h4⟩:=Option.bind_eq_some_iff.1 h3
   have hle:ids.length≤af.exit.objs.length:=by simpa using c5
   have hnd:=aLk c4
   have bJc:ids.Nodup:=(List.nodup_append.1 hnd).1
   obtain ⟨yL,r,dD,g1,g2,g3,g4,g5,g6,g7,g8,g9,g10⟩:=a0v hs bJc c1 hv hp
   obtain ⟨e1,e2⟩:=hic i af hTi ps ps' hc S (pl.sub ids) dD w yL r vals g1 g2 g7 g8
   intro next Q hn
   unfold Oper.wp
   rw[hrun,←g3,e1,Oper.upon_enter]
   refine e2.mono fun e w' he=> ?_
   obtain ⟨S2,rM,St2,aQm,r2,out,k1,k2,rfl,k4,k5,k6,k7,k8,k9⟩:=he
   rw[k1]at h4
   simp only[Option.some.injEq,Prod.mk.injEq]at h4
   obtain ⟨rfl,rfl,rfl⟩:=h4
   rw[←k2]at hn
   have bA1:St2.length=(ids++xE (base+new) (af.exit.objs.length - ids.length)).length:=by
    rw[k2,aIl,List.length_append,aMF];omega
   obtain ⟨p1,p2,p3,p4,p5⟩:=a2w (ids:=ids) (new:=xE (base+new) (af.exit.objs.length - ids.length)) (all:=ids++xE (base+new) (af.exit.objs.length - ids.length)) hs g7 g2 k2 k5 rfl (aOP c3) hnd bA1 g4 c6 rfl g10 k6 g9 k8 k9.1 k9.2 rfl
   refine hn _ _ ⟨S2,_,p1,p2, ?_,fun _ _ hq=>hq.keep p4 p2.mono,p5⟩
   refine a62 (by rw[aBs];exact k4) (fun j u hj=> ?_)
   rw[aNr]at hj
   obtain ⟨u0,hu0,rfl⟩:=Option.map_eq_some_iff.1 hj
   exact (k7 j u0 hu0).back p3
  ·simp at hT
 ·simp at hok
end Go.Ev
