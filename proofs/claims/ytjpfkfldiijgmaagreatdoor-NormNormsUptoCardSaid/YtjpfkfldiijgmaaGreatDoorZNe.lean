/-
  The reference's search for a step.
-/
import Derived.Test.YtjpfkfldiijgmaaGreatDoorZNa
set_option linter.all false
set_option maxRecDepth 100000
namespace Go.Ev.jJ
theorem a06 (p:List Int) (i:Int) (hp:p.length+1≤big):(cA T).pc aC5 [[iJ true (dB p)],[.int i]]=some [[iJ true (dB (p++[i]))]]:=by
 rw[aPX];unfold aFR
 have e1:uE .bA (dB p)=iJ true (dB p):=by
  cases p<;>rfl
 have hp':p.length+1≤4294967296:=hp
 refine cH.eq (.pos ?_ (.pos ?_ (.some ?_)))
 ·rw[jC,vJ];omega
 ·rw[jC,e1,jC,vJ];simp;omega
 ·rw[jC,e1,aHl,aRl];rfl
theorem aSA:∀l:dA,(bM l).length=(nodes l).length:=by
 intro l
 have h:∀k∈l.kids,(bM k).length=(nodes k).length:=fun k hk=>by
  have:=dA.lD hk
  exact aSA k
 rw[aHj,nodes_eq]
 have key:∀(ks:List dA) (i:Nat),(∀k∈ks,(bM k).length=(nodes k).length)→(nR i ks).length=(yB ks).length:=by
  intro ks
  induction ks with
  |nil=>intro i _;simp[nR,yB]
  |cons k r ih=>intro i hk;simp only[nR,yB,List.length_append,List.length_map,hk k (by simp),ih (i+1) (fun x hx=>hk x (by simp[hx]))]
 simp only[List.length_cons,key l.kids 0 h]
 termination_by l=>SizeOf.sizeOf l
def cY (p:List Int):Row:=[iJ true (dB p)]
theorem a4n (l:dA) (h:nF l) (p:List Int) (hp:p.length+l.mB≤big) (hc:∀k∈l.kids,∀i:Int,(cA T).pc fJ [k.row,[iJ true (dB (p++[i]))]]=some [[.sl ((bM k).map fun q=>cY (p++[i]++q))]]):∀(j i:Nat) (acc:List (List Int)),i+j=l.kids.length→acc.length+(nR i (l.kids.drop i)).length≤big→
 lP (cA T) (iJ true (dB p)) l.kc (l.kids.length:Int) (i:Int) (.sl (acc.map fun q=>cY (p++q)))=some (0,[.r [.sl ((acc++nR i (l.kids.drop i)).map fun q=>cY (p++q))]])
 |0,i,acc,hh,hb=>by
  rw[aFn];unfold jW
  obtain rfl:i=l.kids.length:=by omega
  rw[if_neg (by simp),List.drop_length]
  simp only[nR,List.append_nil]
 |j+1,i,acc,hh,hb=>by
  rw[aFn];unfold jW
  have hi:i<l.kids.length:=by omega
  have hk:=h.kids
  have hbp:=l.aNm
  rw[List.drop_eq_getElem_cons hi]at hb⊢
  simp only[nR,List.length_append,List.length_map]at hb
  have ih:=a4n l h p hp hc j (i+1) (acc++(bM l.kids[i]).map fun q=>(i:Int)::q) (by omega) (by simp only[List.length_append,List.length_map];omega)
  have hb':acc.length+((bM l.kids[i]).length+(nR (i+1) (List.drop (i+1) l.kids)).length)≤4294967296:=hb
  refine cH.eq (.pos (dec_lt hi) (.pos (aHZ hi) (.jB (a06 p i (by omega)) ?_)))
  rw[tT hi]
  refine .jB (hc _ (List.getElem_mem hi) i) (.pos ?_ ?_)
  ·simp only[fA,gA,aCi,List.length_map];omega
  ·rw[uB (show i≤big by omega)]
   have e:uE (.sl (acc.map fun q=>cY (p++q))) ((bM l.kids[i]).map fun q=>cY (p++[(i:Int)]++q))= .sl ((acc++(bM l.kids[i]).map fun q=>(i:Int)::q).map fun q=>cY (p++q)):=by
    show C.sl ((acc.map fun q=>cY (p++q))++_)=_
    simp only[List.map_append,List.map_map,Function.comp_def,List.append_assoc,List.cons_append,List.nil_append]
   refine ⟨_, ?_,rfl⟩
   show lP (cA T) _ _ _ _ (uE (.sl (acc.map fun q=>cY (p++q))) ((bM l.kids[i]).map fun q=>cY (p++[(i:Int)]++q)))=_
   rw[e,ih]
   simp only[nR,List.append_assoc]
theorem aVI (l:dA) (h:nF l) (p:List Int) (hp:p.length+l.mB≤big):(cA T).pc fJ [l.row,[iJ true (dB p)]]=some [[.sl ((bM l).map fun q=>cY (p++q))]]:=by
 have aBw:∀k∈l.kids,∀i:Int,(cA T).pc fJ [k.row,[iJ true (dB (p++[i]))]]=some [[.sl ((bM k).map fun q=>cY (p++[i]++q))]]:=fun k hk i=>by
  have:=dA.lD hk
  have:=dA.aE4 hk
  exact aVI k (h.kid hk) (p++[i]) (by simp;omega)
 rw[aRh];unfold aHO
 have hl:=a4n l h p hp aBw l.kids.length 0 [[]] (by omega) (by
  have h1:=aSA l
  rw[aHj]at h1
  have h2:=aVJ l
  have h3:=h.mB
  rw[List.drop_zero]
  simp only[List.length_cons,List.length_nil]at h1⊢
  omega)
 have e:(C.sl ([[iJ true (dB p)]]:List Row))= .sl ([[]].map fun q=>cY (p++q)):=by simp[cY]
 rw[List.drop_zero,show ((0:Nat):Int)=0 from rfl,←e]at hl
 rw[uC,dA.cD,List.length_map,hl,aHj]
 rfl
 termination_by SizeOf.sizeOf l
def aXf:List Int→dA→Prop
 |[],_=>True
 |i::p,l=>0≤i∧i<(l.kids.length:Int)∧aXf p (l.kids.getD i.toNat xF)
theorem aX6:∀(l:dA),∀p∈bM l,aXf p l:=by
 intro l
 have h:∀k∈l.kids,∀p∈bM k,aXf p k:=fun k hk=>by
  have:=dA.lD hk
  exact aX6 k
 rw[aHj]
 have key:∀(ks:List dA) (i:Nat),(∀j (hj:j<ks.length),i+j<l.kids.length∧l.kids.getD (i+j) xF=ks[j])→(∀k∈ks,∀p∈bM k,aXf p k)→∀p∈nR i ks,aXf p l:=by
  intro ks
  induction ks with
  |nil=>intro i _ _ p hp;simp[nR]at hp
  |cons k r ih=>
   intro i hi hk p hp
   simp only[nR,List.mem_append,List.mem_map]at hp
   rcases hp with ⟨q,hq,rfl⟩|hp
   ·have h0:=hi 0 (by simp)
    rw[Nat.add_zero]at h0
    refine ⟨by omega,by omega, ?_⟩
    rw[Int.toNat_natCast,h0.2]
    exact hk k (by simp) q hq
   ·refine ih (i+1) (fun j hj=> ?_) (fun x hx=>hk x (by simp[hx])) p hp
    have h0:=hi (j+1) (by simp;omega)
    rw[show i+1+j=i+(j+1) by omega]
    exact h0
 intro p hp
 rcases List.mem_cons.1 hp with rfl |hp
 ·trivial
 ·exact key l.kids 0 (fun j hj=>⟨by omega,by rw[Nat.zero_add];exact uZ hj⟩) h p hp
 termination_by l=>SizeOf.sizeOf l
theorem aKk {l:List dA} {i:Nat} (h:i<l.length):l.getD i xF∈l:=by rw[uZ h];exact List.getElem_mem h
theorem a4o (c:C) (p0:List Int) (hc:c.rows=dB p0) (hp:p0.length≤big) (z:Row):∀(j i:Nat) (l:dA),i+j=p0.length→aXf (p0.drop i) l→
 mZ (cA T) c c (p0.length:Int) (i:Int) l.row z=some (0,[.r [c],.r (atP (p0.drop i) l).row,.r z])
 |0,i,l,hh,hv=>by
  rw[aGh];unfold nZ
  obtain rfl:i=p0.length:=by omega
  rw[if_neg (by simp),List.drop_length];rfl
 |j+1,i,l,hh,hv=>by
  rw[aGh];unfold nZ
  have hi:i<p0.length:=by omega
  rw[List.drop_eq_getElem_cons hi]at hv⊢
  obtain ⟨h1,h2,h3⟩:=hv
  have ih:=a4o c p0 hc hp z j (i+1) _ (by omega) h3
  have e1:(at_ (aA c.rows (i:Int).toNat) 0).tA=p0[i]:=by
   rw[hc,Int.toNat_natCast]
   unfold dB
   rw[fC _ _ _ hi];rfl
  have e2:(at_ l.row 13).rows.length=l.kids.length:=by rw[uC,dA.cD,List.length_map]
  refine cH.eq (.pos (dec_lt hi) (.pos (aDo (by rw[hc,vJ];exact hi)) (.ite (fun h=> ?_) fun _=> .pos ?_ ?_)))
  ·have:=of_decide_eq_true h
   rw[e1,e2]at this;omega
  ·rw[e1,e2];exact ⟨h1,h2⟩
  ·refine ⟨_, ?_,rfl⟩
   obtain ⟨n,hn⟩:=Int.eq_ofNat_of_zero_le h1
   have hn':n<l.kids.length:=by omega
   rw[e1,uB (show i≤big by omega),uC]
   rw[hn,Int.toNat_natCast]at ih⊢
   have e3:aA l.kc.rows n=(l.kids.getD n xF).row:=by
    have:=tT hn'
    rw[Int.toNat_natCast]at this
    rw[this,uZ hn']
   rw[e3,ih];rfl
theorem a25 (l:dA) (p:List Int) (hp:p.length≤big) (hv:aXf p l):∃a b,(cA T).pc aF2 [l.row,cY p]=some [(atP p l).row,a,b]:=by
 refine ⟨[.int (p.length:Int)],[.bool true], ?_⟩
 refine (aSu l.row _).trans ?_
 unfold aJS
 have hc:(iJ true (dB p)).rows=dB p:=jC _ _
 have e:=a4o (iJ true (dB p)) p hc hp iF p.length 0 l (by omega) hv
 rw[show ((0:Nat):Int)=0 from rfl,List.drop_zero]at e
 have hl:((iJ true (dB p)).rows.length:Int)=(p.length:Int):=by rw[hc,vJ]
 have e5:iF=[.int 0,.str [],.str [],.bA,.int 0,.int 0,.int 0,.int 0,.int 0,.int 0,.str [],.bA,.bA,.bA]:=rfl
 rw[e5]at e
 rw[hl,e]
 simp only[Option.bind_some,nD,jD,xB,hl]
def aKX (rule:Int) (l:dA):List (List Int)→Option (List Int×Nat)
 |[]=>none
 |q::qs=>match aNZ (fun a=>(bV rule (a:Int) q l).isSome) 0 (max 1 (atP q l).kids.length)with
  |some a=>some (q,a)
  |none=>aKX rule l qs
theorem aX7 (rule:Int) (l:dA) (i:Nat) (k:dA) (hi:i<l.kids.length) (hk:l.kids.getD i xF=k) (rest:List (List Int)):∀qs:List (List Int),
 aKX rule l (qs.map (fun p=>(i:Int)::p)++rest)=match aKX rule k qs with |some (p,a)=>some ((i:Int)::p,a)|none=>aKX rule l rest
 |[]=>rfl
 |q::qs=>by
  have ih:=aX7 rule l i k hi hk rest qs
  simp only[List.map_cons,List.cons_append,aKX]
  have e1:atP ((i:Int)::q) l=atP q k:=by rw[atP,Int.toNat_natCast,hk]
  have e2:∀a:Nat,(bV rule (a:Int) ((i:Int)::q) l).isSome=(bV rule (a:Int) q k).isSome:=fun a=>by
   rw[bV,if_pos ⟨by omega,by omega⟩,Int.toNat_natCast,hk,Option.isSome_map]
  simp only[e1,e2,ih]
  cases aNZ (fun a=>(bV rule (a:Int) q k).isSome) 0 (max 1 (atP q k).kids.length)<;>rfl
theorem aX8 (rule:Int):∀l:dA,aKX rule l (bM l)=aAB rule l:=by
 intro l
 have h:∀k∈l.kids,aKX rule k (bM k)=aAB rule k:=fun k hk=>by
  have:=dA.lD hk
  exact aX8 rule k
 have key:∀(ks:List dA) (i:Nat),(∀j (hj:j<ks.length),i+j<l.kids.length∧l.kids.getD (i+j) xF=ks[j])→(∀k∈ks,aKX rule k (bM k)=aAB rule k)→aKX rule l (nR i ks)=aM3 rule i ks:=by
  intro ks
  induction ks with
  |nil=>intro i _ _;rfl
  |cons k r ih=>
   intro i hi hk
   have h0:=hi 0 (by simp)
   rw[Nat.add_zero]at h0
   rw[nR,aX7 rule l i k h0.1 h0.2,aM3,hk k (by simp),ih (i+1) (fun j hj=>by
    have h0:=hi (j+1) (by simp;omega)
    rw[show i+1+j=i+(j+1) by omega]
    exact h0) (fun x hx=>hk x (by simp[hx]))]
   cases aAB rule k<;>rfl
 rw[aHj,aKX,aRk,key l.kids 0 (fun j hj=>⟨by omega,by rw[Nat.zero_add];exact uZ hj⟩) h]
 rfl
 termination_by l=>SizeOf.sizeOf l
theorem aTi:∀(l:dA),∀p∈bM l,p.length+1≤l.mB:=by
 intro l
 have h:∀k∈l.kids,∀p∈bM k,p.length+1≤k.mB:=fun k hk=>by
  have:=dA.lD hk
  exact aTi k
 rw[aHj]
 have hb:=l.aNm
 have key:∀(ks:List dA) (i:Nat),(∀k∈ks,k∈l.kids)→∀p∈nR i ks,p.length+1≤l.mB:=by
  intro ks
  induction ks with
  |nil=>intro i _ p hp;simp[nR]at hp
  |cons k r ih=>
   intro i hk p hp
   simp only[nR,List.mem_append,List.mem_map]at hp
   rcases hp with ⟨q,hq,rfl⟩|hp
   ·have h1:=h k (hk k (by simp)) q hq
    have h2:=dA.aE4 (hk k (by simp))
    simp only[List.length_cons];omega
   ·exact ih (i+1) (fun x hx=>hk x (by simp[hx])) p hp
 intro p hp
 rcases List.mem_cons.1 hp with rfl |hp
 ·simpa using hb
 ·exact key l.kids 0 (fun k hk=>hk) p hp
 termination_by l=>SizeOf.sizeOf l
theorem a07:∀(p:List Int) (l:dA),nF l→aXf p l→(atP p l).kids.length≤big
 |[],l,h,_=>h.kids
 |i::p,l,h,hv=>by
  obtain ⟨h1,h2,h3⟩:=hv
  exact a07 p _ (h.kid (aKk (by omega))) h3
def bEm (l:dA) (r:List Row):Option (List Int×Nat×Nat)→Prop
 |some (p,q,a)=>∃o,bV (q:Int) (a:Int) p l=some o∧r=[o.row,aAC p q a,[.bool true]]
 |none=>r=[l.row,[.bA,.int 0,.int 0],[.bool false]]
theorem a8x (l:dA) (h:nF l) (hA:ArA l) (rule:Nat) (p:List Int) (v1 v5:C) (v4 v6 v7:Int) (v10 v11:Row) (m:Nat) (hm:m≤big):∀(j i:Nat),i+j=m→
 ∃r,hU (cA T) (.dp l.row) v1 (rule:Int) (iJ true (dB p)) v4 v5 v6 v7 (m:Int) (i:Int) v10 v11=some r∧match aNZ (fun a=>(bV (rule:Int) (a:Int) p l).isSome) i j with
  |some a=>∃o,bV (rule:Int) (a:Int) p l=some o∧r=(1,[.r [.bool true],.r o.row,.r (aAC p rule a)])
  |none=>r=(0,[.r [.dp l.row],.r [v1],.r [.int (rule:Int)],.r [.int v4],.r [v5],.r [.int v6],.r [.int v7],.r v10,.r v11])
 |0,i,hh=>by
  rw[aHV];unfold aA2
  obtain rfl:i=m:=by omega
  rw[if_neg (by simp)]
  exact ⟨_,rfl,rfl⟩
 |j+1,i,hh=>by
  rw[aHV];unfold aA2
  obtain ⟨r,e1,e2⟩:=aVH (rule:Int) (i:Int) p l h hA (iJ true (dB p)) (jC _ _)
  rw[if_pos (decide_eq_true (show (i:Int)<(m:Int) by omega)),if_pos (fB l.row),wA,e1,Option.bind_some,aNZ]
  cases hp:bV (rule:Int) (i:Int) p l with
  |some o=>
   rw[hp]at e2
   have e2:r=[o.row,[.bool true]]:=e2
   subst e2
   simp only[iD,fA,gA,iA,if_true,Option.isSome_some]
   exact ⟨_,rfl,o,hp,rfl⟩
  |none=>
   rw[hp]at e2
   obtain ⟨row,rfl⟩:=e2
   have ih:=a8x l h hA rule p v1 v5 v4 v6 v7 v10 v11 m hm j (i+1) (by omega)
   simp only[iD,fA,gA,iA,Bool.false_eq_true,if_false,Option.isSome_none,uB (show i≤big by omega)]
   exact ih
theorem a8y (l:dA) (h:nF l) (hA:ArA l) (rule:Nat) (v1:C) (v3:Int) (v7 v8:Row) (ps:List (List Int)) (hps:∀p∈ps,aXf p l∧p.length≤big) (hN:ps.length≤big):∀(j i:Nat),i+j=ps.length→
 ∃r,aA4 (cA T) (.dp l.row) v1 (rule:Int) v3 (.sl (ps.map cY)) (ps.length:Int) (i:Int) v7 v8=some r∧match aKX (rule:Int) l (ps.drop i)with
  |some (p,a)=>∃o,bV (rule:Int) (a:Int) p l=some o∧r=(1,[.r [.bool true],.r o.row,.r (aAC p rule a)])
  |none=>r=(0,[.r [.dp l.row],.r [v1],.r [.int v3],.r v7,.r v8])
 |0,i,hh=>by
  rw[aHW];unfold aA5
  obtain rfl:i=ps.length:=by omega
  rw[if_neg (by simp),List.drop_length]
  exact ⟨_,rfl,rfl⟩
 |j+1,i,hh=>by
  rw[aHW];unfold aA5
  have hi:i<ps.length:=by omega
  have hp:=hps _ (List.getElem_mem hi)
  obtain ⟨a,b,e1⟩:=a25 l ps[i] hp.2 hp.1
  have hk:=a07 ps[i] l h hp.1
  rw[if_pos (dec_lt hi),if_pos (aDo (by simpa using hi)),if_pos (fB l.row),wA,aCi,Int.toNat_natCast,fC _ _ _ hi]
  have e0:[at_ (cY ps[i]) 0]=cY ps[i]:=rfl
  rw[e0,e1,Option.bind_some,fA,uC,dA.cD,List.length_map,a4l]
  obtain ⟨r,e2,e3⟩:=a8x l h hA rule ps[i] v1 (.sl (ps.map cY)) v3 (ps.length:Int) (i:Int) v7 v8 (max 1 (atP ps[i] l).kids.length) (by unfold big at*;omega) (max 1 (atP ps[i] l).kids.length) 0 (by omega)
  have e2':hU (cA T) (.dp l.row) v1 (rule:Int) (at_ (cY ps[i]) 0) v3 (.sl (ps.map cY)) (ps.length:Int) (i:Int) ((max 1 (atP ps[i] l).kids.length:Nat):Int) 0 v7 v8=some r:=e2
  rw[e2',Option.bind_some,List.drop_eq_getElem_cons hi,aKX]
  cases hf:aNZ (fun a=>(bV (rule:Int) (a:Int) ps[i] l).isSome) 0 (max 1 (atP ps[i] l).kids.length)with
  |some a=>
   rw[hf]at e3
   obtain ⟨o,e4,rfl⟩:=e3
   exact ⟨_,rfl,o,e4,rfl⟩
  |none=>
   rw[hf]at e3
   have e3:r=_:=e3
   subst e3
   have ih:=a8y l h hA rule v1 v3 v7 v8 ps hps hN j (i+1) (by omega)
   simp only[iC,xB,wC,rC,nD,jD,uB (show i≤big by omega)]
   exact ih
theorem a8z (l:dA) (h:nF l) (hA:ArA l) (v3 v4:Row) (ps:List (List Int)) (hps:∀p∈ps,aXf p l∧p.length≤big) (hN:ps.length≤big) (hall:∀r:Int,aKX r l ps=aAB r l):∀(j i:Nat),i+j=8→
 ∃r,iU (cA T) (.dp l.row) (.sl (ps.map cY)) (i:Int) v3 v4=some r∧match aHY l i j with
  |some (p,q,a)=>∃o,bV (q:Int) (a:Int) p l=some o∧r=(1,[.r [.bool true],.r o.row,.r (aAC p q a)])
  |none=>r=(0,[.r [.dp l.row],.r v3,.r v4])
 |0,i,hh=>by
  rw[aHX];unfold aA7
  obtain rfl:i=8:=by omega
  exact ⟨_,rfl,rfl⟩
 |j+1,i,hh=>by
  rw[aHX];unfold aA7
  obtain ⟨r,e2,e3⟩:=a8y l h hA i (.sl (ps.map cY)) (i:Int) v3 v4 ps hps hN ps.length 0 (by omega)
  rw[List.drop_zero,hall,show ((0:Nat):Int)=0 from rfl]at*
  rw[if_pos (decide_eq_true (show (i:Int)<8 by omega)),aCi,List.length_map,e2,Option.bind_some,aHY]
  cases hf:aAB (i:Int) l with
  |some x=>
   obtain ⟨p,a⟩:=x
   rw[hf]at e3
   obtain ⟨o,e4,rfl⟩:=e3
   exact ⟨_,rfl,o,e4,rfl⟩
  |none=>
   rw[hf]at e3
   have e3:r=_:=e3
   subst e3
   have ih:=a8z l h hA v3 v4 ps hps hN hall j (i+1) (by omega)
   simp only[iC,xB,wC,rC,nD,jD,uB (show i≤big by unfold big;omega)]
   exact ih
theorem a8A (l:dA) (h:nF l) (hA:ArA l):∃r,(cA T).pc aHQ [l.row]=some r∧bEm l r (aN0 l):=by
 rw[aT4];unfold aMs aN0
 have hb:=h.mB
 have e:(cA T).pc fJ [l.row,[.bA]]=_:=aVI l h [] (by simpa using hb)
 rw[e,Option.bind_some,fA,gA]
 have hlen:(bM l).length≤big:=by rw[aSA];exact h.nodes
 obtain ⟨r,e2,e3⟩:=a8z l h hA iF [.bA,.int 0,.int 0] (bM l) (fun p hp=>⟨aX6 l p hp,by have:=aTi l p hp;omega⟩) hlen (fun r=>aX8 r l) 8 0 (by omega)
 have e4:iU (cA T) (.dp l.row) (.sl ((bM l).map fun q=>cY ([]++q))) 0 iF [.bA,.int 0,.int 0]=some r:=e2
 have e5:iF=[.int 0,.str [],.str [],.bA,.int 0,.int 0,.int 0,.int 0,.int 0,.int 0,.str [],.bA,.bA,.bA]:=rfl
 rw[e5]at e4
 rw[e4,Option.bind_some]
 cases hf:aHY l 0 8 with
 |some x=>
  obtain ⟨p,q,a⟩:=x
  rw[hf]at e3
  obtain ⟨o,e6,rfl⟩:=e3
  exact ⟨_,rfl,o,e6,rfl⟩
 |none=>
  rw[hf]at e3
  have e3:r=_:=e3
  subst e3
  exact ⟨_,rfl,rfl⟩
end Go.Ev.jJ
namespace Go.Ev.jJ
structure Her (H:dA→Prop):Prop where
 kid:∀{l k},H l→k∈l.kids→H k
 mk':∀(op:Int) name to (kids:List dA),0≤op→op<19→(∀k∈kids,H k)→(op=2∨op=13→kids≠[])→H (mkL op name to kids)
 put:∀{l} (ks:List dA),H l→(∀k∈ks,H k)→ks.length=l.kids.length→H (aJ6 l ks)
variable {H:dA→Prop}
theorem Her.same (h:Her H):H xF:=h.mk' 0 [] [] [] (by omega) (by omega) (by simp) (by omega)
theorem Her.getD (h:Her H) {ks:List dA} (hk:∀k∈ks,H k) (i:Nat):H (ks.getD i xF):=by
 rw[List.getD_eq_getElem?_getD]
 cases hi:ks[i]? with
 |none=>exact h.same
 |some k=>exact hk _ (List.mem_of_getElem? hi)
theorem Her.head (h:Her H) {ks:List dA} (hk:∀k∈ks,H k):H (ks.headD xF):=by
 cases ks with
 |nil=>exact h.same
 |cons a r=>exact hk a (by simp)
theorem Her.thenS (h:Her H) {ks:List dA} (hk:∀k∈ks,H k):H (thenS ks):=by
 match ks with
 |[]=>exact h.same
 |[k]=>exact hk k (by simp)
 |a::b::r=>exact h.mk' 1 [] [] _ (by omega) (by omega) hk (by omega)
theorem Her.aFr (h:Her H) {ks by':List dA} (a n:Nat) (hk:∀k∈ks,H k) (hb:∀k∈by',H k):H (aFr ks a n by'):=by
 refine h.thenS fun k hm=> ?_
 rcases List.mem_append.1 hm with hm |hm
 ·rcases List.mem_append.1 hm with hm |hm
  ·exact hk k (List.mem_of_mem_take hm)
  ·exact hb k hm
 ·exact hk k (List.mem_of_mem_drop hm)
theorem Her.merged (h:Her H) (op:Int) (name:Bytes) {a b:dA} (h0:0≤op) (h1:op<19) (ha:H a) (hb:H b):H (merged op name a b):=by
 refine h.mk' op name [] _ h0 h1 (fun k hk=> ?_) (fun _=>by simp)
 rw[List.mem_singleton.1 hk]
 refine h.mk' 1 [] [] _ (by omega) (by omega) (fun k hk=> ?_) (by omega)
 rcases List.mem_cons.1 hk with rfl |hk
 ·exact h.head fun k hk=>h.kid ha hk
 ·rw[List.mem_singleton.1 hk];exact h.head fun k hk=>h.kid hb hk
theorem Her.aDm (h:Her H) {a b:dA} {rule:Int} {by':List dA} (ha:H a) (hb:H b) (e:aDm a b rule=some by'):∀k∈by',H k:=by
 unfold jJ.aDm at e
 split at e
 ·split at e
  ·injection e with e;subst e
   split
   ·simp
   ·intro k hk;rw[List.mem_singleton.1 hk];exact h.mk' 3 _ _ [] (by omega) (by omega) (by simp) (by omega)
  ·cases e
 split at e
 ·split at e
  ·injection e with e;subst e
   intro k hk;rw[List.mem_singleton.1 hk];exact h.merged 2 _ (by omega) (by omega) ha hb
  ·cases e
 split at e
 ·split at e
  ·injection e with e;subst e;simp
  ·cases e
 split at e
 ·split at e
  ·injection e with e;subst e
   intro k hk;rw[List.mem_singleton.1 hk];exact hb
  ·cases e
 split at e
 ·split at e
  ·injection e with e;subst e
   intro k hk;rw[List.mem_singleton.1 hk];exact h.merged 13 _ (by omega) (by omega) ha hb
  ·cases e
 ·cases e
theorem Her.jU (h:Her H) {l N:dA} {rule a:Int} (hl:H l) (e:jU l rule a=some N):H N:=by
 have hk:∀k∈l.kids,H k:=fun k hk=>h.kid hl hk
 unfold jJ.jU at e
 split at e
 ·split at e
  ·injection e with e;subst e;exact h.same
  ·cases e
 split at e
 ·dsimp only at e
  split at e
  ·split at e
   ·injection e with e;subst e
    exact h.aFr _ _ hk fun k hx=>h.kid (h.getD hk _) hx
   ·cases e
  split at e
  ·split at e
   ·injection e with e;subst e
    exact h.aFr _ _ hk (by simp)
   ·cases e
  split at e
  ·obtain ⟨by',e1,rfl⟩:=Option.map_eq_some_iff.1 e
   exact h.aFr _ _ hk (h.aDm (h.getD hk _) (h.getD hk _) e1)
  ·cases e
 ·cases e
theorem Her.bV (h:Her H) {rule a:Int}:∀(p:List Int) {l N:dA},H l→bV rule a p l=some N→H N
 |[],l,N,hl,e=>h.jU hl e
 |i::p,l,N,hl,e=>by
  unfold jJ.bV at e
  split at e
  ·obtain ⟨o,e1,rfl⟩:=Option.map_eq_some_iff.1 e
   have hk:∀k∈l.kids,H k:=fun k hk=>h.kid hl hk
   have ho:=h.bV p (h.getD hk _) e1
   refine h.put _ hl (fun k hm=> ?_) (by simp)
   rcases List.mem_or_eq_of_mem_set hm with hm |rfl
   ·exact hk k hm
   ·exact ho
  ·cases e
theorem bEn:Her dA.wf where
 kid:=dA.a2u
 mk' op name to kids h0 h1 hk _:=by
  have hw:dA.wfs kids:=aQi hk
  simp[mkL,dA.wf,zeroV,aB.wf,aB.wfs,aCj,hw]
  omega
 put {l} ks hl hk _:=by
  cases l
  simp only[dA.wf]at hl
  simp only[aJ6,dA.wf,dA.op,dA.n,dA.low,dA.high,dA.sep,dA.v,dA.pairs]
  exact ⟨hl.1,hl.2.1,hl.2.2.1,hl.2.2.2.1,hl.2.2.2.2.1,hl.2.2.2.2.2.1,hl.2.2.2.2.2.2.1,aQi hk⟩
theorem aZI {l:dA}:ArA l↔(l.op=2∨l.op=13→l.kids≠[])∧∀k∈l.kids,ArA k:=by
 refine ⟨fun h=>⟨h l (aP0 l),fun k hk=>h.kid hk⟩,fun h x hx=> ?_⟩
 rw[nodes_eq]at hx
 rcases List.mem_cons.1 hx with rfl |hx
 ·exact h.1
 ·have:∀ks:List dA,(∀k∈ks,ArA k)→x∈yB ks→x.op=2∨x.op=13→x.kids≠[]:=by
   intro ks
   induction ks with
   |nil=>intro _ h;simp[yB]at h
   |cons a r ih=>
    intro hk hm
    simp only[yB,List.mem_append]at hm
    rcases hm with hm |hm
    ·exact hk a (by simp) x hm
    ·exact ih (fun y hy=>hk y (by simp[hy])) hm
  exact this l.kids h.2 hx
theorem bEo:Her ArA where
 kid:=fun h hk=>h.kid hk
 mk' op name to kids h0 h1 hk hn:=aZI.2 ⟨hn,hk⟩
 put {l} ks hl hk hlen:=aZI.2 ⟨fun h e=>by
  have h1:=(aZI.1 hl).1 h
  have h2:ks=[]:=e
  rw[h2]at hlen
  exact h1 (List.eq_nil_of_length_eq_zero hlen.symm),hk⟩
def tot (f:dA→Nat) (ks:List dA):Nat:=(ks.map f).sum
theorem aOv (f:dA→Nat) (a b:List dA):tot f (a++b)=tot f a+tot f b:=by simp[tot]
theorem rD (f:dA→Nat) (a:dA) (r:List dA):tot f (a::r)=f a+tot f r:=by simp[tot]
theorem rL (f:dA→Nat):tot f []=0:=rfl
theorem aUx (f:dA→Nat) {ks:List dA} {i:Nat} (h:i<ks.length):tot f ks=tot f (ks.take i)+f ks[i]+tot f (ks.drop (i+1)):=by
 have e:ks=ks.take i++(ks[i]::ks.drop (i+1)):=by rw[←List.drop_eq_getElem_cons h,List.take_append_drop]
 have e2:tot f ks=tot f (ks.take i++(ks[i]::ks.drop (i+1))):=by rw[←e]
 rw[e2,aOv,rD];omega
theorem a4p (f:dA→Nat) {ks:List dA} {i:Nat} (h:i+1<ks.length):tot f ks=tot f (ks.take i)+f ks[i]+f ks[i+1]+tot f (ks.drop (i+2)):=by
 have h0:i<ks.length:=by omega
 rw[aUx f h0,List.drop_eq_getElem_cons h,rD,show i+1+1=i+2 from rfl];omega
theorem a4q (f:dA→Nat) {ks:List dA} {i:Nat} (h:i<ks.length) (o:dA):tot f (ks.set i o)+f ks[i]=tot f ks+f o:=by
 rw[aUx f h,List.set_eq_take_append_cons_drop,if_pos h,aOv,rD];omega
theorem aOw:∀ks:List dA,dA.lF ks=tot dA.mB ks
 |[]=>rfl
 |a::r=>by rw[dA.lF,aOw r,rD]
def wt (op:Int):Nat:=if op=2∨op=13 then 2 else 1
mutual
def mu:dA→Nat
 | .mk op _ _ _ _ _ _ _ _ _ _ _ _ ks=>wt op+mus ks
def mus:List dA→Nat
 |[]=>0
 |k::r=>mu k+mus r
end
theorem a4r:∀ks:List dA,mus ks=tot mu ks
 |[]=>rfl
 |a::r=>by rw[mus,a4r r,rD]
theorem aO7 (l:dA):mu l=wt l.op+tot mu l.kids:=by cases l;simp only[mu,a4r,dA.op,dA.kids]
theorem a8B (op:Int):1≤wt op:=by unfold wt;split<;>omega
theorem aSB (l:dA):1≤mu l:=by rw[aO7];have:=a8B l.op;omega
theorem aSC (op:Int) (name to:Bytes) (kids:List dA):mu (mkL op name to kids)=wt op+tot mu kids:=aO7 _
theorem aKY (op:Int) (name to:Bytes) (kids:List dA):(mkL op name to kids).mB=name.length+to.length+tot dA.mB kids+2:=by
 rw[dA.eG]
 show name.length+to.length+zJ []+zeroV.mB+zH []+dA.lF kids+1=_
 rw[aOw]
 simp only[zJ,zH,zeroV,aB.mB,aB.lF,List.length_nil]
 omega
theorem a5H (v:aB):1≤v.mB:=by rw[v.eG];omega
theorem aME (l:dA):l.name.length+l.to.length+tot dA.mB l.kids+2≤l.mB:=by
 rw[l.eG,aOw]
 have:=a5H l.v
 omega
theorem aVK (ks:List dA):(thenS ks).mB≤tot dA.mB ks+2:=by
 match ks with
 |[]=>exact Nat.le_of_eq (aKY 0 [] [] [])
 |[k]=>rw[rD];show k.mB≤_;omega
 |a::b::r=>
  show (mkL 1 [] [] (a::b::r)).mB≤_
  rw[aKY];simp
theorem a08 (ks:List dA):mu (thenS ks)≤tot mu ks+1:=by
 match ks with
 |[]=>exact Nat.le_of_eq (aSC 0 [] [] [])
 |[k]=>rw[rD];show mu k≤_;omega
 |a::b::r=>
  show mu (mkL 1 [] [] (a::b::r))≤_
  rw[aSC,show wt 1=1 from rfl];omega
theorem aRn (f:dA→Nat) {ks:List dA} (h:ks≠[]):f (ks.headD xF)≤tot f ks:=by
 cases ks with
 |nil=>exact absurd rfl h
 |cons a r=>rw[rD];show f a≤_;omega
theorem aYa (op:Int) (name:Bytes) {a b:dA} (h:op=2∨op=13) (ha:a.op=op) (hb:b.op=op) (hka:a.kids≠[]) (hkb:b.kids≠[]):mu (merged op name a b)<mu a+mu b:=by
 have h1:=aRn mu hka
 have h2:=aRn mu hkb
 unfold merged
 rw[aSC,rD,rL,aSC,rD,rD,rL,aO7 a,aO7 b,ha,hb]
 have hw:wt op=2:=by unfold wt;rw[if_pos h]
 rw[hw,show wt 1=1 from rfl]
 omega
theorem aTj (op:Int) (name:Bytes) {a b:dA} (hn:name.length≤a.name.length) (hka:a.kids≠[]) (hkb:b.kids≠[]):(merged op name a b).mB≤a.mB+b.mB:=by
 have h1:=aRn dA.mB hka
 have h2:=aRn dA.mB hkb
 have h3:=aME a
 have h4:=aME b
 unfold merged
 rw[aKY,rD,rL,aKY,rD,rD,rL]
 simp only[List.length_nil]
 omega
theorem a26 {a b:dA} {rule:Int} {by':List dA} (hka:a.op=2∨a.op=13→a.kids≠[]) (hkb:b.op=2∨b.op=13→b.kids≠[]) (e:aDm a b rule=some by'):tot mu by'<mu a+mu b∧tot dA.mB by'≤a.mB+b.mB:=by
 have h1:=aSB a
 have h2:=aSB b
 have h3:=aME a
 have h4:=aME b
 unfold aDm at e
 split at e
 ·split at e
  ·injection e with e;subst e
   split
   ·rw[rL,rL];omega
   ·rw[rD,rL,rD,rL,aSC,aKY,rL,rL,show wt 3=1 from rfl];omega
  ·cases e
 split at e
 ·split at e
  ·rename_i hc
   injection e with e;subst e
   rw[rD,rL,rD,rL]
   have:=aYa 2 a.name (.inl rfl) hc.1 hc.2.1 (hka (.inl hc.1)) (hkb (.inl hc.2.1))
   have:=aTj 2 a.name (a:=a) (b:=b) (Nat.le_refl _) (hka (.inl hc.1)) (hkb (.inl hc.2.1))
   omega
  ·cases e
 split at e
 ·split at e
  ·injection e with e;subst e;rw[rL,rL];omega
  ·cases e
 split at e
 ·split at e
  ·injection e with e;subst e
   rw[rD,rL,rD,rL];omega
  ·cases e
 split at e
 ·split at e
  ·rename_i hc
   injection e with e;subst e
   rw[rD,rL,rD,rL]
   have:=aYa 13 [] (.inr rfl) hc.1 hc.2.1 (hka (.inr hc.1)) (hkb (.inr hc.2.1))
   have:=aTj 13 [] (a:=a) (b:=b) (by simp) (hka (.inr hc.1)) (hkb (.inr hc.2.1))
   omega
  ·cases e
 ·cases e
theorem a27 {l N:dA} {rule a:Int} (hA:ArK l) (hc:l.op=14→l.kids≠[]) (e:jU l rule a=some N):mu N<mu l∧N.mB≤l.mB:=by
 have hb:=aME l
 unfold jU at e
 split at e
 ·split at e
  ·rename_i hi
   injection e with e;subst e
   have h1:mu xF=1:=by rw[xF,aSC];rfl
   have h2:xF.mB=2:=by rw[xF,aKY];rfl
   rw[h1,h2]
   refine ⟨?_,by omega⟩
   unfold aO6 at hi
   simp only[Bool.and_eq_true,Bool.or_eq_true,beq_iff_eq]at hi
   rw[aO7]
   rcases hi.1.2 with h |h |h
   ·rw[h,show wt 2=2 from rfl];omega
   ·cases hk:l.kids with
    |nil=>exact absurd hk (hc h)
    |cons k r=>rw[rD];have:=aSB k;have:=a8B l.op;omega
   ·rw[h.1,show wt 13=2 from rfl];omega
  ·cases e
 split at e
 ·rename_i aXY
  obtain ⟨n,rfl⟩:=Int.eq_ofNat_of_zero_le aXY.2.1
  have hn:n<l.kids.length:=by omega
  rw[Int.toNat_natCast]at e
  dsimp only at e
  rw[uZ hn]at e
  have hmu:mu l=1+tot mu l.kids:=by rw[aO7,aXY.1];rfl
  have t1:=aUx mu hn
  have t2:=aUx dA.mB hn
  have m1:=aSB l.kids[n]
  have key:∀(by':List dA),tot mu by'<mu l.kids[n]→tot dA.mB by'≤l.kids[n].mB→mu (aFr l.kids n 1 by')<mu l∧(aFr l.kids n 1 by').mB≤l.mB:=by
   intro by' g1 g2
   have a1:=a08 (l.kids.take n++by'++l.kids.drop (n+1))
   have a2:=aVK (l.kids.take n++by'++l.kids.drop (n+1))
   rw[aOv,aOv]at a1 a2
   unfold aFr
   omega
  split at e
  ·split at e
   ·rename_i h1
    injection e with e;subst e
    refine key _ ?_ ?_
    ·have e1:=aO7 l.kids[n]
     rw[h1,show wt 1=1 from rfl]at e1;omega
    ·have:=aME l.kids[n];omega
   ·cases e
  split at e
  ·split at e
   ·injection e with e;subst e
    exact key _ (by rw[rL];omega) (by rw[rL];omega)
   ·cases e
  split at e
  ·rename_i h5
   have h5':n+1<l.kids.length:=by omega
   rw[uZ h5']at e
   obtain ⟨by',e1,rfl⟩:=Option.map_eq_some_iff.1 e
   obtain ⟨g1,g2⟩:=a26 (hA _ (List.getElem_mem hn)) (hA _ (List.getElem_mem h5')) e1
   have t3:=a4p mu h5'
   have t4:=a4p dA.mB h5'
   have a1:=a08 (l.kids.take n++by'++l.kids.drop (n+2))
   have a2:=aVK (l.kids.take n++by'++l.kids.drop (n+2))
   rw[aOv,aOv]at a1 a2
   unfold aFr
   omega
  ·cases e
 ·cases e
def aN3 (l:dA):Prop:=∀x∈nodes l,x.op=14→x.kids≠[]
theorem aN3.kid {l k:dA} (h:aN3 l) (hk:k∈l.kids):aN3 k:=fun x hx=>h x (aSz hk hx)
theorem bAp (l:dA) (ks:List dA):mu (aJ6 l ks)=wt l.op+tot mu ks:=aO7 _
theorem a5I (l:dA) (ks:List dA):(aJ6 l ks).mB+tot dA.mB l.kids=l.mB+tot dA.mB ks:=by
 have h1:=dA.eG (aJ6 l ks)
 have h2:=dA.eG l
 rw[aOw]at h1 h2
 have e:(aJ6 l ks).kids=ks:=rfl
 rw[e]at h1
 have e1:(aJ6 l ks).name.length+(aJ6 l ks).to.length+zJ (aJ6 l ks).names+(aJ6 l ks).v.mB+zH (aJ6 l ks).pairs=l.name.length+l.to.length+zJ l.names+l.v.mB+zH l.pairs:=rfl
 omega
theorem aYb {rule a:Int}:∀(p:List Int) {l N:dA},ArA l→aN3 l→bV rule a p l=some N→mu N<mu l∧N.mB≤l.mB
 |[],l,N,hA,hc,e=>a27 hA.kids (hc l (aP0 l)) e
 |i::p,l,N,hA,hc,e=>by
  unfold bV at e
  split at e
  ·rename_i hi
   obtain ⟨n,rfl⟩:=Int.eq_ofNat_of_zero_le hi.1
   have hn:n<l.kids.length:=by omega
   rw[Int.toNat_natCast,uZ hn]at e
   obtain ⟨o,e1,rfl⟩:=Option.map_eq_some_iff.1 e
   have hm:=List.getElem_mem hn
   obtain ⟨g1,g2⟩:=aYb p (hA.kid hm) (hc.kid hm) e1
   have t1:=a4q mu hn o
   have t2:=a4q dA.mB hn o
   have e2:=bAp l (l.kids.set n o)
   have e3:=a5I l (l.kids.set n o)
   have e4:=aO7 l
   omega
  ·cases e
end Go.Ev.jJ
namespace Go.Ev.jJ
theorem a29 (v:aB) (hN:v.mB≤big):(cA T).ic aM [.r [v.fc]]=some [.r [v.fc]]:=by
 rw[aFj]
 unfold xN
 rw[aB.aZ5,jC]
 have hl:=v.aHr
 cases hn:v.nil with
 |true=>
  cases hf:v.fs with
  |nil=>simp[iJ,C.isNil]
  |cons p r=>
   rw[hf]at hl
   have:(0+(r.length+1))*72≤140737488355328:=by simp only[List.length_cons]at hl;unfold big at hN;omega
   simp[iJ,C.isNil,uE,this]
   omega
 |false=>
  have:(0+v.fs.length)*72≤140737488355328:=by unfold big at hN;omega
  simp[aXp,C.isNil,uE]
  omega
theorem putRow (p:Bytes×aB):put (qD p) 1 4 p.2.row 0 5=qD p:=rfl
theorem a8C {α:Type} (l:List α) (i:Nat) (h:i<l.length):l.set i l[i]=l:=by simp
theorem a4s (v:aB) (x y:Int) (s:Bytes) (r:Row) (hN:v.fs.length≤big) (hc:∀p∈v.fs,(cA T).pc uJ [p.2.row]=some [p.2.row]):∀(j i:Nat),i+j=v.fs.length→
 aET (cA T) (v.fs.length:Int) (i:Int) x y s r v.fc=some (0,[.r [.int x],.r [.int y],.r [.str s],.r r,.r [v.fc]])
 |0,i,h=>by
  rw[aKR]
  unfold aEU
  have:¬(i:Int)<(v.fs.length:Int):=by omega
  simp[this]
 |j+1,i,h=>by
  rw[aKR]
  unfold aEU
  have h1:i<v.fs.length:=by omega
  have ih:=a4s v x y s r hN hc j (i+1) (by omega)
  have hcc:=hc _ (List.getElem_mem h1)
  have g1:(i:Int)<(v.fs.length:Int):=by omega
  have g0:(0:Int)≤(i:Int):=by omega
  have hne:C.sl (v.fs.map qD)=v.fc:=by
   rw[v.aZ5]
   cases hf:v.fs with
   |nil=>rw[hf]at h1;simp at h1
   |cons p r=>cases v.nil<;>rfl
  have bJV:(v.fs.map qD).set i (qD v.fs[i])=v.fs.map qD:=by
   rw[show qD v.fs[i]=(v.fs.map qD)[i]'(by simpa using h1) by simp]
   exact a8C _ _ _
  simp only[aB.fY,fC,List.length_map,Int.toNat_natCast,h1,aYL,aYM,aYN,aYO,aHs,hcc,uB (show i≤big by omega),g1,g0,decide_true,and_self,if_true,Option.bind_some,fA,putRow,bJV,hne,ih]
theorem aH0 (v:aB) (hN:v.mB≤big):(cA T).pc uJ [v.row]=some [v.row]:=by
 have aBw:∀p∈v.fs,(cA T).pc uJ [p.2.row]=some [p.2.row]:=by
  intro p hp
  have:=aB.lD hp
  have hb:=aB.aKe hp
  exact aH0 p.2 (by omega)
 rw[aXb]
 unfold aPK
 have hl:=a4s v v.k v.n v.s [.int 0,.int 0,.str [],.bA] (by have:=v.aHr;omega) aBw v.fs.length 0 (by omega)
 simp only[Int.ofNat_zero,Int.natCast_zero]at hl
 simp only[aIu,aLg,aLh,gY,jA,rA,a29 v hN,Option.bind_some,nD,iC,wC,cC,aF,eH,jD,xB,rC,aC,wE,fH,gA,aB.fY,List.length_map,hl,List.tail_cons,aHs]
 termination_by SizeOf.sizeOf v
theorem aYc {α:Type} (l:List α) (i:Nat) (h:i<l.length):l.take i++[l[i]]=l.take (i+1):=by simp
theorem a5J (new:List Row):uE .bA new=iJ true new:=aHl [] new
theorem a09 (b:Bool) (l:List (aB×aB)) (hN:zH l≤big) (v3:Int) (v4:List UInt8) (v5:List UInt8) (v6:C) (v7:Int) (v8:Int) (v9:Int) (v10:Int) (v11:Int) (v12:Int) (nG:List UInt8) (sI:C) (dH:C) (xP:C) (v17:Row) (v18:Int) (v19:List UInt8) (v20:List UInt8) (v21:Int) (v22:Int) (v23:Int) (v24:Int) (v25:Int) (v26:Int) (v27:List UInt8) (v28:C) (v29:C) (v31:C):∀(j i:Nat),i+j=l.length→
 aGQ (cA T) (iJ b (l.map sA)) (l.length:Int) (i:Int) v3 v4 v5 v6 v7 v8 v9 v10 v11 v12 nG sI dH xP v17 v18 v19 v20 v21 v22 v23 v24 v25 v26 v27 v28 v29 (iJ true ((l.take i).map sA)) v31=some (0,[.r [.int v3],.r [.str v4],.r [.str v5],.r [v6],.r [.int v7],.r [.int v8],.r [.int v9],.r [.int v10],.r [.int v11],.r [.int v12],.r [.str nG],.r [sI],.r [dH],.r [xP],.r v17,.r [.int v18],.r [.str v19],.r [.str v20],.r [.int v21],.r [.int v22],.r [.int v23],.r [.int v24],.r [.int v25],.r [.int v26],.r [.str v27],.r [v28],.r [v29],.r [iJ true (l.map sA)],.r [v31]])
 |0,i,h=>by
  rw[aMY]
  unfold aGR
  have:¬(i:Int)<(l.length:Int):=by omega
  rw[List.take_of_length_le (by omega)]
  simp only[this,decide_false,Bool.false_eq_true,if_false]
 |j+1,i,h=>by
  rw[aMY]
  unfold aGR
  have hpl:=aAj l
  have h1:i<l.length:=by omega
  have ih:=a09 b l hN v3 v4 v5 v6 v7 v8 v9 v10 v11 v12 nG sI dH xP v17 v18 v19 v20 v21 v22 v23 v24 v25 v26 v27 v28 v29 v31 j (i+1) (by omega)
  have hm:=aAk (List.getElem_mem h1)
  have s1:(cA T).pc uJ [[.int l[i].1.k,.int l[i].1.n,.str l[i].1.s,l[i].1.fc]]=_:=aH0 l[i].1 (by omega)
  have s2:(cA T).pc uJ [[.int l[i].2.k,.int l[i].2.n,.str l[i].2.s,l[i].2.fc]]=_:=aH0 l[i].2 (by omega)
  have g1:(i:Int)<(l.length:Int):=by omega
  have g0:(0:Int)≤(i:Int):=by omega
  have hi:min i l.length=i:=by omega
  have g3:(i+1)*112≤140737488355328:=by unfold big at hN;omega
  simp only[jC,fC,List.length_map,Int.toNat_natCast,h1,aZ7,aZ8,aZ9,a0a,a0b,a0c,a0d,a0e,s1,s2,uB (show i≤big by omega),g1,g0,decide_true,and_self,if_true,Option.bind_some,fA,aIu,aLg,aLh,gY,List.length_take,hi,List.length_cons,List.length_nil,Nat.zero_add,g3,aHl,a5b]
  rw[show ((l.take i).map sA++[sA l[i]])=(l.take (i+1)).map sA by rw[←aYc l i h1,List.map_append];rfl]
  exact ih
theorem a1a (b:Bool) (ls:List dA) (hN:dA.lF ls≤big) (hc:∀l∈ls,(cA T).pc aBQ [l.row]=some [l.norm.row]) (v3:Row) (v4:Int) (v5:List UInt8) (v6:List UInt8) (v7:Int) (v8:Int) (v9:Int) (v10:Int) (v11:Int) (v12:Int) (nG:List UInt8) (sI:C) (dH:C) (xP:C):∀(j i:Nat),i+j=ls.length→
 aGT (cA T) (iJ b (ls.map dA.row)) (ls.length:Int) (i:Int) v3 v4 v5 v6 v7 v8 v9 v10 v11 v12 nG sI dH xP (iJ true ((ls.take i).map fun l=>l.norm.row))=some (0,[.r v3,.r [.int v4],.r [.str v5],.r [.str v6],.r [.int v7],.r [.int v8],.r [.int v9],.r [.int v10],.r [.int v11],.r [.int v12],.r [.str nG],.r [sI],.r [dH],.r [xP],.r [iJ true (ls.map fun l=>l.norm.row)]])
 |0,i,h=>by
  rw[aMZ]
  unfold aGU
  have:¬(i:Int)<(ls.length:Int):=by omega
  rw[List.take_of_length_le (by omega)]
  simp only[this,decide_false,Bool.false_eq_true,if_false]
 |j+1,i,h=>by
  rw[aMZ]
  unfold aGU
  have hpl:=dA.aBA ls
  have h1:i<ls.length:=by omega
  have ih:=a1a b ls hN hc v3 v4 v5 v6 v7 v8 v9 v10 v11 v12 nG sI dH xP j (i+1) (by omega)
  have s1:=hc _ (List.getElem_mem h1)
  have g1:(i:Int)<(ls.length:Int):=by omega
  have g0:(0:Int)≤(i:Int):=by omega
  have hi:min i ls.length=i:=by omega
  have g3:(i+1)*200≤140737488355328:=by unfold big at hN;omega
  simp only[jC,fC,List.length_map,Int.toNat_natCast,h1,s1,uB (show i≤big by omega),g1,g0,decide_true,and_self,if_true,Option.bind_some,fA,List.length_take,hi,List.length_cons,List.length_nil,Nat.zero_add,g3,aHl]
  rw[show ((ls.take i).map (fun l=>l.norm.row)++[ls[i].norm.row])=(ls.take (i+1)).map (fun l=>l.norm.row) by rw[←aYc ls i h1,List.map_append];rfl]
  exact ih
theorem bEp (l:dA):l.norm.row=[.int l.op,.str l.name,.str l.to,iJ true (l.names.map cF),.int l.n,.int l.low,.int l.high,.int l.sep,.int l.v.k,.int l.v.n,.str l.v.s,l.v.fc,iJ true (l.pairs.map sA),iJ true (l.kids.map fun l=>l.norm.row)]:=by
 rw[aVC,dA.row,dA.aZ6]
 simp only[dA.op,dA.name,dA.to,dA.nb,dA.names,dA.n,dA.low,dA.high,dA.sep,dA.v,dA.pb,dA.pairs,dA.kb,dA.kids,List.map_map]
 rfl
theorem aH1 (l:dA) (hN:l.mB≤big):(cA T).pc aBQ [l.row]=some [l.norm.row]:=by
 have hbe:=l.eG
 have aBw:∀k∈l.kids,(cA T).pc aBQ [k.row]=some [k.norm.row]:=by
  intro k hk
  have:=dA.lD hk
  have hb:=dA.aE4 hk
  exact aH1 k (by omega)
 rw[aZx,bEp l]
 unfold aR9
 have g1:l.names.length*16≤140737488355328:=by have:=Go.Ev.cS l.names;unfold big at hN;omega
 have hv:=aH0 l.v (by omega)
 have h0:=fun x3 x4 x5 x6 x7 x8 x9 x10 oR x12 x13 x14 x15 x16 qV xM x19 x20 x21 x22 x23 x24 x25 x26 x27 x28 x29 x31=>a09 l.pb l.pairs (by omega) x3 x4 x5 x6 x7 x8 x9 x10 oR x12 x13 x14 x15 x16 qV xM x19 x20 x21 x22 x23 x24 x25 x26 x27 x28 x29 x31 l.pairs.length 0 (by omega)
 have h1:=fun x3 x4 x5 x6 x7 x8 x9 x10 oR x12 x13 x14 x15 x16=>a1a l.kb l.kids (by omega) aBw x3 x4 x5 x6 x7 x8 x9 x10 oR x12 x13 x14 x15 x16 l.kids.length 0 (by omega)
 simp only[Int.ofNat_zero,Int.natCast_zero,List.take_zero,List.map_nil,aYI,←l.aZ6]at h0 h1
 simp (maxSteps:=3000000) only[jC,List.length_map,g1,if_true,vC,sG,dS,aGl,aUi,aOk,aOl,aLi,aIv,aQj,aNo,aNp,aE5,uC,aHs,hv,Option.bind_some,fA,aIu,aLg,aLh,gY,jA,rA,a5J,h0,nD,iC,wC,cC,aF,jD,xB,rC,aC,wE,List.tail_cons,gA,dA.cD,h1]
 termination_by SizeOf.sizeOf l
end Go.Ev.jJ
