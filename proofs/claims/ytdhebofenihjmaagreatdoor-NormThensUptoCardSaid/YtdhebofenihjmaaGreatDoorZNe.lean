/-
  The reference's search for a step.
-/
import Derived.Test.YtdhebofenihjmaaGreatDoorZNa
set_option linter.all false
set_option maxRecDepth 100000
namespace Go.Ev.dJ
theorem a0Y (p:List Int) (i:Int) (hp:p.length+1≤big):(eA T).pc aC1 [[nK true (mB p)],[.int i]]=some [[nK true (mB (p++[i]))]]:=by
 rw[aPP];unfold aFC
 have e1:wE .bA (mB p)=nK true (mB p):=by
  cases p<;>rfl
 have hp':p.length+1≤4294967296:=hp
 refine yH.eq (.pos ?_ (.pos ?_ (.some ?_)))
 ·rw[kC,iP];omega
 ·rw[kC,e1,kC,iP];simp;omega
 ·rw[kC,e1,aG7,aRf];rfl
theorem aSu:∀l:dA,(wL l).length=(nodes l).length:=by
 intro l
 have h:∀k∈l.kids,(wL k).length=(nodes k).length:=fun k hk=>by
  have:=dA.sD hk
  exact aSu k
 rw[aG5,nodes_eq]
 have key:∀(ks:List dA) (i:Nat),(∀k∈ks,(wL k).length=(nodes k).length)→(cR i ks).length=(yB ks).length:=by
  intro ks
  induction ks with
  |nil=>intro i _;simp[cR,yB]
  |cons k r ih=>intro i hk;simp only[cR,yB,List.length_append,List.length_map,hk k (by simp),ih (i+1) (fun x hx=>hk x (by simp[hx]))]
 simp only[List.length_cons,key l.kids 0 h]
 termination_by l=>SizeOf.sizeOf l
def tX (p:List Int):Row:=[nK true (mB p)]
theorem a4a (l:dA) (h:aF l) (p:List Int) (hp:p.length+l.fB≤big) (hc:∀k∈l.kids,∀i:Int,(eA T).pc bJ [k.row,[nK true (mB (p++[i]))]]=some [[.sl ((wL k).map fun q=>tX (p++[i]++q))]]):∀(j i:Nat) (acc:List (List Int)),i+j=l.kids.length→acc.length+(cR i (l.kids.drop i)).length≤big→
 eP (eA T) (nK true (mB p)) l.kc (l.kids.length:Int) (i:Int) (.sl (acc.map fun q=>tX (p++q)))=some (0,[.r [.sl ((acc++cR i (l.kids.drop i)).map fun q=>tX (p++q))]])
 |0,i,acc,hh,hb=>by
  rw[aFa];unfold jW
  obtain rfl:i=l.kids.length:=by omega
  rw[if_neg (by simp),List.drop_length]
  simp only[cR,List.append_nil]
 |j+1,i,acc,hh,hb=>by
  rw[aFa];unfold jW
  have hi:i<l.kids.length:=by omega
  have hk:=h.kids
  have hbp:=l.aNe
  rw[List.drop_eq_getElem_cons hi]at hb⊢
  simp only[cR,List.length_append,List.length_map]at hb
  have ih:=a4a l h p hp hc j (i+1) (acc++(wL l.kids[i]).map fun q=>(i:Int)::q) (by omega) (by simp only[List.length_append,List.length_map];omega)
  have hb':acc.length+((wL l.kids[i]).length+(cR (i+1) (List.drop (i+1) l.kids)).length)≤4294967296:=hb
  refine yH.eq (.pos (dec_lt hi) (.pos (aHL hi) (.jB (a0Y p i (by omega)) ?_)))
  rw[gT hi]
  refine .jB (hc _ (List.getElem_mem hi) i) (.pos ?_ ?_)
  ·simp only[cA,gA,aB4,List.length_map];omega
  ·rw[xB (show i≤big by omega)]
   have e:wE (.sl (acc.map fun q=>tX (p++q))) ((wL l.kids[i]).map fun q=>tX (p++[(i:Int)]++q))= .sl ((acc++(wL l.kids[i]).map fun q=>(i:Int)::q).map fun q=>tX (p++q)):=by
    show C.sl ((acc.map fun q=>tX (p++q))++_)=_
    simp only[List.map_append,List.map_map,Function.comp_def,List.append_assoc,List.cons_append,List.nil_append]
   refine ⟨_, ?_,rfl⟩
   show eP (eA T) _ _ _ _ (wE (.sl (acc.map fun q=>tX (p++q))) ((wL l.kids[i]).map fun q=>tX (p++[(i:Int)]++q)))=_
   rw[e,ih]
   simp only[cR,List.append_assoc]
theorem aVA (l:dA) (h:aF l) (p:List Int) (hp:p.length+l.fB≤big):(eA T).pc bJ [l.row,[nK true (mB p)]]=some [[.sl ((wL l).map fun q=>tX (p++q))]]:=by
 have aBk:∀k∈l.kids,∀i:Int,(eA T).pc bJ [k.row,[nK true (mB (p++[i]))]]=some [[.sl ((wL k).map fun q=>tX (p++[i]++q))]]:=fun k hk i=>by
  have:=dA.sD hk
  have:=dA.aEP hk
  exact aVA k (h.kid hk) (p++[i]) (by simp;omega)
 rw[aRc];unfold aHB
 have hl:=a4a l h p hp aBk l.kids.length 0 [[]] (by omega) (by
  have h1:=aSu l
  rw[aG5]at h1
  have h2:=aVB l
  have h3:=h.fB
  rw[List.drop_zero]
  simp only[List.length_cons,List.length_nil]at h1⊢
  omega)
 have e:(C.sl ([[nK true (mB p)]]:List Row))= .sl ([[]].map fun q=>tX (p++q)):=by simp[tX]
 rw[List.drop_zero,show ((0:Nat):Int)=0 from rfl,←e]at hl
 rw[vC,dA.gD,List.length_map,hl,aG5]
 rfl
 termination_by SizeOf.sizeOf l
def aW7:List Int→dA→Prop
 |[],_=>True
 |i::p,l=>0≤i∧i<(l.kids.length:Int)∧aW7 p (l.kids.getD i.toNat nE)
theorem aXX:∀(l:dA),∀p∈wL l,aW7 p l:=by
 intro l
 have h:∀k∈l.kids,∀p∈wL k,aW7 p k:=fun k hk=>by
  have:=dA.sD hk
  exact aXX k
 rw[aG5]
 have key:∀(ks:List dA) (i:Nat),(∀j (hj:j<ks.length),i+j<l.kids.length∧l.kids.getD (i+j) nE=ks[j])→(∀k∈ks,∀p∈wL k,aW7 p k)→∀p∈cR i ks,aW7 p l:=by
  intro ks
  induction ks with
  |nil=>intro i _ _ p hp;simp[cR]at hp
  |cons k r ih=>
   intro i hi hk p hp
   simp only[cR,List.mem_append,List.mem_map]at hp
   rcases hp with ⟨q,hq,rfl⟩|hp
   ·have h0:=hi 0 (by simp)
    rw[Nat.add_zero]at h0
    refine ⟨by omega,by omega, ?_⟩
    rw[Int.toNat_natCast,h0.2]
    exact hk k (by simp) q hq
   ·refine ih (i+1) (fun j hj=> ?_) (fun x hx=>hk x (by simp[hx])) p hp
    have h0:=hi (j+1) (by simp;omega)
    rw[show i+1+j=i+(j+1) by omega]
    exact h0
 intro p hp
 rcases List.mem_cons.1 hp with rfl |hp
 ·trivial
 ·exact key l.kids 0 (fun j hj=>⟨by omega,by rw[Nat.zero_add];exact lZ hj⟩) h p hp
 termination_by l=>SizeOf.sizeOf l
theorem aKb {l:List dA} {i:Nat} (h:i<l.length):l.getD i nE∈l:=by rw[lZ h];exact List.getElem_mem h
theorem a4b (c:C) (p0:List Int) (hc:c.rows=mB p0) (hp:p0.length≤big) (z:Row):∀(j i:Nat) (l:dA),i+j=p0.length→aW7 (p0.drop i) l→
 eZ (eA T) c c (p0.length:Int) (i:Int) l.row z=some (0,[.r [c],.r (atP (p0.drop i) l).row,.r z])
 |0,i,l,hh,hv=>by
  rw[aF2];unfold fZ
  obtain rfl:i=p0.length:=by omega
  rw[if_neg (by simp),List.drop_length];rfl
 |j+1,i,l,hh,hv=>by
  rw[aF2];unfold fZ
  have hi:i<p0.length:=by omega
  rw[List.drop_eq_getElem_cons hi]at hv⊢
  obtain ⟨h1,h2,h3⟩:=hv
  have ih:=a4b c p0 hc hp z j (i+1) _ (by omega) h3
  have e1:(at_ (aA c.rows (i:Int).toNat) 0).uA=p0[i]:=by
   rw[hc,Int.toNat_natCast]
   unfold mB
   rw[iC _ _ _ hi];rfl
  have e2:(at_ l.row 13).rows.length=l.kids.length:=by rw[vC,dA.gD,List.length_map]
  refine yH.eq (.pos (dec_lt hi) (.pos (aFc (by rw[hc,iP];exact hi)) (.ite (fun h=> ?_) fun _=> .pos ?_ ?_)))
  ·have:=of_decide_eq_true h
   rw[e1,e2]at this;omega
  ·rw[e1,e2];exact ⟨h1,h2⟩
  ·refine ⟨_, ?_,rfl⟩
   obtain ⟨n,hn⟩:=Int.eq_ofNat_of_zero_le h1
   have hn':n<l.kids.length:=by omega
   rw[e1,xB (show i≤big by omega),vC]
   rw[hn,Int.toNat_natCast]at ih⊢
   have e3:aA l.kc.rows n=(l.kids.getD n nE).row:=by
    have:=gT hn'
    rw[Int.toNat_natCast]at this
    rw[this,lZ hn']
   rw[e3,ih];rfl
theorem a2Q (l:dA) (p:List Int) (hp:p.length≤big) (hv:aW7 p l):∃a b,(eA T).pc aFN [l.row,tX p]=some [(atP p l).row,a,b]:=by
 refine ⟨[.int (p.length:Int)],[.bool true], ?_⟩
 refine (aSo l.row _).trans ?_
 unfold aJG
 have hc:(nK true (mB p)).rows=mB p:=kC _ _
 have e:=a4b (nK true (mB p)) p hc hp uC p.length 0 l (by omega) hv
 rw[show ((0:Nat):Int)=0 from rfl,List.drop_zero]at e
 have hl:((nK true (mB p)).rows.length:Int)=(p.length:Int):=by rw[hc,iP]
 have e5:uC=[.int 0,.str [],.str [],.bA,.int 0,.int 0,.int 0,.int 0,.int 0,.int 0,.str [],.bA,.bA,.bA]:=rfl
 rw[e5]at e
 rw[hl,e]
 simp only[Option.bind_some,oD,eD,uB,hl]
def aKN (rule:Int) (l:dA):List (List Int)→Option (List Int×Nat)
 |[]=>none
 |q::qs=>match aNQ (fun a=>(rU rule (a:Int) q l).isSome) 0 (max 1 (atP q l).kids.length)with
  |some a=>some (q,a)
  |none=>aKN rule l qs
theorem aXY (rule:Int) (l:dA) (i:Nat) (k:dA) (hi:i<l.kids.length) (hk:l.kids.getD i nE=k) (rest:List (List Int)):∀qs:List (List Int),
 aKN rule l (qs.map (fun p=>(i:Int)::p)++rest)=match aKN rule k qs with |some (p,a)=>some ((i:Int)::p,a)|none=>aKN rule l rest
 |[]=>rfl
 |q::qs=>by
  have ih:=aXY rule l i k hi hk rest qs
  simp only[List.map_cons,List.cons_append,aKN]
  have e1:atP ((i:Int)::q) l=atP q k:=by rw[atP,Int.toNat_natCast,hk]
  have e2:∀a:Nat,(rU rule (a:Int) ((i:Int)::q) l).isSome=(rU rule (a:Int) q k).isSome:=fun a=>by
   rw[rU,if_pos ⟨by omega,by omega⟩,Int.toNat_natCast,hk,Option.isSome_map]
  simp only[e1,e2,ih]
  cases aNQ (fun a=>(rU rule (a:Int) q k).isSome) 0 (max 1 (atP q k).kids.length)<;>rfl
theorem aXZ (rule:Int):∀l:dA,aKN rule l (wL l)=aAp rule l:=by
 intro l
 have h:∀k∈l.kids,aKN rule k (wL k)=aAp rule k:=fun k hk=>by
  have:=dA.sD hk
  exact aXZ rule k
 have key:∀(ks:List dA) (i:Nat),(∀j (hj:j<ks.length),i+j<l.kids.length∧l.kids.getD (i+j) nE=ks[j])→(∀k∈ks,aKN rule k (wL k)=aAp rule k)→aKN rule l (cR i ks)=aMV rule i ks:=by
  intro ks
  induction ks with
  |nil=>intro i _ _;rfl
  |cons k r ih=>
   intro i hi hk
   have h0:=hi 0 (by simp)
   rw[Nat.add_zero]at h0
   rw[cR,aXY rule l i k h0.1 h0.2,aMV,hk k (by simp),ih (i+1) (fun j hj=>by
    have h0:=hi (j+1) (by simp;omega)
    rw[show i+1+j=i+(j+1) by omega]
    exact h0) (fun x hx=>hk x (by simp[hx]))]
   cases aAp rule k<;>rfl
 rw[aG5,aKN,aRe,key l.kids 0 (fun j hj=>⟨by omega,by rw[Nat.zero_add];exact lZ hj⟩) h]
 rfl
 termination_by l=>SizeOf.sizeOf l
theorem aTc:∀(l:dA),∀p∈wL l,p.length+1≤l.fB:=by
 intro l
 have h:∀k∈l.kids,∀p∈wL k,p.length+1≤k.fB:=fun k hk=>by
  have:=dA.sD hk
  exact aTc k
 rw[aG5]
 have hb:=l.aNe
 have key:∀(ks:List dA) (i:Nat),(∀k∈ks,k∈l.kids)→∀p∈cR i ks,p.length+1≤l.fB:=by
  intro ks
  induction ks with
  |nil=>intro i _ p hp;simp[cR]at hp
  |cons k r ih=>
   intro i hk p hp
   simp only[cR,List.mem_append,List.mem_map]at hp
   rcases hp with ⟨q,hq,rfl⟩|hp
   ·have h1:=h k (hk k (by simp)) q hq
    have h2:=dA.aEP (hk k (by simp))
    simp only[List.length_cons];omega
   ·exact ih (i+1) (fun x hx=>hk x (by simp[hx])) p hp
 intro p hp
 rcases List.mem_cons.1 hp with rfl |hp
 ·simpa using hb
 ·exact key l.kids 0 (fun k hk=>hk) p hp
 termination_by l=>SizeOf.sizeOf l
theorem a0Z:∀(p:List Int) (l:dA),aF l→aW7 p l→(atP p l).kids.length≤big
 |[],l,h,_=>h.kids
 |i::p,l,h,hv=>by
  obtain ⟨h1,h2,h3⟩:=hv
  exact a0Z p _ (h.kid (aKb (by omega))) h3
def bEc (l:dA) (r:List Row):Option (List Int×Nat×Nat)→Prop
 |some (p,q,a)=>∃o,rU (q:Int) (a:Int) p l=some o∧r=[o.row,aAq p q a,[.bool true]]
 |none=>r=[l.row,[.bA,.int 0,.int 0],[.bool false]]
theorem a8i (l:dA) (h:aF l) (hA:ArA l) (rule:Nat) (p:List Int) (v1 v5:C) (v4 v6 v7:Int) (v10 v11:Row) (m:Nat) (hm:m≤big):∀(j i:Nat),i+j=m→
 ∃r,vT (eA T) (.dp l.row) v1 (rule:Int) (nK true (mB p)) v4 v5 v6 v7 (m:Int) (i:Int) v10 v11=some r∧match aNQ (fun a=>(rU (rule:Int) (a:Int) p l).isSome) i j with
  |some a=>∃o,rU (rule:Int) (a:Int) p l=some o∧r=(1,[.r [.bool true],.r o.row,.r (aAq p rule a)])
  |none=>r=(0,[.r [.dp l.row],.r [v1],.r [.int (rule:Int)],.r [.int v4],.r [v5],.r [.int v6],.r [.int v7],.r v10,.r v11])
 |0,i,hh=>by
  rw[aHH];unfold aAQ
  obtain rfl:i=m:=by omega
  rw[if_neg (by simp)]
  exact ⟨_,rfl,rfl⟩
 |j+1,i,hh=>by
  rw[aHH];unfold aAQ
  obtain ⟨r,e1,e2⟩:=aVz (rule:Int) (i:Int) p l h hA (nK true (mB p)) (kC _ _)
  rw[if_pos (decide_eq_true (show (i:Int)<(m:Int) by omega)),if_pos (dB l.row),sA,e1,Option.bind_some,aNQ]
  cases hp:rU (rule:Int) (i:Int) p l with
  |some o=>
   rw[hp]at e2
   have e2:r=[o.row,[.bool true]]:=e2
   subst e2
   simp only[aD,cA,gA,jA,if_true,Option.isSome_some]
   exact ⟨_,rfl,o,hp,rfl⟩
  |none=>
   rw[hp]at e2
   obtain ⟨row,rfl⟩:=e2
   have ih:=a8i l h hA rule p v1 v5 v4 v6 v7 v10 v11 m hm j (i+1) (by omega)
   simp only[aD,cA,gA,jA,Bool.false_eq_true,if_false,Option.isSome_none,xB (show i≤big by omega)]
   exact ih
theorem a8j (l:dA) (h:aF l) (hA:ArA l) (rule:Nat) (v1:C) (v3:Int) (v7 v8:Row) (ps:List (List Int)) (hps:∀p∈ps,aW7 p l∧p.length≤big) (hN:ps.length≤big):∀(j i:Nat),i+j=ps.length→
 ∃r,aAS (eA T) (.dp l.row) v1 (rule:Int) v3 (.sl (ps.map tX)) (ps.length:Int) (i:Int) v7 v8=some r∧match aKN (rule:Int) l (ps.drop i)with
  |some (p,a)=>∃o,rU (rule:Int) (a:Int) p l=some o∧r=(1,[.r [.bool true],.r o.row,.r (aAq p rule a)])
  |none=>r=(0,[.r [.dp l.row],.r [v1],.r [.int v3],.r v7,.r v8])
 |0,i,hh=>by
  rw[aHI];unfold aAT
  obtain rfl:i=ps.length:=by omega
  rw[if_neg (by simp),List.drop_length]
  exact ⟨_,rfl,rfl⟩
 |j+1,i,hh=>by
  rw[aHI];unfold aAT
  have hi:i<ps.length:=by omega
  have hp:=hps _ (List.getElem_mem hi)
  obtain ⟨a,b,e1⟩:=a2Q l ps[i] hp.2 hp.1
  have hk:=a0Z ps[i] l h hp.1
  rw[if_pos (dec_lt hi),if_pos (aFc (by simpa using hi)),if_pos (dB l.row),sA,aB4,Int.toNat_natCast,iC _ _ _ hi]
  have e0:[at_ (tX ps[i]) 0]=tX ps[i]:=rfl
  rw[e0,e1,Option.bind_some,cA,vC,dA.gD,List.length_map,a38]
  obtain ⟨r,e2,e3⟩:=a8i l h hA rule ps[i] v1 (.sl (ps.map tX)) v3 (ps.length:Int) (i:Int) v7 v8 (max 1 (atP ps[i] l).kids.length) (by unfold big at*;omega) (max 1 (atP ps[i] l).kids.length) 0 (by omega)
  have e2':vT (eA T) (.dp l.row) v1 (rule:Int) (at_ (tX ps[i]) 0) v3 (.sl (ps.map tX)) (ps.length:Int) (i:Int) ((max 1 (atP ps[i] l).kids.length:Nat):Int) 0 v7 v8=some r:=e2
  rw[e2',Option.bind_some,List.drop_eq_getElem_cons hi,aKN]
  cases hf:aNQ (fun a=>(rU (rule:Int) (a:Int) ps[i] l).isSome) 0 (max 1 (atP ps[i] l).kids.length)with
  |some a=>
   rw[hf]at e3
   obtain ⟨o,e4,rfl⟩:=e3
   exact ⟨_,rfl,o,e4,rfl⟩
  |none=>
   rw[hf]at e3
   have e3:r=_:=e3
   subst e3
   have ih:=a8j l h hA rule v1 v3 v7 v8 ps hps hN j (i+1) (by omega)
   simp only[eC,uB,wC,qC,oD,eD,xB (show i≤big by omega)]
   exact ih
theorem a8k (l:dA) (h:aF l) (hA:ArA l) (v3 v4:Row) (ps:List (List Int)) (hps:∀p∈ps,aW7 p l∧p.length≤big) (hN:ps.length≤big) (hall:∀r:Int,aKN r l ps=aAp r l):∀(j i:Nat),i+j=8→
 ∃r,wT (eA T) (.dp l.row) (.sl (ps.map tX)) (i:Int) v3 v4=some r∧match aHK l i j with
  |some (p,q,a)=>∃o,rU (q:Int) (a:Int) p l=some o∧r=(1,[.r [.bool true],.r o.row,.r (aAq p q a)])
  |none=>r=(0,[.r [.dp l.row],.r v3,.r v4])
 |0,i,hh=>by
  rw[aHJ];unfold aAV
  obtain rfl:i=8:=by omega
  exact ⟨_,rfl,rfl⟩
 |j+1,i,hh=>by
  rw[aHJ];unfold aAV
  obtain ⟨r,e2,e3⟩:=a8j l h hA i (.sl (ps.map tX)) (i:Int) v3 v4 ps hps hN ps.length 0 (by omega)
  rw[List.drop_zero,hall,show ((0:Nat):Int)=0 from rfl]at*
  rw[if_pos (decide_eq_true (show (i:Int)<8 by omega)),aB4,List.length_map,e2,Option.bind_some,aHK]
  cases hf:aAp (i:Int) l with
  |some x=>
   obtain ⟨p,a⟩:=x
   rw[hf]at e3
   obtain ⟨o,e4,rfl⟩:=e3
   exact ⟨_,rfl,o,e4,rfl⟩
  |none=>
   rw[hf]at e3
   have e3:r=_:=e3
   subst e3
   have ih:=a8k l h hA v3 v4 ps hps hN hall j (i+1) (by omega)
   simp only[eC,uB,wC,qC,oD,eD,xB (show i≤big by unfold big;omega)]
   exact ih
theorem a8l (l:dA) (h:aF l) (hA:ArA l):∃r,(eA T).pc aHD [l.row]=some r∧bEc l r (aNR l):=by
 rw[aTW];unfold aMk aNR
 have hb:=h.fB
 have e:(eA T).pc bJ [l.row,[.bA]]=_:=aVA l h [] (by simpa using hb)
 rw[e,Option.bind_some,cA,gA]
 have hlen:(wL l).length≤big:=by rw[aSu];exact h.nodes
 obtain ⟨r,e2,e3⟩:=a8k l h hA uC [.bA,.int 0,.int 0] (wL l) (fun p hp=>⟨aXX l p hp,by have:=aTc l p hp;omega⟩) hlen (fun r=>aXZ r l) 8 0 (by omega)
 have e4:wT (eA T) (.dp l.row) (.sl ((wL l).map fun q=>tX ([]++q))) 0 uC [.bA,.int 0,.int 0]=some r:=e2
 have e5:uC=[.int 0,.str [],.str [],.bA,.int 0,.int 0,.int 0,.int 0,.int 0,.int 0,.str [],.bA,.bA,.bA]:=rfl
 rw[e5]at e4
 rw[e4,Option.bind_some]
 cases hf:aHK l 0 8 with
 |some x=>
  obtain ⟨p,q,a⟩:=x
  rw[hf]at e3
  obtain ⟨o,e6,rfl⟩:=e3
  exact ⟨_,rfl,o,e6,rfl⟩
 |none=>
  rw[hf]at e3
  have e3:r=_:=e3
  subst e3
  exact ⟨_,rfl,rfl⟩
end Go.Ev.dJ
namespace Go.Ev.dJ
structure Her (H:dA→Prop):Prop where
 kid:∀{l k},H l→k∈l.kids→H k
 mk':∀(op:Int) name to (kids:List dA),0≤op→op<19→(∀k∈kids,H k)→(op=2∨op=13→kids≠[])→H (mkL op name to kids)
 put:∀{l} (ks:List dA),H l→(∀k∈ks,H k)→ks.length=l.kids.length→H (aJU l ks)
variable {H:dA→Prop}
theorem Her.same (h:Her H):H nE:=h.mk' 0 [] [] [] (by omega) (by omega) (by simp) (by omega)
theorem Her.getD (h:Her H) {ks:List dA} (hk:∀k∈ks,H k) (i:Nat):H (ks.getD i nE):=by
 rw[List.getD_eq_getElem?_getD]
 cases hi:ks[i]? with
 |none=>exact h.same
 |some k=>exact hk _ (List.mem_of_getElem? hi)
theorem Her.head (h:Her H) {ks:List dA} (hk:∀k∈ks,H k):H (ks.headD nE):=by
 cases ks with
 |nil=>exact h.same
 |cons a r=>exact hk a (by simp)
theorem Her.thenS (h:Her H) {ks:List dA} (hk:∀k∈ks,H k):H (thenS ks):=by
 match ks with
 |[]=>exact h.same
 |[k]=>exact hk k (by simp)
 |a::b::r=>exact h.mk' 1 [] [] _ (by omega) (by omega) hk (by omega)
theorem Her.aFb (h:Her H) {ks by':List dA} (a n:Nat) (hk:∀k∈ks,H k) (hb:∀k∈by',H k):H (aFb ks a n by'):=by
 refine h.thenS fun k hm=> ?_
 rcases List.mem_append.1 hm with hm |hm
 ·rcases List.mem_append.1 hm with hm |hm
  ·exact hk k (List.mem_of_mem_take hm)
  ·exact hb k hm
 ·exact hk k (List.mem_of_mem_drop hm)
theorem Her.merged (h:Her H) (op:Int) (name:Bytes) {a b:dA} (h0:0≤op) (h1:op<19) (ha:H a) (hb:H b):H (merged op name a b):=by
 refine h.mk' op name [] _ h0 h1 (fun k hk=> ?_) (fun _=>by simp)
 rw[List.mem_singleton.1 hk]
 refine h.mk' 1 [] [] _ (by omega) (by omega) (fun k hk=> ?_) (by omega)
 rcases List.mem_cons.1 hk with rfl |hk
 ·exact h.head fun k hk=>h.kid ha hk
 ·rw[List.mem_singleton.1 hk];exact h.head fun k hk=>h.kid hb hk
theorem Her.aC7 (h:Her H) {a b:dA} {rule:Int} {by':List dA} (ha:H a) (hb:H b) (e:aC7 a b rule=some by'):∀k∈by',H k:=by
 unfold dJ.aC7 at e
 split at e
 ·split at e
  ·injection e with e;subst e
   split
   ·simp
   ·intro k hk;rw[List.mem_singleton.1 hk];exact h.mk' 3 _ _ [] (by omega) (by omega) (by simp) (by omega)
  ·cases e
 split at e
 ·split at e
  ·injection e with e;subst e
   intro k hk;rw[List.mem_singleton.1 hk];exact h.merged 2 _ (by omega) (by omega) ha hb
  ·cases e
 split at e
 ·split at e
  ·injection e with e;subst e;simp
  ·cases e
 split at e
 ·split at e
  ·injection e with e;subst e
   intro k hk;rw[List.mem_singleton.1 hk];exact hb
  ·cases e
 split at e
 ·split at e
  ·injection e with e;subst e
   intro k hk;rw[List.mem_singleton.1 hk];exact h.merged 13 _ (by omega) (by omega) ha hb
  ·cases e
 ·cases e
theorem Her.xT (h:Her H) {l N:dA} {rule a:Int} (hl:H l) (e:xT l rule a=some N):H N:=by
 have hk:∀k∈l.kids,H k:=fun k hk=>h.kid hl hk
 unfold dJ.xT at e
 split at e
 ·split at e
  ·injection e with e;subst e;exact h.same
  ·cases e
 split at e
 ·dsimp only at e
  split at e
  ·split at e
   ·injection e with e;subst e
    exact h.aFb _ _ hk fun k hx=>h.kid (h.getD hk _) hx
   ·cases e
  split at e
  ·split at e
   ·injection e with e;subst e
    exact h.aFb _ _ hk (by simp)
   ·cases e
  split at e
  ·obtain ⟨by',e1,rfl⟩:=Option.map_eq_some_iff.1 e
   exact h.aFb _ _ hk (h.aC7 (h.getD hk _) (h.getD hk _) e1)
  ·cases e
 ·cases e
theorem Her.rU (h:Her H) {rule a:Int}:∀(p:List Int) {l N:dA},H l→rU rule a p l=some N→H N
 |[],l,N,hl,e=>h.xT hl e
 |i::p,l,N,hl,e=>by
  unfold dJ.rU at e
  split at e
  ·obtain ⟨o,e1,rfl⟩:=Option.map_eq_some_iff.1 e
   have hk:∀k∈l.kids,H k:=fun k hk=>h.kid hl hk
   have ho:=h.rU p (h.getD hk _) e1
   refine h.put _ hl (fun k hm=> ?_) (by simp)
   rcases List.mem_or_eq_of_mem_set hm with hm |rfl
   ·exact hk k hm
   ·exact ho
  ·cases e
theorem a8m:Her dA.wf where
 kid:=dA.a2i
 mk' op name to kids h0 h1 hk _:=by
  have hw:dA.wfs kids:=aQc hk
  simp[mkL,dA.wf,zeroV,aB.wf,aB.wfs,aB5,hw]
  omega
 put {l} ks hl hk _:=by
  cases l
  simp only[dA.wf]at hl
  simp only[aJU,dA.wf,dA.op,dA.n,dA.low,dA.high,dA.sep,dA.v,dA.pairs]
  exact ⟨hl.1,hl.2.1,hl.2.2.1,hl.2.2.2.1,hl.2.2.2.2.1,hl.2.2.2.2.2.1,hl.2.2.2.2.2.2.1,aQc hk⟩
theorem aZz {l:dA}:ArA l↔(l.op=2∨l.op=13→l.kids≠[])∧∀k∈l.kids,ArA k:=by
 refine ⟨fun h=>⟨h l (aPT l),fun k hk=>h.kid hk⟩,fun h x hx=> ?_⟩
 rw[nodes_eq]at hx
 rcases List.mem_cons.1 hx with rfl |hx
 ·exact h.1
 ·have:∀ks:List dA,(∀k∈ks,ArA k)→x∈yB ks→x.op=2∨x.op=13→x.kids≠[]:=by
   intro ks
   induction ks with
   |nil=>intro _ h;simp[yB]at h
   |cons a r ih=>
    intro hk hm
    simp only[yB,List.mem_append]at hm
    rcases hm with hm |hm
    ·exact hk a (by simp) x hm
    ·exact ih (fun y hy=>hk y (by simp[hy])) hm
  exact this l.kids h.2 hx
theorem bEd:Her ArA where
 kid:=fun h hk=>h.kid hk
 mk' op name to kids h0 h1 hk hn:=aZz.2 ⟨hn,hk⟩
 put {l} ks hl hk hlen:=aZz.2 ⟨fun h e=>by
  have h1:=(aZz.1 hl).1 h
  have h2:ks=[]:=e
  rw[h2]at hlen
  exact h1 (List.eq_nil_of_length_eq_zero hlen.symm),hk⟩
def tot (f:dA→Nat) (ks:List dA):Nat:=(ks.map f).sum
theorem aOo (f:dA→Nat) (a b:List dA):tot f (a++b)=tot f a+tot f b:=by simp[tot]
theorem qD (f:dA→Nat) (a:dA) (r:List dA):tot f (a::r)=f a+tot f r:=by simp[tot]
theorem qJ (f:dA→Nat):tot f []=0:=rfl
theorem aUo (f:dA→Nat) {ks:List dA} {i:Nat} (h:i<ks.length):tot f ks=tot f (ks.take i)+f ks[i]+tot f (ks.drop (i+1)):=by
 have e:ks=ks.take i++(ks[i]::ks.drop (i+1)):=by rw[←List.drop_eq_getElem_cons h,List.take_append_drop]
 have e2:tot f ks=tot f (ks.take i++(ks[i]::ks.drop (i+1))):=by rw[←e]
 rw[e2,aOo,qD];omega
theorem a4c (f:dA→Nat) {ks:List dA} {i:Nat} (h:i+1<ks.length):tot f ks=tot f (ks.take i)+f ks[i]+f ks[i+1]+tot f (ks.drop (i+2)):=by
 have h0:i<ks.length:=by omega
 rw[aUo f h0,List.drop_eq_getElem_cons h,qD,show i+1+1=i+2 from rfl];omega
theorem a4d (f:dA→Nat) {ks:List dA} {i:Nat} (h:i<ks.length) (o:dA):tot f (ks.set i o)+f ks[i]=tot f ks+f o:=by
 rw[aUo f h,List.set_eq_take_append_cons_drop,if_pos h,aOo,qD];omega
theorem aOp:∀ks:List dA,dA.oF ks=tot dA.fB ks
 |[]=>rfl
 |a::r=>by rw[dA.oF,aOp r,qD]
def wt (op:Int):Nat:=if op=2∨op=13 then 2 else 1
mutual
def mu:dA→Nat
 | .mk op _ _ _ _ _ _ _ _ _ _ _ _ ks=>wt op+mus ks
def mus:List dA→Nat
 |[]=>0
 |k::r=>mu k+mus r
end
theorem a4e:∀ks:List dA,mus ks=tot mu ks
 |[]=>rfl
 |a::r=>by rw[mus,a4e r,qD]
theorem aOY (l:dA):mu l=wt l.op+tot mu l.kids:=by cases l;simp only[mu,a4e,dA.op,dA.kids]
theorem a8n (op:Int):1≤wt op:=by unfold wt;split<;>omega
theorem aSv (l:dA):1≤mu l:=by rw[aOY];have:=a8n l.op;omega
theorem aSw (op:Int) (name to:Bytes) (kids:List dA):mu (mkL op name to kids)=wt op+tot mu kids:=aOY _
theorem aHM (op:Int) (name to:Bytes) (kids:List dA):(mkL op name to kids).fB=name.length+to.length+tot dA.fB kids+2:=by
 rw[dA.eG]
 show name.length+to.length+uJ []+zeroV.fB+uH []+dA.oF kids+1=_
 rw[aOp]
 simp only[uJ,uH,zeroV,aB.fB,aB.oF,List.length_nil]
 omega
theorem a5u (v:aB):1≤v.fB:=by rw[v.eG];omega
theorem aMw (l:dA):l.name.length+l.to.length+tot dA.fB l.kids+2≤l.fB:=by
 rw[l.eG,aOp]
 have:=a5u l.v
 omega
theorem aVC (ks:List dA):(thenS ks).fB≤tot dA.fB ks+2:=by
 match ks with
 |[]=>exact Nat.le_of_eq (aHM 0 [] [] [])
 |[k]=>rw[qD];show k.fB≤_;omega
 |a::b::r=>
  show (mkL 1 [] [] (a::b::r)).fB≤_
  rw[aHM];simp
theorem a00 (ks:List dA):mu (thenS ks)≤tot mu ks+1:=by
 match ks with
 |[]=>exact Nat.le_of_eq (aSw 0 [] [] [])
 |[k]=>rw[qD];show mu k≤_;omega
 |a::b::r=>
  show mu (mkL 1 [] [] (a::b::r))≤_
  rw[aSw,show wt 1=1 from rfl];omega
theorem aRh (f:dA→Nat) {ks:List dA} (h:ks≠[]):f (ks.headD nE)≤tot f ks:=by
 cases ks with
 |nil=>exact absurd rfl h
 |cons a r=>rw[qD];show f a≤_;omega
theorem aX1 (op:Int) (name:Bytes) {a b:dA} (h:op=2∨op=13) (ha:a.op=op) (hb:b.op=op) (hka:a.kids≠[]) (hkb:b.kids≠[]):mu (merged op name a b)<mu a+mu b:=by
 have h1:=aRh mu hka
 have h2:=aRh mu hkb
 unfold merged
 rw[aSw,qD,qJ,aSw,qD,qD,qJ,aOY a,aOY b,ha,hb]
 have hw:wt op=2:=by unfold wt;rw[if_pos h]
 rw[hw,show wt 1=1 from rfl]
 omega
theorem aTd (op:Int) (name:Bytes) {a b:dA} (hn:name.length≤a.name.length) (hka:a.kids≠[]) (hkb:b.kids≠[]):(merged op name a b).fB≤a.fB+b.fB:=by
 have h1:=aRh dA.fB hka
 have h2:=aRh dA.fB hkb
 have h3:=aMw a
 have h4:=aMw b
 unfold merged
 rw[aHM,qD,qJ,aHM,qD,qD,qJ]
 simp only[List.length_nil]
 omega
theorem a2R {a b:dA} {rule:Int} {by':List dA} (hka:a.op=2∨a.op=13→a.kids≠[]) (hkb:b.op=2∨b.op=13→b.kids≠[]) (e:aC7 a b rule=some by'):tot mu by'<mu a+mu b∧tot dA.fB by'≤a.fB+b.fB:=by
 have h1:=aSv a
 have h2:=aSv b
 have h3:=aMw a
 have h4:=aMw b
 unfold aC7 at e
 split at e
 ·split at e
  ·injection e with e;subst e
   split
   ·rw[qJ,qJ];omega
   ·rw[qD,qJ,qD,qJ,aSw,aHM,qJ,qJ,show wt 3=1 from rfl];omega
  ·cases e
 split at e
 ·split at e
  ·rename_i hc
   injection e with e;subst e
   rw[qD,qJ,qD,qJ]
   have:=aX1 2 a.name (.inl rfl) hc.1 hc.2.1 (hka (.inl hc.1)) (hkb (.inl hc.2.1))
   have:=aTd 2 a.name (a:=a) (b:=b) (Nat.le_refl _) (hka (.inl hc.1)) (hkb (.inl hc.2.1))
   omega
  ·cases e
 split at e
 ·split at e
  ·injection e with e;subst e;rw[qJ,qJ];omega
  ·cases e
 split at e
 ·split at e
  ·injection e with e;subst e
   rw[qD,qJ,qD,qJ];omega
  ·cases e
 split at e
 ·split at e
  ·rename_i hc
   injection e with e;subst e
   rw[qD,qJ,qD,qJ]
   have:=aX1 13 [] (.inr rfl) hc.1 hc.2.1 (hka (.inr hc.1)) (hkb (.inr hc.2.1))
   have:=aTd 13 [] (a:=a) (b:=b) (by simp) (hka (.inr hc.1)) (hkb (.inr hc.2.1))
   omega
  ·cases e
 ·cases e
theorem a2S {l N:dA} {rule a:Int} (hA:ArK l) (hc:l.op=14→l.kids≠[]) (e:xT l rule a=some N):mu N<mu l∧N.fB≤l.fB:=by
 have hb:=aMw l
 unfold xT at e
 split at e
 ·split at e
  ·rename_i hi
   injection e with e;subst e
   have h1:mu nE=1:=by rw[nE,aSw];rfl
   have h2:nE.fB=2:=by rw[nE,aHM];rfl
   rw[h1,h2]
   refine ⟨?_,by omega⟩
   unfold aOX at hi
   simp only[Bool.and_eq_true,Bool.or_eq_true,beq_iff_eq]at hi
   rw[aOY]
   rcases hi.1.2 with h |h |h
   ·rw[h,show wt 2=2 from rfl];omega
   ·cases hk:l.kids with
    |nil=>exact absurd hk (hc h)
    |cons k r=>rw[qD];have:=aSv k;have:=a8n l.op;omega
   ·rw[h.1,show wt 13=2 from rfl];omega
  ·cases e
 split at e
 ·rename_i aXP
  obtain ⟨n,rfl⟩:=Int.eq_ofNat_of_zero_le aXP.2.1
  have hn:n<l.kids.length:=by omega
  rw[Int.toNat_natCast]at e
  dsimp only at e
  rw[lZ hn]at e
  have hmu:mu l=1+tot mu l.kids:=by rw[aOY,aXP.1];rfl
  have t1:=aUo mu hn
  have t2:=aUo dA.fB hn
  have m1:=aSv l.kids[n]
  have key:∀(by':List dA),tot mu by'<mu l.kids[n]→tot dA.fB by'≤l.kids[n].fB→mu (aFb l.kids n 1 by')<mu l∧(aFb l.kids n 1 by').fB≤l.fB:=by
   intro by' g1 g2
   have a1:=a00 (l.kids.take n++by'++l.kids.drop (n+1))
   have a2:=aVC (l.kids.take n++by'++l.kids.drop (n+1))
   rw[aOo,aOo]at a1 a2
   unfold aFb
   omega
  split at e
  ·split at e
   ·rename_i h1
    injection e with e;subst e
    refine key _ ?_ ?_
    ·have e1:=aOY l.kids[n]
     rw[h1,show wt 1=1 from rfl]at e1;omega
    ·have:=aMw l.kids[n];omega
   ·cases e
  split at e
  ·split at e
   ·injection e with e;subst e
    exact key _ (by rw[qJ];omega) (by rw[qJ];omega)
   ·cases e
  split at e
  ·rename_i h5
   have h5':n+1<l.kids.length:=by omega
   rw[lZ h5']at e
   obtain ⟨by',e1,rfl⟩:=Option.map_eq_some_iff.1 e
   obtain ⟨g1,g2⟩:=a2R (hA _ (List.getElem_mem hn)) (hA _ (List.getElem_mem h5')) e1
   have t3:=a4c mu h5'
   have t4:=a4c dA.fB h5'
   have a1:=a00 (l.kids.take n++by'++l.kids.drop (n+2))
   have a2:=aVC (l.kids.take n++by'++l.kids.drop (n+2))
   rw[aOo,aOo]at a1 a2
   unfold aFb
   omega
  ·cases e
 ·cases e
def aNU (l:dA):Prop:=∀x∈nodes l,x.op=14→x.kids≠[]
theorem aNU.kid {l k:dA} (h:aNU l) (hk:k∈l.kids):aNU k:=fun x hx=>h x (aSt hk hx)
theorem bAb (l:dA) (ks:List dA):mu (aJU l ks)=wt l.op+tot mu ks:=aOY _
theorem a5v (l:dA) (ks:List dA):(aJU l ks).fB+tot dA.fB l.kids=l.fB+tot dA.fB ks:=by
 have h1:=dA.eG (aJU l ks)
 have h2:=dA.eG l
 rw[aOp]at h1 h2
 have e:(aJU l ks).kids=ks:=rfl
 rw[e]at h1
 have e1:(aJU l ks).name.length+(aJU l ks).to.length+uJ (aJU l ks).names+(aJU l ks).v.fB+uH (aJU l ks).pairs=l.name.length+l.to.length+uJ l.names+l.v.fB+uH l.pairs:=rfl
 omega
theorem aX2 {rule a:Int}:∀(p:List Int) {l N:dA},ArA l→aNU l→rU rule a p l=some N→mu N<mu l∧N.fB≤l.fB
 |[],l,N,hA,hc,e=>a2S hA.kids (hc l (aPT l)) e
 |i::p,l,N,hA,hc,e=>by
  unfold rU at e
  split at e
  ·rename_i hi
   obtain ⟨n,rfl⟩:=Int.eq_ofNat_of_zero_le hi.1
   have hn:n<l.kids.length:=by omega
   rw[Int.toNat_natCast,lZ hn]at e
   obtain ⟨o,e1,rfl⟩:=Option.map_eq_some_iff.1 e
   have hm:=List.getElem_mem hn
   obtain ⟨g1,g2⟩:=aX2 p (hA.kid hm) (hc.kid hm) e1
   have t1:=a4d mu hn o
   have t2:=a4d dA.fB hn o
   have e2:=bAb l (l.kids.set n o)
   have e3:=a5v l (l.kids.set n o)
   have e4:=aOY l
   omega
  ·cases e
end Go.Ev.dJ
namespace Go.Ev.dJ
theorem a2T (v:aB) (hN:v.fB≤big):(eA T).ic vL [.r [v.fc]]=some [.r [v.fc]]:=by
 rw[aE3]
 unfold oN
 rw[aB.aZW,kC]
 have hl:=v.aHd
 cases hn:v.nil with
 |true=>
  cases hf:v.fs with
  |nil=>simp[nK,C.isNil]
  |cons p r=>
   rw[hf]at hl
   have:(0+(r.length+1))*72≤140737488355328:=by simp only[List.length_cons]at hl;unfold big at hN;omega
   simp[nK,C.isNil,wE,this]
   omega
 |false=>
  have:(0+v.fs.length)*72≤140737488355328:=by unfold big at hN;omega
  simp[aXh,C.isNil,wE]
  omega
theorem putRow (p:Bytes×aB):put (vD p) 1 4 p.2.row 0 5=vD p:=rfl
theorem a8o {α:Type} (l:List α) (i:Nat) (h:i<l.length):l.set i l[i]=l:=by simp
theorem a4f (v:aB) (x y:Int) (s:Bytes) (r:Row) (hN:v.fs.length≤big) (hc:∀p∈v.fs,(eA T).pc pJ [p.2.row]=some [p.2.row]):∀(j i:Nat),i+j=v.fs.length→
 aEE (eA T) (v.fs.length:Int) (i:Int) x y s r v.fc=some (0,[.r [.int x],.r [.int y],.r [.str s],.r r,.r [v.fc]])
 |0,i,h=>by
  rw[aKI]
  unfold aEF
  have:¬(i:Int)<(v.fs.length:Int):=by omega
  simp[this]
 |j+1,i,h=>by
  rw[aKI]
  unfold aEF
  have h1:i<v.fs.length:=by omega
  have ih:=a4f v x y s r hN hc j (i+1) (by omega)
  have hcc:=hc _ (List.getElem_mem h1)
  have g1:(i:Int)<(v.fs.length:Int):=by omega
  have g0:(0:Int)≤(i:Int):=by omega
  have hne:C.sl (v.fs.map vD)=v.fc:=by
   rw[v.aZW]
   cases hf:v.fs with
   |nil=>rw[hf]at h1;simp at h1
   |cons p r=>cases v.nil<;>rfl
  have bJL:(v.fs.map vD).set i (vD v.fs[i])=v.fs.map vD:=by
   rw[show vD v.fs[i]=(v.fs.map vD)[i]'(by simpa using h1) by simp]
   exact a8o _ _ _
  simp only[aB.xX,iC,List.length_map,Int.toNat_natCast,h1,aYB,aYC,aYD,aYE,aHe,hcc,xB (show i≤big by omega),g1,g0,decide_true,and_self,if_true,Option.bind_some,cA,putRow,bJL,hne,ih]
theorem aHN (v:aB) (hN:v.fB≤big):(eA T).pc pJ [v.row]=some [v.row]:=by
 have aBk:∀p∈v.fs,(eA T).pc pJ [p.2.row]=some [p.2.row]:=by
  intro p hp
  have:=aB.sD hp
  have hb:=aB.aJ5 hp
  exact aHN p.2 (by omega)
 rw[aW4]
 unfold aPC
 have hl:=a4f v v.k v.n v.s [.int 0,.int 0,.str [],.bA] (by have:=v.aHd;omega) aBk v.fs.length 0 (by omega)
 simp only[Int.ofNat_zero,Int.natCast_zero]at hl
 simp only[aIh,aK5,aK6,yX,iA,rA,a2T v hN,Option.bind_some,oD,eC,wC,cC,dF,aH,eD,uB,qC,zB,yE,bH,gA,aB.xX,List.length_map,hl,List.tail_cons,aHe]
 termination_by SizeOf.sizeOf v
theorem aX3 {α:Type} (l:List α) (i:Nat) (h:i<l.length):l.take i++[l[i]]=l.take (i+1):=by simp
theorem a5w (new:List Row):wE .bA new=nK true new:=aG7 [] new
theorem a01 (b:Bool) (l:List (aB×aB)) (hN:uH l≤big) (v3:Int) (v4:List UInt8) (v5:List UInt8) (v6:C) (v7:Int) (v8:Int) (v9:Int) (v10:Int) (v11:Int) (v12:Int) (nG:List UInt8) (nI:C) (zG:C) (rP:C) (v17:Row) (v18:Int) (v19:List UInt8) (v20:List UInt8) (v21:Int) (v22:Int) (v23:Int) (v24:Int) (v25:Int) (v26:Int) (v27:List UInt8) (v28:C) (v29:C) (v31:C):∀(j i:Nat),i+j=l.length→
 aGB (eA T) (nK b (l.map tA)) (l.length:Int) (i:Int) v3 v4 v5 v6 v7 v8 v9 v10 v11 v12 nG nI zG rP v17 v18 v19 v20 v21 v22 v23 v24 v25 v26 v27 v28 v29 (nK true ((l.take i).map tA)) v31=some (0,[.r [.int v3],.r [.str v4],.r [.str v5],.r [v6],.r [.int v7],.r [.int v8],.r [.int v9],.r [.int v10],.r [.int v11],.r [.int v12],.r [.str nG],.r [nI],.r [zG],.r [rP],.r v17,.r [.int v18],.r [.str v19],.r [.str v20],.r [.int v21],.r [.int v22],.r [.int v23],.r [.int v24],.r [.int v25],.r [.int v26],.r [.str v27],.r [v28],.r [v29],.r [nK true (l.map tA)],.r [v31]])
 |0,i,h=>by
  rw[aMQ]
  unfold aGC
  have:¬(i:Int)<(l.length:Int):=by omega
  rw[List.take_of_length_le (by omega)]
  simp only[this,decide_false,Bool.false_eq_true,if_false]
 |j+1,i,h=>by
  rw[aMQ]
  unfold aGC
  have hpl:=s9 l
  have h1:i<l.length:=by omega
  have ih:=a01 b l hN v3 v4 v5 v6 v7 v8 v9 v10 v11 v12 nG nI zG rP v17 v18 v19 v20 v21 v22 v23 v24 v25 v26 v27 v28 v29 v31 j (i+1) (by omega)
  have hm:=u9 (List.getElem_mem h1)
  have s1:(eA T).pc pJ [[.int l[i].1.k,.int l[i].1.n,.str l[i].1.s,l[i].1.fc]]=_:=aHN l[i].1 (by omega)
  have s2:(eA T).pc pJ [[.int l[i].2.k,.int l[i].2.n,.str l[i].2.s,l[i].2.fc]]=_:=aHN l[i].2 (by omega)
  have g1:(i:Int)<(l.length:Int):=by omega
  have g0:(0:Int)≤(i:Int):=by omega
  have hi:min i l.length=i:=by omega
  have g3:(i+1)*112≤140737488355328:=by unfold big at hN;omega
  simp only[kC,iC,List.length_map,Int.toNat_natCast,h1,aZZ,aZ0,aZ1,aZ2,aZ3,aZ4,aZ5,aZ6,s1,s2,xB (show i≤big by omega),g1,g0,decide_true,and_self,if_true,Option.bind_some,cA,aIh,aK5,aK6,yX,List.length_take,hi,List.length_cons,List.length_nil,Nat.zero_add,g3,aG7,a4U]
  rw[show ((l.take i).map tA++[tA l[i]])=(l.take (i+1)).map tA by rw[←aX3 l i h1,List.map_append];rfl]
  exact ih
theorem a02 (b:Bool) (ls:List dA) (hN:dA.oF ls≤big) (hc:∀l∈ls,(eA T).pc aBE [l.row]=some [l.norm.row]) (v3:Row) (v4:Int) (v5:List UInt8) (v6:List UInt8) (v7:Int) (v8:Int) (v9:Int) (v10:Int) (v11:Int) (v12:Int) (nG:List UInt8) (nI:C) (zG:C) (rP:C):∀(j i:Nat),i+j=ls.length→
 aGE (eA T) (nK b (ls.map dA.row)) (ls.length:Int) (i:Int) v3 v4 v5 v6 v7 v8 v9 v10 v11 v12 nG nI zG rP (nK true ((ls.take i).map fun l=>l.norm.row))=some (0,[.r v3,.r [.int v4],.r [.str v5],.r [.str v6],.r [.int v7],.r [.int v8],.r [.int v9],.r [.int v10],.r [.int v11],.r [.int v12],.r [.str nG],.r [nI],.r [zG],.r [rP],.r [nK true (ls.map fun l=>l.norm.row)]])
 |0,i,h=>by
  rw[aMR]
  unfold aGF
  have:¬(i:Int)<(ls.length:Int):=by omega
  rw[List.take_of_length_le (by omega)]
  simp only[this,decide_false,Bool.false_eq_true,if_false]
 |j+1,i,h=>by
  rw[aMR]
  unfold aGF
  have hpl:=dA.aBo ls
  have h1:i<ls.length:=by omega
  have ih:=a02 b ls hN hc v3 v4 v5 v6 v7 v8 v9 v10 v11 v12 nG nI zG rP j (i+1) (by omega)
  have s1:=hc _ (List.getElem_mem h1)
  have g1:(i:Int)<(ls.length:Int):=by omega
  have g0:(0:Int)≤(i:Int):=by omega
  have hi:min i ls.length=i:=by omega
  have g3:(i+1)*200≤140737488355328:=by unfold big at hN;omega
  simp only[kC,iC,List.length_map,Int.toNat_natCast,h1,s1,xB (show i≤big by omega),g1,g0,decide_true,and_self,if_true,Option.bind_some,cA,List.length_take,hi,List.length_cons,List.length_nil,Nat.zero_add,g3,aG7]
  rw[show ((ls.take i).map (fun l=>l.norm.row)++[ls[i].norm.row])=(ls.take (i+1)).map (fun l=>l.norm.row) by rw[←aX3 ls i h1,List.map_append];rfl]
  exact ih
theorem bEe (l:dA):l.norm.row=[.int l.op,.str l.name,.str l.to,nK true (l.names.map fF),.int l.n,.int l.low,.int l.high,.int l.sep,.int l.v.k,.int l.v.n,.str l.v.s,l.v.fc,nK true (l.pairs.map tA),nK true (l.kids.map fun l=>l.norm.row)]:=by
 rw[aVu,dA.row,dA.aZX]
 simp only[dA.op,dA.name,dA.to,dA.nb,dA.names,dA.n,dA.low,dA.high,dA.sep,dA.v,dA.pb,dA.pairs,dA.kb,dA.kids,List.map_map]
 rfl
theorem aHO (l:dA) (hN:l.fB≤big):(eA T).pc aBE [l.row]=some [l.norm.row]:=by
 have hbe:=l.eG
 have aBk:∀k∈l.kids,(eA T).pc aBE [k.row]=some [k.norm.row]:=by
  intro k hk
  have:=dA.sD hk
  have hb:=dA.aEP hk
  exact aHO k (by omega)
 rw[aZp,bEe l]
 unfold aR2
 have g1:l.names.length*16≤140737488355328:=by have:=Go.Ev.uR l.names;unfold big at hN;omega
 have hv:=aHN l.v (by omega)
 have h0:=fun x3 x4 x5 x6 x7 x8 x9 x10 dR x12 x13 x14 x15 x16 gV qM x19 x20 x21 x22 x23 x24 x25 x26 x27 x28 x29 x31=>a01 l.pb l.pairs (by omega) x3 x4 x5 x6 x7 x8 x9 x10 dR x12 x13 x14 x15 x16 gV qM x19 x20 x21 x22 x23 x24 x25 x26 x27 x28 x29 x31 l.pairs.length 0 (by omega)
 have h1:=fun x3 x4 x5 x6 x7 x8 x9 x10 dR x12 x13 x14 x15 x16=>a02 l.kb l.kids (by omega) aBk x3 x4 x5 x6 x7 x8 x9 x10 dR x12 x13 x14 x15 x16 l.kids.length 0 (by omega)
 simp only[Int.ofNat_zero,Int.natCast_zero,List.take_zero,List.map_nil,aYy,←l.aZX]at h0 h1
 simp (maxSteps:=3000000) only[kC,List.length_map,g1,if_true,xC,sG,vR,aF6,aT9,aOd,aOe,aK7,aIi,aQd,aNg,aNh,aEQ,vC,aHe,hv,Option.bind_some,cA,aIh,aK5,aK6,yX,iA,rA,a5w,h0,oD,eC,wC,cC,dF,eD,uB,qC,zB,yE,List.tail_cons,gA,dA.gD,h1]
 termination_by SizeOf.sizeOf l
end Go.Ev.dJ
