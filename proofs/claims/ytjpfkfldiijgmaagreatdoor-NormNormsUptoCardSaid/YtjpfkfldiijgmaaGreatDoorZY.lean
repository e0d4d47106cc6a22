/-
  A part of the proof: what the functions of the program compute.
-/
import Derived.Test.YtjpfkfldiijgmaaGreatDoorZU
set_option linter.all false
set_option maxRecDepth 100000
namespace Go.Ev.jJ
noncomputable def aV3:List Bytes→Int
 |[a,b]=>if aUa a≠0 then aUa a else aUa b
 |_=>3
noncomputable def aH2 (l:dA):Int:=
 if l.op=14 then (if l.names.length≠l.kids.length then 3 else aSG l.names)
 else if l.op=6 then aSG l.names
 else if l.op=9 then aV3 l.names
 else if l.op=11 then aV2 l.pairs
 else if l.op=12 then (if l.low<0∨l.high<l.low∨l.high>999999999 then 11 else 0)
 else 0
noncomputable def aN5 (l:dA):Int:=
 if l.op=5 then (if (l.v.k !=0&& !cV l.v.k)=true then 8 else 0)
 else if l.op=15 then (if (!cV l.v.k)=true then 8 else 0)
 else aH2 l
structure nF (l:dA):Prop where
 wf:l.wf
 mB:l.mB≤big
theorem cS:∀(l:List Bytes),l.length≤zJ l
 |[]=>by simp[zJ]
 |s::r=>by have:=cS r;simp only[zJ,List.length_cons];omega
theorem nF.names {l:dA} (h:nF l):l.names.length≤big:=by have:=l.eG;have:=h.mB;have:=cS l.names;omega
theorem nF.pairs {l:dA} (h:nF l):aIS l.pairs:=by
 have hb:=l.eG
 have hbb:=h.mB
 refine ⟨fun p hp k=> ?_,fun p hp k=> ?_,by have:=aAj l.pairs;omega⟩
 ·have:=dA.a9O h.wf hp
  cases k
  ·exact this.1
  ·exact this.2
 ·have:=aAk hp
  cases k
  ·show p.1.mB≤big;omega
  ·show p.2.mB≤big;omega
theorem nF.v {l:dA} (h:nF l):l.v.mB≤big:=by have:=l.eG;have:=h.mB;omega
theorem nF.kids {l:dA} (h:nF l):l.kids.length≤big:=by have:=l.eG;have:=h.mB;have:=dA.aBA l.kids;omega
theorem nF.kid {l k:dA} (h:nF l) (hk:k∈l.kids):nF k:=⟨dA.a2u h.wf hk,by have:=dA.aE4 hk;have:=h.mB;omega⟩
theorem bED (c:C) (a b:Bytes) (hc:c.rows=[a,b].map cF):aAR (cA T) c 2 0=some (if aV3 [a,b]=0 then (0,[])else (1,[.r [.int (aV3 [a,b])]])):=by
 refine cH.eq ?_
 rw[aBv];unfold cU
 rw[hc]
 have hz:∀n:Int,decide ((n !=0)=true)=decide (n≠0):=fun n=>by simp
 refine .pos rfl (.pos (by simp) (.jB (aRp a) ?_))
 rw[aV3]
 refine .ite (fun h=> ?_) fun h=> ?_
 ·have h':¬aUa a=0:=by simpa using h
  simp only[h',ne_eq,not_false_eq_true,if_true,if_false];exact .some rfl
 ·have h':aUa a=0:=by simpa using h
  simp only[h',ne_eq,not_true_eq_false,if_false]
  rw[show IntKind.wrap .i64 ((0:Int)+1)=1 from rfl,aBv];unfold cU
  rw[hc]
  refine .pos rfl (.pos (by simp) (.jB (aRp b) ?_))
  refine .ite (fun h=> ?_) fun h=> ?_
  ·have h':¬aUa b=0:=by simpa using h
   simp only[h',if_false];exact .some rfl
  ·have h':aUa b=0:=by simpa using h
   simp only[h',if_true]
   rw[show IntKind.wrap .i64 ((1:Int)+1)=2 from rfl,aBv];unfold cU
   exact .some rfl
theorem bHA {l:List Bytes} (h:¬(((l.length:Int) !=2)=true)):∃a b,l=[a,b]:=by
 match l with
 |[a,b]=>exact ⟨a,b,rfl⟩
 |[]=>simp at h
 |[a]=>simp at h
 |a::b::c::r=>simp at h;omega
theorem bCK {l:List Bytes} (h:((l.length:Int) !=2)=true):aV3 l=3:=by
 match l with
 |[a,b]=>simp at h
 |[]=>rfl
 |[a]=>rfl
 |a::b::c::r=>rfl
theorem aRq (l:dA) (h:nF l):(cA T).pc aCK [l.row]=some [[.int (aN5 l)]]:=by
 have hN:=jC l.nb (l.names.map cF)
 have hP:=jC l.pb (l.pairs.map sA)
 refine cH.eq ?_
 rw[aT0];unfold aLW aN5 aH2
 simp (config:={zeta:=false,letToHave:=false}) only[vC,aGl,aOk,aOl,aIv,aE5,uC,jA,hN,dA.cD,List.length_map,beq_iff_eq]
 refine .ite (fun e=> ?_) fun e5=> ?_
 ·rw[if_pos e]
  refine .ite (fun hk=> ?_) fun hk=> ?_
  rotate_left
  ·have hk':(l.v.k !=0)=false:=by simpa using hk
   simp only[hk',Bool.false_and,Bool.false_eq_true,if_false];exact .some rfl
  ·simp only[hk,Bool.true_and]
   refine .jB (aP4 _) ?_
   cases hp:cV l.v.k
   ·exact .some rfl
   ·exact .some rfl
 rw[if_neg e5]
 refine .ite (fun e=> ?_) fun e15=> ?_
 ·rw[if_pos e]
  refine .jB (aP4 _) ?_
  cases hp:cV l.v.k
  ·exact .some rfl
  ·exact .some rfl
 rw[if_neg e15]
 refine .ite (fun e=> ?_) fun e6=> ?_
 ·rw[if_neg (by omega),if_pos e]
  exact .jB (aVZ _ _ hN h.names) (.some rfl)
 refine .ite (fun e=> ?_) fun e14=> ?_
 ·rw[if_pos e]
  refine .ite (fun e=> ?_) fun e=> ?_
  ·rw[if_pos (by simp at e;omega)];exact .some rfl
  ·rw[if_neg (by simp at e;omega)]
   exact .jB (aVZ _ _ hN h.names) (.some rfl)
 rw[if_neg e14,if_neg e6]
 refine .ite (fun e=> ?_) fun e9=> ?_
 ·rw[if_pos e]
  refine .ite (fun e=> ?_) fun e=> ?_
  ·rw[bCK e];exact .some rfl
  ·obtain ⟨a,b,hab⟩:=bHA e
   rw[hab]at hN⊢
   refine .jB (bED _ a b hN) ?_
   by_cases h0:aV3 [a,b]=0
   ·simp only[h0,if_true];exact .some rfl
   ·simp only[h0,if_false];exact .some rfl
 rw[if_neg e9]
 refine .ite (fun e=> ?_) fun e11=> ?_
 ·rw[if_pos e]
  exact .jB (a1z _ _ hP h.pairs) (.some rfl)
 rw[if_neg e11]
 refine .ite (fun e=> ?_) fun e12=> ?_
 ·rw[if_pos e]
  by_cases h1:l.low<0
  ·simp only[h1,decide_true,if_true,true_or];exact .some rfl
  ·by_cases h2:l.high<l.low
   ·simp only[h1,h2,decide_true,decide_false,Bool.false_eq_true,if_true,if_false,true_or,or_true];exact .some rfl
   ·by_cases h3:l.high>999999999
    ·simp only[h1,h2,h3,decide_true,decide_false,Bool.false_eq_true,if_true,if_false,true_or,or_true];exact .some rfl
    ·simp only[h1,h2,h3,decide_true,decide_false,Bool.false_eq_true,if_true,if_false,or_self];exact .some rfl
 ·rw[if_neg e12];exact .some rfl
theorem a3u (l:dA) (h:nF l):(cA T).pc gZ [l.row]=some [[.int (aH2 l)]]:=by
 have hN:=jC l.nb (l.names.map cF)
 have hP:=jC l.pb (l.pairs.map sA)
 refine cH.eq ?_
 rw[aRf];unfold aHM aH2
 simp (config:={zeta:=false,letToHave:=false}) only[vC,aGl,aOk,aOl,aIv,aE5,uC,jA,hN,dA.cD,List.length_map,beq_iff_eq]
 refine .ite (fun e=> ?_) fun e14=> ?_
 ·rw[if_pos e]
  refine .ite (fun e=> ?_) fun e=> ?_
  ·rw[if_pos (by simp at e;omega)];exact .some rfl
  ·rw[if_neg (by simp at e;omega)]
   exact .jB (aO9 _ _ hN h.names) (.some rfl)
 rw[if_neg e14]
 refine .ite (fun e=> ?_) fun e6=> ?_
 ·rw[if_pos e]
  exact .jB (aO9 _ _ hN h.names) (.some rfl)
 rw[if_neg e6]
 refine .ite (fun e=> ?_) fun e9=> ?_
 ·rw[if_pos e]
  refine .ite (fun e=> ?_) fun e=> ?_
  ·rw[bCK e];exact .some rfl
  ·obtain ⟨a,b,hab⟩:=bHA e
   rw[hab]at hN⊢
   refine .pos (by simp) (.jB (aRp a) ?_)
   rw[aV3]
   refine .ite (fun h=> ?_) fun h=> ?_
   ·have h':¬aUa a=0:=by simpa using h
    simp only[h',ne_eq,not_false_eq_true,if_true,if_false];exact .some rfl
   ·have h':aUa a=0:=by simpa using h
    simp only[h',ne_eq,not_true_eq_false,if_false]
    exact .pos (by simp) (.jB (aRp b) (.some rfl))
 rw[if_neg e9]
 refine .ite (fun e=> ?_) fun e11=> ?_
 ·rw[if_pos e]
  exact .jB (a1D _ _ hP h.pairs) (.some rfl)
 rw[if_neg e11]
 refine .ite (fun e=> ?_) fun e12=> ?_
 ·rw[if_pos e]
  by_cases h1:l.low<0
  ·have g1:¬0≤l.low:=by omega
   simp only[h1,g1,decide_true,decide_false,Bool.false_eq_true,if_true,if_false,true_or,Bool.not_false];exact .some rfl
  ·have g1:0≤l.low:=by omega
   by_cases h2:l.high<l.low
   ·have g2:¬l.low≤l.high:=by omega
    simp only[h1,h2,g1,g2,decide_true,decide_false,Bool.false_eq_true,if_true,if_false,true_or,or_true,Bool.not_false];exact .some rfl
   ·have g2:l.low≤l.high:=by omega
    by_cases h3:l.high>999999999
    ·have g3:¬l.high≤999999999:=by omega
     simp only[h1,h2,h3,g1,g2,g3,decide_true,decide_false,Bool.false_eq_true,if_true,if_false,true_or,or_true,Bool.not_false];exact .some rfl
    ·have g3:l.high≤999999999:=by omega
     simp only[h1,h2,h3,g1,g2,g3,decide_true,decide_false,Bool.false_eq_true,if_true,if_false,or_self,Bool.not_true];exact .some rfl
 ·rw[if_neg e12];exact .some rfl
end Go.Ev.jJ
namespace Go.Ev.jJ
theorem cH.as {β:Type} {Q:β→Prop} {x y:Option β} (e:x=y) (h:cH Q y):cH Q x:=by rw[e];exact h
@[simp] theorem fl0 (f:Fl):at_ f.row 0= .bool f.n:=rfl
@[simp] theorem fl1 (f:Fl):at_ f.row 1= .bool f.t:=rfl
@[simp] theorem fl2 (f:Fl):at_ f.row 2= .bool f.s:=rfl
@[simp] theorem fl3 (f:Fl):at_ f.row 3= .bool f.i:=rfl
@[simp] theorem fl4 (f:Fl):at_ f.row 4= .bool f.b:=rfl
@[simp] theorem fl5 (f:Fl):at_ f.row 5= .bool f.p:=rfl
@[simp] theorem fl6 (f:Fl):at_ f.row 6= .bool f.v:=rfl
@[simp] theorem fl7 (f:Fl):at_ f.row 7= .bool f.l:=rfl
@[simp] theorem fl8 (f:Fl):at_ f.row 8= .int f.k:=rfl
def zeroV:aB:= .mk 0 0 [] true []
theorem a5X:zeroV.row=[.int 0,.int 0,.str [],.bA]:=rfl
theorem a83:zeroV.wf:=by simp[zeroV,aB.wf,aB.wfs,aCj]
def aSD (l:dA) (f:Fl):Bool:=(((((((!(l.name==[])&& !f.n)||(!(l.to==[])&& !f.t))||(decide ((l.names.length:Int)>0)&& !f.s))||((l.n !=0)&& !f.i))||((l.low !=0 ||l.high !=0)&& !f.b))||((l.sep !=0)&& !f.p))||(decide ((l.pairs.length:Int)>0)&& !f.l))||(!f.v&& !l.v.eqv zeroV)
def aIR (l:dA) (f:Fl):Bool:=(decide (f.k≥0)&&((l.kids.length:Int) !=f.k))||(decide (f.k<0)&&((l.kids.length:Int)==0))
noncomputable def aUy (l:dA) (f:Fl):Bool:=((f.n&& !nm l.name)&& !((l.op==13)&&(l.name==[])))||(f.t&& !nm l.to)
noncomputable def aO8 (l:dA) (f:Fl):Int:=if aSD l f=true then 3 else if aIR l f=true then 3 else if aUy l f=true then 15 else if f.v=true then (if aHa l.v≠0 then aHa l.v else aN5 l)else aN5 l
theorem aUb {β:Type} {K:Bool→Option β} {b x:Bool}:(if b=true then K x else K false)=K (b&&x):=by cases b<;>rfl
theorem kor {β:Type} {K:Bool→Option β} {q b:Bool} {x:Option β} (h:x=K b):(if q=true then K true else x)=K (q ||b):=by cases q<;>simp[h]
theorem aZF (l:dA):([.int l.v.k,.int l.v.n,.str l.v.s,l.v.fc]:Row)=l.v.row:=rfl
theorem aYd (l:dA) (h:nF l) (f:Fl) (w u:Bytes) (h0:0≤l.op) (h1:l.op<19) (ho:aGb l.op f w u):(cA T).pc oX [l.row]=some [[.int (aO8 l f)]]:=by
 have hN:=jC l.nb (l.names.map cF)
 have hP:=jC l.pb (l.pairs.map sA)
 have hsame:=aSx l.v zeroV (dA.bDz h.wf) a83 h.v
 rw[a5X]at hsame
 have hrow:([at_ l.row 8,at_ l.row 9,at_ l.row 10,at_ l.row 11]:Row)=l.v.row:=rfl
 refine cH.eq ?_
 rw[aMB];unfold aKw
 refine .bind (R:=fun r=>r=(0,[.r [.dp l.row],.r [.bool false]])) ?_ ?_
 ·refine .ite (fun e=>absurd (of_decide_eq_true e) (by simp;omega)) fun _=> .some ?_
  have:decide ((at_ l.row 0).tA≥19)=false:=by simp;omega
  rw[this]
 rintro r rfl
 simp (config:={zeta:=false,letToHave:=false}) only[cC,aC,xB,fB,if_true,wA,Bool.false_eq_true,if_false,vC,jA]
 refine .jB ho.table ?_
 refine .bind (R:=fun r=>r=(0,[.r [.dp l.row],.r [.bool (aSD l f)],.r f.row])) ?_ ?_
 ·simp (config:={zeta:=false,letToHave:=false}) only[hrow,fA,fl0,fl1,fl2,fl3,fl4,fl5,fl6,fl7,fl8,iA,sG,dS,aGl,aUi,aOk,aOl,aLi,aE5,rA,jA,hN,hP,List.length_map,hsame]
  extract_lets K19 K21 K17 K24 K15 K26 K13 K30 K28 K11 K32 K9 K34 K7 K36 K5
  have e17:∀q,K17 q=K19 (q ||(!f.v&& !l.v.eqv zeroV)):=fun q=>kor (K:=K19) (by cases f.v<;>rfl)
  have e15:∀q,K15 q=K17 (q ||(decide ((l.pairs.length:Int)>0)&& !f.l)):=fun q=>kor (K:=K17) (aUb (K:=K17))
  have e13:∀q,K13 q=K15 (q ||((l.sep !=0)&& !f.p)):=fun q=>kor (K:=K15) (aUb (K:=K15))
  have e11:∀q,K11 q=K13 (q ||((l.low !=0 ||l.high !=0)&& !f.b)):=fun q=>kor (K:=K13) ((kor (K:=K28) rfl).trans (aUb (K:=K13)))
  have e9:∀q,K9 q=K11 (q ||((l.n !=0)&& !f.i)):=fun q=>kor (K:=K11) (aUb (K:=K11))
  have e7:∀q,K7 q=K9 (q ||(decide ((l.names.length:Int)>0)&& !f.s)):=fun q=>kor (K:=K9) (aUb (K:=K9))
  have e5:∀q,K5 q=K7 (q ||(!(l.to==[])&& !f.t)):=fun q=>kor (K:=K7) (aUb (K:=K7))
  refine .as (aUb (K:=K5)) ?_
  rw[e5,e7,e9,e11,e13,e15,e17]
  exact .some rfl
 rintro r rfl
 simp (config:={zeta:=false,letToHave:=false}) only[cC,aC,xB,iC,jD,nD,fB,if_true,wA,Bool.false_eq_true,if_false,vC,jA,hrow]
 unfold aO8
 refine .ite (fun e=> ?_) fun e=> ?_
 ·rw[if_pos e];exact .some rfl
 rw[if_neg e]
 refine .bind (R:=fun r=>r=(0,[.r [.dp l.row],.r [.bool (aIR l f)],.r f.row])) ?_ ?_
 ·simp (config:={zeta:=false,letToHave:=false}) only[fl8,uC,dA.cD,List.length_map,jA]
  extract_lets K41 K43 K39
  have e39:∀q,K39 q=K41 (q ||(decide (f.k<0)&&((l.kids.length:Int)==0))):=fun q=>kor (K:=K41) (aUb (K:=K41))
  refine .as (aUb (K:=K39)) ?_
  rw[e39]
  exact .some rfl
 rintro r rfl
 simp (config:={zeta:=false,letToHave:=false}) only[cC,aC,xB,iC,jD,nD,fB,if_true,wA,Bool.false_eq_true,if_false,vC,jA,hrow]
 refine .ite (fun e=> ?_) fun e=> ?_
 ·rw[if_pos e];exact .some rfl
 rw[if_neg e]
 refine .bind (R:=fun r=>r=(0,[.r [.dp l.row],.r [.bool (aUy l f)],.r f.row])) ?_ ?_
 ·simp (config:={zeta:=false,letToHave:=false}) only[fl0,fl1,iA,sG,dS,vC,rA,jA,aHm,Option.bind_some,fA,gA]
  extract_lets K50 K52 K48 K55 K46
  have e48:∀q,K48 q=K50 (q ||(f.t&& !nm l.to)):=fun q=>kor (K:=K50) (aUb (K:=K50))
  have e46:∀q,K46 q=K48 (q&& !((l.op==13)&&(l.name==[]))):=fun q=>by
   cases q
   ·rfl
   ·show (if (l.op==13)=true then K55 (l.name==[])else K55 false)=_
    rw[aUb (K:=K55)]
    rfl
  refine .as (y:=K46 (f.n&& !nm l.name)) (aUb (K:=K46)) ?_
  rw[e46,e48]
  exact .some rfl
 rintro r rfl
 simp (config:={zeta:=false,letToHave:=false}) only[cC,aC,xB,iC,jD,nD,fB,if_true,wA,Bool.false_eq_true,if_false,vC,jA,hrow,fl6,iA]
 refine .ite (fun e=> ?_) fun e=> ?_
 ·rw[if_pos e];exact .some rfl
 rw[if_neg e]
 refine .ite (fun e=> ?_) fun e=> ?_
 ·rw[if_pos e]
  refine .jB (aFs _ h.v).1 ?_
  refine .ite (fun e=> ?_) fun e=> ?_
  ·rw[if_pos (by simpa using e)];exact .some rfl
  ·rw[if_neg (by simpa using e)]
   exact .jB (aRq l h) (.some rfl)
 ·rw[if_neg e]
  exact .jB (aRq l h) (.some rfl)
end Go.Ev.jJ
namespace Go.Ev.jJ
def aYx (p:Int×Bool):Row:=[.int p.1,.bool p.2]
theorem a4J (c0:C) (u:Bytes) (l:List (Int×Bool)) (hN:l.length≤big):∀(j i:Nat),i+j=l.length→
 eZ (cA T) c0 u (.sl (l.map aYx)) (l.length:Int) (i:Int)=some (if (l.drop i).any (fun p=>p.2&& !hasB u p.1)=true then (1,[.r [.int 3]])else (0,[.r [c0],.r [.str u]]))
 |0,i,h=>by
  rw[aGg];unfold fZ
  obtain rfl:i=l.length:=by omega
  simp
 |j+1,i,h=>by
  rw[aGg];unfold fZ
  have hi:i<l.length:=by omega
  have ih:=a4J c0 u l hN j (i+1) (by omega)
  refine cH.eq ?_
  refine .pos (dec_lt hi) (.pos (aDo (by simpa using hi)) ?_)
  rw[aCi,show aA (l.map aYx) (i:Int).toNat=aYx l[i]from (by rw[Int.toNat_natCast];exact fC _ _ _ hi),List.drop_eq_getElem_cons hi,List.any_cons,uB (show i≤big by omega),ih]
  have c1:at_ (aYx l[i]) 0= .int l[i].1:=rfl
  have c2:at_ (aYx l[i]) 1= .bool l[i].2:=rfl
  simp only[c1,c2,jA,iA,aK1,Option.bind_some,fA,gA]
  cases l[i].2 with
  |false=>simp only[Bool.false_and,Bool.false_or,Bool.false_eq_true,if_false];exact .some rfl
  |true=>
   cases hasB u l[i].1 with
   |true=>simp only[Bool.true_and,Bool.not_true,Bool.false_or,Bool.false_eq_true,if_false,if_true];exact .some rfl
   |false=>simp only[Bool.true_and,Bool.not_false,Bool.true_or,if_true];exact .some rfl
theorem a5Y:(cA T).pc aFQ []=some [zeroV.row]:=by
 rw[aSt];rfl
theorem a3v (l:dA) (h:nF l) (f:Fl) (w u:Bytes) (h0:0≤l.op) (h1:l.op<19) (ho:aGb l.op f w u):(cA T).pc gU [l.row]=some [[.int (aO8 l f)]]:=by
 have hN:=jC l.nb (l.names.map cF)
 have hP:=jC l.pb (l.pairs.map sA)
 have hsame:=aEe l.v zeroV h.v
 have hrow:([at_ l.row 8,at_ l.row 9,at_ l.row 10,at_ l.row 11]:Row)=l.v.row:=rfl
 refine cH.eq ?_
 rw[aKU];unfold aEZ
 refine .bind (R:=fun r=>r=(0,[.r [.dp l.row],.r [.bool false]])) ?_ ?_
 ·refine .ite (fun e=>absurd (of_decide_eq_true e) (by simp;omega)) fun _=> .some ?_
  have:decide ((at_ l.row 0).tA≥19)=false:=by simp;omega
  rw[this]
 rintro r rfl
 simp (config:={zeta:=false,letToHave:=false}) only[cC,aC,xB,fB,if_true,wA,Bool.false_eq_true,if_false,vC,jA]
 refine .jB ho.used ?_
 have hy:(at_ (aA [[C.str w],[C.str u]] 1) 0).mE=u:=rfl
 let xs:List (Int×Bool):=[(110, !(l.name==[])),(116, !(l.to==[])),(115,(l.names.length:Int) !=0),(105,l.n !=0),(98,l.low !=0 ||l.high !=0),(112,l.sep !=0),(118, !l.v.eqv zeroV),(108,(l.pairs.length:Int) !=0)]
 refine .bind (R:=fun r=>r=(0,[.r [.dp l.row],.r [.str u],.r [.sl (xs.map aYx)],.r [.int (xs.length:Int)],.r [.int 0]])) ?_ ?_
 ·simp (config:={zeta:=false,letToHave:=false}) only[hy,a5Y,Option.bind_some,hrow,fA,hsame,sG,dS,aGl,aUi,aOk,aOl,aLi,aE5,rA,jA,hN,hP,List.length_map,gA,iA]
  extract_lets K5
  refine .as (kor (K:=K5) rfl) ?_
  exact .some rfl
 rintro r rfl
 have a86:=a4J (.dp l.row) u xs (by simp[xs,big]) xs.length 0 (by omega)
 rw[List.drop_zero,show ((0:Nat):Int)=0 from rfl]at a86
 have hx:xs.any (fun p=>p.2&& !hasB u p.1)=aSD l f:=by
  have hnz:∀n:Nat,((n:Int) !=0)=decide ((n:Int)>0):=fun n=>by
   cases n with
   |zero=>rfl
   |succ n=>simp;omega
  simp only[xs,List.any_cons,List.any_nil,Bool.or_false,ho.n,ho.t,ho.s,ho.i,ho.b,ho.p,ho.v,ho.l,hnz]
  unfold aSD
  generalize (l.name==[])=a1
  generalize (l.to==[])=a2
  generalize decide ((l.names.length:Int)>0)=a3
  generalize (l.n !=0)=a4
  generalize (l.low !=0 ||l.high !=0)=a5
  generalize (l.sep !=0)=a6
  generalize decide ((l.pairs.length:Int)>0)=a7
  generalize l.v.eqv zeroV=a8
  cases f.v<;>cases a8<;>simp[Bool.or_assoc]
 rw[hx]at a86
 simp (config:={zeta:=false,letToHave:=false}) only[cC,aC,xB,iC,wE,aF,rC,wC,a86]
 unfold aO8
 cases hsb:aSD l f with
 |true=>simp only[if_true];exact .some rfl
 |false=>
 simp (config:={zeta:=false,letToHave:=false}) only[Bool.false_eq_true,if_false,Option.bind_some,cC,aC,xB,iC,wE,aF,rC,wC,fB,if_true,wA,uC,dA.cD,List.length_map]
 refine .bind (R:=fun r=>r=if aIR l f=true then (1,[.r [.int 3]])else (0,[.r [.dp l.row],.r [.str u]])) ?_ ?_
 ·simp only[aK1,Option.bind_some,fA,gA,iA]
  unfold aIR
  have hk:=ho.k
  have hk1:=ho.k1
  have hk2:=ho.k2
  generalize f.k=k at hk hk1 hk2⊢
  rcases hk with rfl |rfl |rfl
  ·have e1:((0:Int)==1)=false:=rfl
   have e2:((0:Int)== -1)=false:=rfl
   have e3:decide ((0:Int)≥0)=true:=rfl
   have e4:decide ((0:Int)<0)=false:=rfl
   simp only[hk1,hk2,e1,e2,e3,e4,Bool.false_eq_true,if_false,if_true,Option.bind_some,cC,aC,xB,iC,wE,aF,rC,wC,Bool.not_false,Bool.true_and,Bool.false_and,Bool.or_false]
   cases ((l.kids.length:Int) !=0)
   ·exact .some rfl
   ·exact .some rfl
  ·have e1:((1:Int)==1)=true:=rfl
   have e2:((1:Int)== -1)=false:=rfl
   have e3:decide ((1:Int)≥0)=true:=rfl
   have e4:decide ((1:Int)<0)=false:=rfl
   simp only[hk1,hk2,e1,e2,e3,e4,Bool.false_eq_true,if_false,if_true,Option.bind_some,cC,aC,xB,iC,wE,aF,rC,wC,Bool.not_false,Bool.not_true,Bool.true_and,Bool.false_and,Bool.or_false]
   cases ((l.kids.length:Int) !=1)
   ·exact .some rfl
   ·exact .some rfl
  ·have e1:((-1:Int)==1)=false:=rfl
   have e2:((-1:Int)== -1)=true:=rfl
   have e3:decide ((-1:Int)≥0)=false:=rfl
   have e4:decide ((-1:Int)<0)=true:=rfl
   simp only[hk1,hk2,e1,e2,e3,e4,Bool.false_eq_true,if_false,if_true,Option.bind_some,cC,aC,xB,iC,wE,aF,rC,wC,Bool.not_false,Bool.not_true,Bool.true_and,Bool.false_and,Bool.false_or]
   cases ((l.kids.length:Int)==0)
   ·exact .some rfl
   ·exact .some rfl
 rintro r rfl
 cases hkb:aIR l f with
 |true=>simp only[if_true,rC];exact .some rfl
 |false=>
 simp (config:={zeta:=false,letToHave:=false}) only[Bool.false_eq_true,if_false,Option.bind_some,cC,aC,xB,iC,wE,aF,rC,wC,fB,if_true,wA]
 let n1:Bool:=(f.n&& !nm l.name)&& !((l.op==13)&&(l.name==[]))
 let n2:Bool:=f.t&& !nm l.to
 have hnb:aUy l f=(n1 ||n2):=rfl
 refine .bind (R:=fun r=>r=(0,[.r [.dp l.row],.r [.str u],.r [.bool n1]])) ?_ ?_
 ·simp only[aK1,Option.bind_some,fA,gA,iA,ho.n,vC,sG,rA,jA,aHm]
  refine .as (y:=some ((0:Nat),([PV.r [.dp l.row],PV.r [.str u],PV.r [.bool n1]]:List PV))) ?_ (.some rfl)
  ·show _=some ((0:Nat),([PV.r [.dp l.row],PV.r [.str u],PV.r [.bool ((f.n&& !nm l.name)&& !((l.op==13)&&(l.name==[])))]]:List PV))
   by_cases h13:l.op=13
   ·have b1:(l.op !=13)=false:=by simp[h13]
    have b2:(l.op==13)=true:=by simp[h13]
    simp only[b1,b2]
    cases f.n<;>cases nm l.name<;>cases (l.name==[])<;>rfl
   ·have b1:(l.op !=13)=true:=by simp[h13]
    have b2:(l.op==13)=false:=by simp[h13]
    simp only[b1,b2]
    cases f.n<;>cases nm l.name<;>cases (l.name==[])<;>rfl
 rintro r rfl
 simp (config:={zeta:=false,letToHave:=false}) only[Bool.false_eq_true,if_false,Option.bind_some,cC,aC,xB,iC,wE,aF,rC,wC,fB,if_true,wA,hnb]
 cases hn1:n1 with
 |true=>simp only[if_true,Bool.true_or];exact .some rfl
 |false=>
 simp (config:={zeta:=false,letToHave:=false}) only[Bool.false_eq_true,if_false,Bool.false_or]
 refine .bind (R:=fun r=>r=(0,[.r [.dp l.row],.r [.str u],.r [.bool n2]])) ?_ ?_
 ·simp only[aK1,Option.bind_some,fA,gA,iA,ho.t,dS,rA,aHm]
  refine .as (y:=some ((0:Nat),([PV.r [.dp l.row],PV.r [.str u],PV.r [.bool n2]]:List PV))) ?_ (.some rfl)
  show _=some ((0:Nat),([PV.r [.dp l.row],PV.r [.str u],PV.r [.bool (f.t&& !nm l.to)]]:List PV))
  cases f.t<;>cases nm l.to<;>rfl
 rintro r rfl
 simp (config:={zeta:=false,letToHave:=false}) only[Bool.false_eq_true,if_false,Option.bind_some,cC,aC,xB,iC,wE,aF,rC,wC,fB,if_true,wA]
 cases hn2:n2 with
 |true=>simp only[if_true];exact .some rfl
 |false=>
 simp (config:={zeta:=false,letToHave:=false}) only[Bool.false_eq_true,if_false]
 have hsl:=h
 have fin:∀e:Int,e=aH2 l→cH (fun r=>r=[[C.int e]]) (if (C.dp l.row).yA=true then ((cA T).pc gZ [(C.dp l.row).eA]).bind fun y59=>some [[C.int (at_ (aA y59 0) 0).tA]]else none):=by
  rintro e rfl
  exact .pos rfl (.jB (a3u l h) (.some rfl))
 refine .jB (aK1 _ _) ?_
 simp (config:={zeta:=false,letToHave:=false}) only[fA,gA,iA,ho.v]
 refine .bind (R:=fun r:Nat×List PV=>(r=(0,[PV.r [C.dp l.row]])∧(if f.v=true then (if aHa l.v≠0 then aHa l.v else aN5 l)else aN5 l)=aH2 l)∨r=(1,[PV.r [C.int (if f.v=true then (if aHa l.v≠0 then aHa l.v else aN5 l)else aN5 l)]])) ?_ ?_
 ·simp (config:={zeta:=false,letToHave:=false}) only[aK1,Option.bind_some,fA,gA,iA,ho.v,hrow,(aFs _ h.v).1,jA,vC]
  simp (config:={zeta:=false,letToHave:=false}) only[aIv,jA,aOb,Option.bind_some,fA,gA,iA]
  cases hv:f.v with
  |false=>
   have n5:¬l.op=5:=fun e=>by rw[ho.o5 e]at hv;cases hv
   have n15:¬l.op=15:=fun e=>by rw[ho.o15 e]at hv;cases hv
   simp only[Bool.false_eq_true,if_false]
   refine .some (.inl ⟨rfl, ?_⟩)
   unfold aN5
   rw[if_neg n5,if_neg n15]
  |true=>
   simp only[if_true]
   by_cases hc:aHa l.v=0
   ·simp only[hc,ne_eq,not_true_eq_false,if_false,bne_self_eq_false,Bool.false_eq_true]
    unfold aN5
    by_cases h5:l.op=5
    ·have l0:aH2 l=0:=by unfold aH2;rw[h5];rfl
     have b5:(l.op==5)=true:=by simp[h5]
     have b15:(l.op==15)=false:=by simp[h5]
     simp only[b5,b15,if_pos h5,if_true,Bool.false_eq_true,if_false]
     rw[l0]
     cases hk:(l.v.k !=0)with
     |false=>simp only[Bool.false_eq_true,if_false,Bool.false_and];exact .some (.inl ⟨rfl,by simp⟩)
     |true=>
      cases hp:cV l.v.k with
      |false=>simp only[Bool.not_false,Bool.true_and,if_true];exact .some (.inr rfl)
      |true=>simp only[Bool.not_true,Bool.and_false,Bool.false_eq_true,if_true,if_false];exact .some (.inl ⟨rfl,by simp⟩)
    ·have b5:(l.op==5)=false:=by simp[h5]
     by_cases h15:l.op=15
     ·have l0:aH2 l=0:=by unfold aH2;rw[h15];rfl
      have b15:(l.op==15)=true:=by simp[h15]
      simp only[b5,b15,if_neg h5,if_pos h15,if_true,Bool.false_eq_true,if_false]
      rw[l0]
      cases hp:cV l.v.k with
      |false=>simp only[Bool.not_false,if_true];exact .some (.inr rfl)
      |true=>simp only[Bool.not_true,Bool.false_eq_true,if_false];exact .some (.inl ⟨rfl,by simp⟩)
     ·have b15:(l.op==15)=false:=by simp[h15]
      simp only[b5,b15,if_neg h5,if_neg h15,Bool.false_eq_true,if_false]
      exact .some (.inl ⟨rfl,by simp⟩)
   ·have hc':(aHa l.v !=0)=true:=by simp[hc]
    simp only[hc',hc,ne_eq,not_false_eq_true,if_true]
    exact .some (.inr rfl)
 rintro r (⟨rfl,e⟩|rfl)
 ·exact fin _ e
 ·exact .some rfl
end Go.Ev.jJ
namespace Go.Ev.jJ
mutual
def nodes:dA→List dA
 | .mk a b c d e f g h i v pb ps kb kids=> .mk a b c d e f g h i v pb ps kb kids::yB kids
def yB:List dA→List dA
 |[]=>[]
 |l::r=>nodes l++yB r
end
theorem nodes_eq (l:dA):nodes l=l::yB l.kids:=by cases l;simp only[nodes,dA.kids]
mutual
def levels:dA→Nat
 | .mk _ _ _ _ _ _ _ _ _ _ _ _ _ kids=>tB kids+1
def tB:List dA→Nat
 |[]=>0
 |l::r=>max (levels l) (tB r)
end
theorem levels_eq (l:dA):levels l=tB l.kids+1:=by cases l;simp only[levels,dA.kids]
mutual
theorem aVJ:∀l:dA,(nodes l).length≤l.mB
 | .mk a b c d e f g h i v pb ps kb kids=>by
   have:=aIT kids
   simp only[nodes,List.length_cons,dA.mB];omega
theorem aIT:∀ls:List dA,(yB ls).length≤dA.lF ls
 |[]=>by simp[yB]
 |l::r=>by
  have:=aVJ l
  have:=aIT r
  simp only[yB,List.length_append,dA.lF];omega
end
mutual
theorem a5Z:∀l:dA,levels l≤l.mB
 | .mk a b c d e f g h i v pb ps kb kids=>by
   have:=aHb kids
   simp only[levels,dA.mB];omega
theorem aHb:∀ls:List dA,tB ls≤dA.lF ls
 |[]=>by simp[tB]
 |l::r=>by
  have:=a5Z l
  have:=aHb r
  simp only[tB,dA.lF];omega
end
theorem aMI:∀a b:List dA,yB (a++b)=yB a++yB b
 |[],b=>by simp[yB]
 |l::r,b=>by simp only[List.cons_append,yB,aMI r b,List.append_assoc]
theorem aJ7:∀a b:List dA,tB (a++b)=max (tB a) (tB b)
 |[],b=>by simp[tB]
 |l::r,b=>by simp only[List.cons_append,tB,aJ7 r b];omega
theorem aP5:∀(ls:List dA) (i:Nat),dA.lF (ls.take i)≤dA.lF ls
 |[],i=>by simp
 |l::r,0=>by simp[dA.lF]
 |l::r,i+1=>by have:=aP5 r i;simp only[List.take_succ_cons,dA.lF];omega
theorem nF.nodes {l:dA} (h:nF l):(nodes l).length≤big:=Nat.le_trans (aVJ l) h.mB
theorem aOx {ls:List dA} {i:Nat} (hi:i<ls.length):ls.take (i+1)=ls.take i++[ls[i]]:=by rw[List.take_add_one,List.getElem?_eq_getElem hi];rfl
theorem tT {l:dA} {i:Nat} (hi:i<l.kids.length):aA l.kc.rows (i:Int).toNat=l.kids[i].row:=by rw[dA.cD,Int.toNat_natCast];exact fC _ _ _ hi
theorem aHZ {l:dA} {i:Nat} (hi:i<l.kids.length):(0:Int)≤(i:Int)∧(i:Int)<(l.kc.rows.length:Int):=aDo (by rw[dA.cD,List.length_map];exact hi)
theorem bAy {n:Nat} (h:n≤big):IntKind.wrap .i64 (n:Int)=(n:Int):=by unfold big at h;exact wrap_i64 ⟨by omega,by omega⟩
theorem a88 (l:dA) (h:nF l) (hc:∀k∈l.kids,(cA T).pc aBF [k.row]=some [[.int ((nodes k).length:Int)]]):∀(j i:Nat),i+j=l.kids.length→
 aGs (cA T) (((1+(yB (l.kids.take i)).length:Nat)):Int) l.kc (l.kids.length:Int) (i:Int)=some (0,[.r [.int (((nodes l).length:Nat):Int)]])
 |0,i,hh=>by
  rw[aMV];unfold aGt
  obtain rfl:i=l.kids.length:=by omega
  refine cH.eq (.ite (fun h=>absurd h aAg) fun _=> .some ?_)
  rw[List.take_length,nodes_eq,List.length_cons,Nat.add_comm]
 |j+1,i,hh=>by
  rw[aMV];unfold aGt
  have hi:i<l.kids.length:=by omega
  have ih:=a88 l h hc j (i+1) (by omega)
  refine cH.eq (.pos (dec_lt hi) (.pos (aHZ hi) ?_))
  rw[tT hi]
  refine .jB (hc _ (List.getElem_mem hi)) ?_
  have hk:=h.kids
  have e1:(at_ (aA [[C.int ((nodes l.kids[i]).length:Int)]] 0) 0).tA=((nodes l.kids[i]).length:Int):=rfl
  have e2:1+(yB (l.kids.take (i+1))).length=1+(yB (l.kids.take i)).length+(nodes l.kids[i]).length:=by
   rw[aOx hi,aMI];simp only[yB,List.append_nil,List.length_append];omega
  have hb:1+(yB (l.kids.take (i+1))).length≤big:=by
   have:=aIT (l.kids.take (i+1));have:=aP5 l.kids (i+1);have:=l.eG;have:=h.mB;omega
  rw[e1,←Int.natCast_add,←e2,bAy hb,uB (show i≤big by omega),ih]
  exact .some rfl
theorem aYy (l:dA) (h:nF l):(cA T).pc aBF [l.row]=some [[.int ((nodes l).length:Int)]]:=by
 have aBw:∀k∈l.kids,(cA T).pc aBF [k.row]=some [[.int ((nodes k).length:Int)]]:=fun k hk=>by
  have:=dA.lD hk
  exact aYy k (h.kid hk)
 rw[aZt];unfold aRX
 have:=a88 l h aBw l.kids.length 0 (by omega)
 rw[List.take_zero,show ((0:Nat):Int)=0 from rfl,show ((1+(yB []).length:Nat):Int)=1 from rfl]at this
 rw[uC,dA.cD,List.length_map,this]
 rfl
 termination_by SizeOf.sizeOf l
theorem a89 (l:dA) (h:nF l) (hc:∀k∈l.kids,(cA T).pc aBG [k.row]=some [[.int (levels k:Int)]]):∀(j i:Nat),i+j=l.kids.length→
 aGv (cA T) ((tB (l.kids.take i):Nat):Int) l.kc (l.kids.length:Int) (i:Int)=some (0,[.r [.int ((tB l.kids:Nat):Int)]])
 |0,i,hh=>by
  rw[aMW];unfold aGw
  obtain rfl:i=l.kids.length:=by omega
  refine cH.eq (.ite (fun h=>absurd h aAg) fun _=> .some ?_)
  rw[List.take_length]
 |j+1,i,hh=>by
  rw[aMW];unfold aGw
  have hi:i<l.kids.length:=by omega
  have ih:=a89 l h hc j (i+1) (by omega)
  refine cH.eq (.pos (dec_lt hi) (.pos (aHZ hi) ?_))
  rw[tT hi]
  refine .jB (hc _ (List.getElem_mem hi)) ?_
  have hk:=h.kids
  have e1:(at_ (aA [[C.int (levels l.kids[i]:Int)]] 0) 0).tA=(levels l.kids[i]:Int):=rfl
  have e2:tB (l.kids.take (i+1))=max (tB (l.kids.take i)) (levels l.kids[i]):=by
   rw[aOx hi,aJ7];simp only[tB];omega
  have e3:(if (levels l.kids[i]:Int)>(tB (l.kids.take i):Int)then (levels l.kids[i]:Int)else (tB (l.kids.take i):Int))=((tB (l.kids.take (i+1)):Nat):Int):=by
   rw[e2];split<;>omega
  rw[e1,e3,uB (show i≤big by omega),ih]
  exact .some rfl
theorem aYz (l:dA) (h:nF l):(cA T).pc aBG [l.row]=some [[.int (levels l:Int)]]:=by
 have aBw:∀k∈l.kids,(cA T).pc aBG [k.row]=some [[.int (levels k:Int)]]:=fun k hk=>by
  have:=dA.lD hk
  exact aYz k (h.kid hk)
 rw[aZu];unfold aRY
 have:=a89 l h aBw l.kids.length 0 (by omega)
 rw[List.take_zero,show ((0:Nat):Int)=0 from rfl,show ((tB []:Nat):Int)=0 from rfl]at this
 rw[uC,dA.cD,List.length_map,this]
 have hl:=aHb l.kids
 have hb:=l.eG
 have hbb:=h.mB
 refine cH.eq (.some ?_)
 show[[C.int (IntKind.wrap .i64 ((tB l.kids:Int)+1))]]=_
 rw[uB (show tB l.kids≤big by omega),levels_eq]
 termination_by SizeOf.sizeOf l
theorem a1E (l:dA) (h:nF l) (hc:∀k∈l.kids,(cA T).pc mL [k.row]=some [[.int (levels k:Int)]]):∀(j i:Nat),i+j=l.kids.length→
 oT (cA T) ((tB (l.kids.take i):Nat):Int) l.kc (l.kids.length:Int) (i:Int)=some (0,[.r [.int ((tB l.kids:Nat):Int)]])
 |0,i,hh=>by
  rw[aDE];unfold pT
  obtain rfl:i=l.kids.length:=by omega
  refine cH.eq (.ite (fun h=>absurd h aAg) fun _=> .some ?_)
  rw[List.take_length]
 |j+1,i,hh=>by
  rw[aDE];unfold pT
  have hi:i<l.kids.length:=by omega
  have ih:=a1E l h hc j (i+1) (by omega)
  refine cH.eq (.pos (dec_lt hi) (.pos (aHZ hi) ?_))
  rw[tT hi]
  refine .jB (hc _ (List.getElem_mem hi)) ?_
  have hk:=h.kids
  have e1:(at_ (aA [[C.int (levels l.kids[i]:Int)]] 0) 0).tA=(levels l.kids[i]:Int):=rfl
  have e2:tB (l.kids.take (i+1))=max (tB (l.kids.take i)) (levels l.kids[i]):=by
   rw[aOx hi,aJ7];simp only[tB];omega
  rw[e1,uB (show i≤big by omega)]
  refine .ite (fun e=> ?_) fun e=> ?_
  ·have e:(levels l.kids[i]:Int)>(tB (l.kids.take i):Int):=of_decide_eq_true e
   rw[show levels l.kids[i]=tB (l.kids.take (i+1)) by omega,ih]
   exact .some rfl
  ·have e:¬(levels l.kids[i]:Int)>(tB (l.kids.take i):Int):=fun x=>e (decide_eq_true x)
   rw[show tB (l.kids.take i)=tB (l.kids.take (i+1)) by omega,ih]
   exact .some rfl
theorem aTs (l:dA) (h:nF l):(cA T).pc mL [l.row]=some [[.int (levels l:Int)]]:=by
 have aBw:∀k∈l.kids,(cA T).pc mL [k.row]=some [[.int (levels k:Int)]]:=fun k hk=>by
  have:=dA.lD hk
  exact aTs k (h.kid hk)
 rw[aPW];unfold aFP
 have:=a1E l h aBw l.kids.length 0 (by omega)
 rw[List.take_zero,show ((0:Nat):Int)=0 from rfl,show ((tB []:Nat):Int)=0 from rfl]at this
 rw[uC,dA.cD,List.length_map,this]
 have hl:=aHb l.kids
 have hb:=l.eG
 have hbb:=h.mB
 refine cH.eq (.some ?_)
 show[[C.int (IntKind.wrap .i64 ((tB l.kids:Int)+1))]]=_
 rw[uB (show tB l.kids≤big by omega),levels_eq]
 termination_by SizeOf.sizeOf l
theorem a4K (l:dA) (h:nF l) (hc:∀k∈l.kids,(cA T).pc aN [k.row]=some [[.sl ((nodes k).map dA.row)]]):∀(j i:Nat),i+j=l.kids.length→
 wV (cA T) l.kc (l.kids.length:Int) (i:Int) (.sl ((l::yB (l.kids.take i)).map dA.row))=some (0,[.r [.sl ((nodes l).map dA.row)]])
 |0,i,hh=>by
  rw[aFk];unfold xV
  obtain rfl:i=l.kids.length:=by omega
  refine cH.eq (.ite (fun h=>absurd h aAg) fun _=> .some ?_)
  rw[List.take_length,nodes_eq]
 |j+1,i,hh=>by
  rw[aFk];unfold xV
  have hi:i<l.kids.length:=by omega
  have ih:=a4K l h hc j (i+1) (by omega)
  refine cH.eq (.pos (dec_lt hi) (.pos (aHZ hi) ?_))
  rw[tT hi]
  refine .jB (hc _ (List.getElem_mem hi)) ?_
  have hk:=h.kids
  have e1:(at_ (aA [[C.sl ((nodes l.kids[i]).map dA.row)]] 0) 0).rows=(nodes l.kids[i]).map dA.row:=rfl
  have e2:(l::yB (l.kids.take i)).map dA.row++(nodes l.kids[i]).map dA.row=(l::yB (l.kids.take (i+1))).map dA.row:=by
   rw[aOx hi,aMI];simp only[yB,List.append_nil,List.map_cons,List.map_append,List.cons_append]
  have hb1:(l::yB (l.kids.take i)).length≤big:=by
   have:=aIT (l.kids.take i);have:=aP5 l.kids i;have:=l.eG;have:=h.mB;simp only[List.length_cons];omega
  have hb2:=(h.kid (List.getElem_mem hi)).nodes
  rw[e1,aCi,List.length_map,List.length_map]
  unfold big at hb1 hb2
  refine .pos (by omega) ?_
  have e3:uE (.sl ((l::yB (l.kids.take i)).map dA.row)) ((nodes l.kids[i]).map dA.row)= .sl ((l::yB (l.kids.take (i+1))).map dA.row):=by rw[←e2];rfl
  rw[e3,uB (show i≤big by omega),ih]
  exact .some rfl
theorem aV4 (l:dA) (h:nF l):(cA T).pc aN [l.row]=some [[.sl ((nodes l).map dA.row)]]:=by
 have aBw:∀k∈l.kids,(cA T).pc aN [k.row]=some [[.sl ((nodes k).map dA.row)]]:=fun k hk=>by
  have:=dA.lD hk
  exact aV4 k (h.kid hk)
 rw[aRc];unfold aHI
 have:=a4K l h aBw l.kids.length 0 (by omega)
 rw[List.take_zero,show ((0:Nat):Int)=0 from rfl,show (C.sl ((l::yB []).map dA.row))= .sl [l.row]from rfl]at this
 rw[uC,dA.cD,List.length_map,this]
 rfl
 termination_by SizeOf.sizeOf l
theorem a50 (l:dA) (h:nF l):∃e:Int,(cA T).pc oX [l.row]=some [[.int e]]∧(cA T).pc gU [l.row]=some [[.int e]]:=by
 by_cases hr:0≤l.op∧l.op<19
 ·obtain ⟨f,w,u,ho⟩:=a4v hr.1 hr.2
  exact ⟨_,aYd l h f w u hr.1 hr.2 ho,a3v l h f w u hr.1 hr.2 ho⟩
 ·refine ⟨1, ?_, ?_⟩
  ·rw[aMB];unfold aKw
   refine cH.eq (.bind (R:=fun r=>r=(0,[.r [.dp l.row],.r [.bool true]])) ?_ ?_)
   ·refine .ite (fun e=> .some rfl) fun e=> .some ?_
    have e':¬l.op<0:=fun x=>e (decide_eq_true x)
    have:decide ((at_ l.row 0).tA≥19)=true:=decide_eq_true (show l.op≥19 by omega)
    rw[this]
   ·rintro r rfl;exact .some rfl
  ·rw[aKU];unfold aEZ
   refine cH.eq (.bind (R:=fun r=>r=(0,[.r [.dp l.row],.r [.bool true]])) ?_ ?_)
   ·refine .ite (fun e=> .some rfl) fun e=> .some ?_
    have e':¬l.op<0:=fun x=>e (decide_eq_true x)
    have:decide ((at_ l.row 0).tA≥19)=true:=decide_eq_true (show l.op≥19 by omega)
    rw[this]
   ·rintro r rfl;exact .some rfl
noncomputable def dY (l:dA):Int:=match (cA T).pc oX [l.row]with
 |some [[.int n]]=>n
 |_=>0
theorem aV5 (l:dA) (h:nF l):(cA T).pc oX [l.row]=some [[.int (dY l)]]∧(cA T).pc gU [l.row]=some [[.int (dY l)]]:=by
 obtain ⟨e,h1,h2⟩:=a50 l h
 have:dY l=e:=by unfold dY;rw[h1]
 rw[this];exact ⟨h1,h2⟩
noncomputable def hJ:List dA→Int
 |[]=>0
 |l::r=>if dY l≠0 then dY l else hJ r
theorem aV6:∀a b:List dA,hJ (a++b)=if hJ a≠0 then hJ a else hJ b
 |[],b=>by simp[hJ]
 |l::r,b=>by
  simp only[List.cons_append,hJ,aV6 r b]
  by_cases h:dY l=0
  ·simp[h]
  ·simp[h]
theorem a9a (l:dA) (h:nF l) (hc:∀k∈l.kids,(cA T).pc aBP [k.row]=some [[.int (hJ (nodes k))]]):∀(j i:Nat),i+j=l.kids.length→
 aGL (cA T) l.kc (l.kids.length:Int) (i:Int)=some (if hJ (yB (l.kids.drop i))=0 then (0,[])else (1,[.r [.int (hJ (yB (l.kids.drop i)))]]))
 |0,i,hh=>by
  rw[aMX];unfold aGM
  obtain rfl:i=l.kids.length:=by omega
  rw[List.drop_length]
  exact cH.eq (.ite (fun h=>absurd h aAg) fun _=> .some rfl)
 |j+1,i,hh=>by
  rw[aMX];unfold aGM
  have hi:i<l.kids.length:=by omega
  have ih:=a9a l h hc j (i+1) (by omega)
  refine cH.eq (.pos (dec_lt hi) (.pos (aHZ hi) ?_))
  rw[tT hi]
  refine .jB (hc _ (List.getElem_mem hi)) ?_
  have hk:=h.kids
  rw[List.drop_eq_getElem_cons hi,yB,aV6]
  simp only[fA,gA,jA,uB (show i≤big by omega),ih]
  by_cases h0:hJ (nodes l.kids[i])=0
  ·have hb:(hJ (nodes l.kids[i]) !=0)=false:=by simp[h0]
   simp only[hb,h0,Bool.false_eq_true,if_false,ne_eq,not_true_eq_false]
   exact .some rfl
  ·have hb:(hJ (nodes l.kids[i]) !=0)=true:=by simp[h0]
   simp only[hb,h0,if_true,if_false,ne_eq,not_false_eq_true]
   exact .some rfl
theorem aYA (l:dA) (h:nF l):(cA T).pc aBP [l.row]=some [[.int (hJ (nodes l))]]:=by
 have aBw:∀k∈l.kids,(cA T).pc aBP [k.row]=some [[.int (hJ (nodes k))]]:=fun k hk=>by
  have:=dA.lD hk
  exact aYA k (h.kid hk)
 rw[aZw];unfold aR8
 refine cH.eq (.jB (aV5 l h).1 ?_)
 rw[nodes_eq,hJ]
 have hl:=a9a l h aBw l.kids.length 0 (by omega)
 rw[List.drop_zero,show ((0:Nat):Int)=0 from rfl]at hl
 simp only[fA,gA,jA,uC,dA.cD,List.length_map,hl]
 by_cases h0:dY l=0
 ·have hb:(dY l !=0)=false:=by simp[h0]
  simp only[hb,h0,Bool.false_eq_true,if_false,ne_eq,not_true_eq_false]
  by_cases h2:hJ (yB l.kids)=0
  ·simp only[h2,if_true];exact .some rfl
  ·simp only[h2,if_false];exact .some rfl
 ·have hb:(dY l !=0)=true:=by simp[h0]
  simp only[hb,h0,if_true,ne_eq,not_false_eq_true]
  exact .some rfl
 termination_by SizeOf.sizeOf l
theorem aN6 (l:dA) (h:nF l):∀k∈nodes l,nF k:=by
 rw[nodes_eq]
 intro k hk
 rcases List.mem_cons.1 hk with e |e
 ·rw[e];exact h
 ·have:∀ls:List dA,(∀x∈ls,∀y∈nodes x,nF y)→∀y∈yB ls,nF y:=by
   intro ls
   induction ls with
   |nil=>intro _ y hy;simp[yB]at hy
   |cons a r ih=>
    intro hx y hy
    simp only[yB,List.mem_append]at hy
    rcases hy with e |e
    ·exact hx a (by simp) y e
    ·exact ih (fun x hx'=>hx x (by simp[hx'])) y e
  refine this l.kids (fun x hx y hy=> ?_) k e
  have:=dA.lD hx
  exact aN6 x (h.kid hx) y hy
 termination_by SizeOf.sizeOf l
theorem a1F (ls:List dA) (hN:ls.length≤big) (ho:∀k∈ls,nF k):∀(j i:Nat),i+j=ls.length→
 eW (cA T) (.sl (ls.map dA.row)) (ls.length:Int) (i:Int)=some (if hJ (ls.drop i)=0 then (0,[])else (1,[.r [.int (hJ (ls.drop i))]]))
 |0,i,hh=>by
  rw[aFm];unfold fW
  obtain rfl:i=ls.length:=by omega
  rw[List.drop_length]
  exact cH.eq (.ite (fun h=>absurd h aAg) fun _=> .some rfl)
 |j+1,i,hh=>by
  rw[aFm];unfold fW
  have hi:i<ls.length:=by omega
  have ih:=a1F ls hN ho j (i+1) (by omega)
  refine cH.eq (.pos (dec_lt hi) (.pos (aDo (by simpa using hi)) ?_))
  rw[aCi,show aA (ls.map dA.row) (i:Int).toNat=ls[i].row from (by rw[Int.toNat_natCast];exact fC _ _ _ hi)]
  refine .jB (aV5 _ (ho _ (List.getElem_mem hi))).2 ?_
  rw[List.drop_eq_getElem_cons hi,hJ]
  simp only[fA,gA,jA,uB (show i≤big by omega),ih]
  by_cases h0:dY ls[i]=0
  ·have hb:(dY ls[i] !=0)=false:=by simp[h0]
   simp only[hb,h0,Bool.false_eq_true,if_false,ne_eq,not_true_eq_false]
   exact .some rfl
  ·have hb:(dY ls[i] !=0)=true:=by simp[h0]
   simp only[hb,h0,if_true,if_false,ne_eq,not_false_eq_true]
   exact .some rfl
noncomputable def uT (l:dA):Int:=if (nodes l).length>120∨levels l>40 then 2 else hJ (nodes l)
theorem aMG (l:dA) (h:nF l):(cA T).pc lT [l.row]=some [[.int (uT l)]]:=by
 rw[aXa];unfold aPJ uT
 refine cH.eq (.jB (aYy l h) ?_)
 refine .ite (fun e=> ?_) fun e=> ?_
 ·rw[if_pos (.inl (by have:((nodes l).length:Int)>120:=of_decide_eq_true e;omega))]
  exact .some rfl
 ·have e1:¬(nodes l).length>120:=by have:=of_decide_eq_false (by simpa using e:decide (((nodes l).length:Int)>120)=false);omega
  refine .jB (aYz l h) ?_
  refine .ite (fun e2=> ?_) fun e2=> ?_
  ·rw[if_pos (.inr (by have:(levels l:Int)>40:=of_decide_eq_true e2;omega))]
   exact .some rfl
  ·have e3:¬levels l>40:=by have:=of_decide_eq_false (by simpa using e2:decide ((levels l:Int)>40)=false);omega
   rw[if_neg (by omega)]
   exact .jB (aYA l h) (.some rfl)
theorem aTp (l:dA) (h:nF l):(cA T).pc sZ [l.row]=some [[.int (uT l)]]:=by
 rw[aRg];unfold aHN uT
 refine cH.eq (.jB (aV4 l h) ?_)
 have er:(at_ (aA [[C.sl ((nodes l).map dA.row)]] 0) 0)=C.sl ((nodes l).map dA.row):=rfl
 refine .bind (R:=fun r=>r=(0,[.r [.sl ((nodes l).map dA.row)],.r [.bool (decide ((nodes l).length>120∨levels l>40))]])) ?_ ?_
 ·rw[er,aCi,List.length_map]
  refine .ite (fun e=> ?_) fun e=> ?_
  ·have e1:(nodes l).length>120:=by have:=of_decide_eq_true e;omega
   refine .some ?_
   rw[decide_eq_true (.inl e1)]
  ·have e1:¬(nodes l).length>120:=by have:=of_decide_eq_false (by simpa using e:decide (((nodes l).length:Int)>120)=false);omega
   refine .jB (aTs l h) (.some ?_)
   simp only[fA,gA,jA]
   have:decide ((levels l:Int)>40)=decide ((nodes l).length>120∨levels l>40):=by
    by_cases e2:levels l>40
    ·rw[decide_eq_true (show (levels l:Int)>40 by omega),decide_eq_true (show (nodes l).length>120∨levels l>40 from .inr e2)]
    ·rw[decide_eq_false (show ¬(levels l:Int)>40 by omega),decide_eq_false (show ¬((nodes l).length>120∨levels l>40) by omega)]
   exact congrArg (fun b=>((0:Nat),([PV.r [.sl ((nodes l).map dA.row)],PV.r [.bool b]]:List PV))) this
 rintro r rfl
 by_cases e:(nodes l).length>120∨levels l>40
 ·rw[if_pos e,decide_eq_true e];exact .some rfl
 ·rw[if_neg e,decide_eq_false e]
  simp only[cC,aC,xB,Bool.false_eq_true,if_false,aCi,List.length_map]
  have hl:=a1F (nodes l) h.nodes (aN6 l h) (nodes l).length 0 (by omega)
  rw[List.drop_zero,show ((0:Nat):Int)=0 from rfl]at hl
  rw[hl]
  by_cases h2:hJ (nodes l)=0
  ·simp only[h2,if_true];exact .some rfl
  ·simp only[h2,if_false];exact .some rfl
theorem a1g:(cA T).pc aIN []=some [[.bool true]]:=(qQ T).2 ⟨60,by kernel_rfl⟩
end Go.Ev.jJ
