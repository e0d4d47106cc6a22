/-
  A part of the proof: what the functions of the program compute.
-/
import Derived.Test.YtdhebofenihjmaaGreatDoorZU
set_option linter.all false
set_option maxRecDepth 100000
namespace Go.Ev.dJ
noncomputable def aVV:List Bytes→Int
 |[a,b]=>if aT1 a≠0 then aT1 a else aT1 b
 |_=>3
noncomputable def aHP (l:dA):Int:=
 if l.op=14 then (if l.names.length≠l.kids.length then 3 else aSA l.names)
 else if l.op=6 then aSA l.names
 else if l.op=9 then aVV l.names
 else if l.op=11 then aVU l.pairs
 else if l.op=12 then (if l.low<0∨l.high<l.low∨l.high>999999999 then 11 else 0)
 else 0
noncomputable def aNX (l:dA):Int:=
 if l.op=5 then (if (l.v.k !=0&& !sU l.v.k)=true then 8 else 0)
 else if l.op=15 then (if (!sU l.v.k)=true then 8 else 0)
 else aHP l
structure aF (l:dA):Prop where
 wf:l.wf
 fB:l.fB≤big
theorem uR:∀(l:List Bytes),l.length≤uJ l
 |[]=>by simp[uJ]
 |s::r=>by have:=uR r;simp only[uJ,List.length_cons];omega
theorem aF.names {l:dA} (h:aF l):l.names.length≤big:=by have:=l.eG;have:=h.fB;have:=uR l.names;omega
theorem aF.pairs {l:dA} (h:aF l):aIG l.pairs:=by
 have hb:=l.eG
 have hbb:=h.fB
 refine ⟨fun p hp k=> ?_,fun p hp k=> ?_,by have:=s9 l.pairs;omega⟩
 ·have:=dA.a9A h.wf hp
  cases k
  ·exact this.1
  ·exact this.2
 ·have:=u9 hp
  cases k
  ·show p.1.fB≤big;omega
  ·show p.2.fB≤big;omega
theorem aF.v {l:dA} (h:aF l):l.v.fB≤big:=by have:=l.eG;have:=h.fB;omega
theorem aF.kids {l:dA} (h:aF l):l.kids.length≤big:=by have:=l.eG;have:=h.fB;have:=dA.aBo l.kids;omega
theorem aF.kid {l k:dA} (h:aF l) (hk:k∈l.kids):aF k:=⟨dA.a2i h.wf hk,by have:=dA.aEP hk;have:=h.fB;omega⟩
theorem bEu (c:C) (a b:Bytes) (hc:c.rows=[a,b].map fF):aAF (eA T) c 2 0=some (if aVV [a,b]=0 then (0,[])else (1,[.r [.int (aVV [a,b])]])):=by
 refine yH.eq ?_
 rw[aBj];unfold pT
 rw[hc]
 have hz:∀n:Int,decide ((n !=0)=true)=decide (n≠0):=fun n=>by simp
 refine .pos rfl (.pos (by simp) (.jB (aRj a) ?_))
 rw[aVV]
 refine .ite (fun h=> ?_) fun h=> ?_
 ·have h':¬aT1 a=0:=by simpa using h
  simp only[h',ne_eq,not_false_eq_true,if_true,if_false];exact .some rfl
 ·have h':aT1 a=0:=by simpa using h
  simp only[h',ne_eq,not_true_eq_false,if_false]
  rw[show IntKind.wrap .i64 ((0:Int)+1)=1 from rfl,aBj];unfold pT
  rw[hc]
  refine .pos rfl (.pos (by simp) (.jB (aRj b) ?_))
  refine .ite (fun h=> ?_) fun h=> ?_
  ·have h':¬aT1 b=0:=by simpa using h
   simp only[h',if_false];exact .some rfl
  ·have h':aT1 b=0:=by simpa using h
   simp only[h',if_true]
   rw[show IntKind.wrap .i64 ((1:Int)+1)=2 from rfl,aBj];unfold pT
   exact .some rfl
theorem bHq {l:List Bytes} (h:¬(((l.length:Int) !=2)=true)):∃a b,l=[a,b]:=by
 match l with
 |[a,b]=>exact ⟨a,b,rfl⟩
 |[]=>simp at h
 |[a]=>simp at h
 |a::b::c::r=>simp at h;omega
theorem bCz {l:List Bytes} (h:((l.length:Int) !=2)=true):aVV l=3:=by
 match l with
 |[a,b]=>simp at h
 |[]=>rfl
 |[a]=>rfl
 |a::b::c::r=>rfl
theorem aRk (l:dA) (h:aF l):(eA T).pc aCw [l.row]=some [[.int (aNX l)]]:=by
 have hN:=kC l.nb (l.names.map fF)
 have hP:=kC l.pb (l.pairs.map tA)
 refine yH.eq ?_
 rw[aTS];unfold aLL aNX aHP
 simp (config:={zeta:=false,letToHave:=false}) only[xC,aF6,aOd,aOe,aIi,aEQ,vC,iA,hN,dA.gD,List.length_map,beq_iff_eq]
 refine .ite (fun e=> ?_) fun e5=> ?_
 ·rw[if_pos e]
  refine .ite (fun hk=> ?_) fun hk=> ?_
  rotate_left
  ·have hk':(l.v.k !=0)=false:=by simpa using hk
   simp only[hk',Bool.false_and,Bool.false_eq_true,if_false];exact .some rfl
  ·simp only[hk,Bool.true_and]
   refine .jB (aPX _) ?_
   cases hp:sU l.v.k
   ·exact .some rfl
   ·exact .some rfl
 rw[if_neg e5]
 refine .ite (fun e=> ?_) fun e15=> ?_
 ·rw[if_pos e]
  refine .jB (aPX _) ?_
  cases hp:sU l.v.k
  ·exact .some rfl
  ·exact .some rfl
 rw[if_neg e15]
 refine .ite (fun e=> ?_) fun e6=> ?_
 ·rw[if_neg (by omega),if_pos e]
  exact .jB (aVR _ _ hN h.names) (.some rfl)
 refine .ite (fun e=> ?_) fun e14=> ?_
 ·rw[if_pos e]
  refine .ite (fun e=> ?_) fun e=> ?_
  ·rw[if_pos (by simp at e;omega)];exact .some rfl
  ·rw[if_neg (by simp at e;omega)]
   exact .jB (aVR _ _ hN h.names) (.some rfl)
 rw[if_neg e14,if_neg e6]
 refine .ite (fun e=> ?_) fun e9=> ?_
 ·rw[if_pos e]
  refine .ite (fun e=> ?_) fun e=> ?_
  ·rw[bCz e];exact .some rfl
  ·obtain ⟨a,b,hab⟩:=bHq e
   rw[hab]at hN⊢
   refine .jB (bEu _ a b hN) ?_
   by_cases h0:aVV [a,b]=0
   ·simp only[h0,if_true];exact .some rfl
   ·simp only[h0,if_false];exact .some rfl
 rw[if_neg e9]
 refine .ite (fun e=> ?_) fun e11=> ?_
 ·rw[if_pos e]
  exact .jB (a1n _ _ hP h.pairs) (.some rfl)
 rw[if_neg e11]
 refine .ite (fun e=> ?_) fun e12=> ?_
 ·rw[if_pos e]
  by_cases h1:l.low<0
  ·simp only[h1,decide_true,if_true,true_or];exact .some rfl
  ·by_cases h2:l.high<l.low
   ·simp only[h1,h2,decide_true,decide_false,Bool.false_eq_true,if_true,if_false,true_or,or_true];exact .some rfl
   ·by_cases h3:l.high>999999999
    ·simp only[h1,h2,h3,decide_true,decide_false,Bool.false_eq_true,if_true,if_false,true_or,or_true];exact .some rfl
    ·simp only[h1,h2,h3,decide_true,decide_false,Bool.false_eq_true,if_true,if_false,or_self];exact .some rfl
 ·rw[if_neg e12];exact .some rfl
theorem a3h (l:dA) (h:aF l):(eA T).pc zY [l.row]=some [[.int (aHP l)]]:=by
 have hN:=kC l.nb (l.names.map fF)
 have hP:=kC l.pb (l.pairs.map tA)
 refine yH.eq ?_
 rw[aQ9];unfold aHy aHP
 simp (config:={zeta:=false,letToHave:=false}) only[xC,aF6,aOd,aOe,aIi,aEQ,vC,iA,hN,dA.gD,List.length_map,beq_iff_eq]
 refine .ite (fun e=> ?_) fun e14=> ?_
 ·rw[if_pos e]
  refine .ite (fun e=> ?_) fun e=> ?_
  ·rw[if_pos (by simp at e;omega)];exact .some rfl
  ·rw[if_neg (by simp at e;omega)]
   exact .jB (aO1 _ _ hN h.names) (.some rfl)
 rw[if_neg e14]
 refine .ite (fun e=> ?_) fun e6=> ?_
 ·rw[if_pos e]
  exact .jB (aO1 _ _ hN h.names) (.some rfl)
 rw[if_neg e6]
 refine .ite (fun e=> ?_) fun e9=> ?_
 ·rw[if_pos e]
  refine .ite (fun e=> ?_) fun e=> ?_
  ·rw[bCz e];exact .some rfl
  ·obtain ⟨a,b,hab⟩:=bHq e
   rw[hab]at hN⊢
   refine .pos (by simp) (.jB (aRj a) ?_)
   rw[aVV]
   refine .ite (fun h=> ?_) fun h=> ?_
   ·have h':¬aT1 a=0:=by simpa using h
    simp only[h',ne_eq,not_false_eq_true,if_true,if_false];exact .some rfl
   ·have h':aT1 a=0:=by simpa using h
    simp only[h',ne_eq,not_true_eq_false,if_false]
    exact .pos (by simp) (.jB (aRj b) (.some rfl))
 rw[if_neg e9]
 refine .ite (fun e=> ?_) fun e11=> ?_
 ·rw[if_pos e]
  exact .jB (a1r _ _ hP h.pairs) (.some rfl)
 rw[if_neg e11]
 refine .ite (fun e=> ?_) fun e12=> ?_
 ·rw[if_pos e]
  by_cases h1:l.low<0
  ·have g1:¬0≤l.low:=by omega
   simp only[h1,g1,decide_true,decide_false,Bool.false_eq_true,if_true,if_false,true_or,Bool.not_false];exact .some rfl
  ·have g1:0≤l.low:=by omega
   by_cases h2:l.high<l.low
   ·have g2:¬l.low≤l.high:=by omega
    simp only[h1,h2,g1,g2,decide_true,decide_false,Bool.false_eq_true,if_true,if_false,true_or,or_true,Bool.not_false];exact .some rfl
   ·have g2:l.low≤l.high:=by omega
    by_cases h3:l.high>999999999
    ·have g3:¬l.high≤999999999:=by omega
     simp only[h1,h2,h3,g1,g2,g3,decide_true,decide_false,Bool.false_eq_true,if_true,if_false,true_or,or_true,Bool.not_false];exact .some rfl
    ·have g3:l.high≤999999999:=by omega
     simp only[h1,h2,h3,g1,g2,g3,decide_true,decide_false,Bool.false_eq_true,if_true,if_false,or_self,Bool.not_true];exact .some rfl
 ·rw[if_neg e12];exact .some rfl
end Go.Ev.dJ
namespace Go.Ev.dJ
theorem yH.as {β:Type} {Q:β→Prop} {x y:Option β} (e:x=y) (h:yH Q y):yH Q x:=by rw[e];exact h
@[simp] theorem fl0 (f:Fl):at_ f.row 0= .bool f.n:=rfl
@[simp] theorem fl1 (f:Fl):at_ f.row 1= .bool f.t:=rfl
@[simp] theorem fl2 (f:Fl):at_ f.row 2= .bool f.s:=rfl
@[simp] theorem fl3 (f:Fl):at_ f.row 3= .bool f.i:=rfl
@[simp] theorem fl4 (f:Fl):at_ f.row 4= .bool f.b:=rfl
@[simp] theorem fl5 (f:Fl):at_ f.row 5= .bool f.p:=rfl
@[simp] theorem fl6 (f:Fl):at_ f.row 6= .bool f.v:=rfl
@[simp] theorem fl7 (f:Fl):at_ f.row 7= .bool f.l:=rfl
@[simp] theorem fl8 (f:Fl):at_ f.row 8= .int f.k:=rfl
def zeroV:aB:= .mk 0 0 [] true []
theorem a5K:zeroV.row=[.int 0,.int 0,.str [],.bA]:=rfl
theorem a8O:zeroV.wf:=by simp[zeroV,aB.wf,aB.wfs,aB5]
def aSx (l:dA) (f:Fl):Bool:=(((((((!(l.name==[])&& !f.n)||(!(l.to==[])&& !f.t))||(decide ((l.names.length:Int)>0)&& !f.s))||((l.n !=0)&& !f.i))||((l.low !=0 ||l.high !=0)&& !f.b))||((l.sep !=0)&& !f.p))||(decide ((l.pairs.length:Int)>0)&& !f.l))||(!f.v&& !l.v.eqv zeroV)
def aIF (l:dA) (f:Fl):Bool:=(decide (f.k≥0)&&((l.kids.length:Int) !=f.k))||(decide (f.k<0)&&((l.kids.length:Int)==0))
noncomputable def aUp (l:dA) (f:Fl):Bool:=((f.n&& !nm l.name)&& !((l.op==13)&&(l.name==[])))||(f.t&& !nm l.to)
noncomputable def aO0 (l:dA) (f:Fl):Int:=if aSx l f=true then 3 else if aIF l f=true then 3 else if aUp l f=true then 15 else if f.v=true then (if aGW l.v≠0 then aGW l.v else aNX l)else aNX l
theorem aT2 {β:Type} {K:Bool→Option β} {b x:Bool}:(if b=true then K x else K false)=K (b&&x):=by cases b<;>rfl
theorem kor {β:Type} {K:Bool→Option β} {q b:Bool} {x:Option β} (h:x=K b):(if q=true then K true else x)=K (q ||b):=by cases q<;>simp[h]
theorem aZw (l:dA):([.int l.v.k,.int l.v.n,.str l.v.s,l.v.fc]:Row)=l.v.row:=rfl
theorem aX4 (l:dA) (h:aF l) (f:Fl) (w u:Bytes) (h0:0≤l.op) (h1:l.op<19) (ho:aFW l.op f w u):(eA T).pc eX [l.row]=some [[.int (aO0 l f)]]:=by
 have hN:=kC l.nb (l.names.map fF)
 have hP:=kC l.pb (l.pairs.map tA)
 have hsame:=aSr l.v zeroV (dA.bDp h.wf) a8O h.v
 rw[a5K]at hsame
 have hrow:([at_ l.row 8,at_ l.row 9,at_ l.row 10,at_ l.row 11]:Row)=l.v.row:=rfl
 refine yH.eq ?_
 rw[aMt];unfold aKn
 refine .bind (R:=fun r=>r=(0,[.r [.dp l.row],.r [.bool false]])) ?_ ?_
 ·refine .ite (fun e=>absurd (of_decide_eq_true e) (by simp;omega)) fun _=> .some ?_
  have:decide ((at_ l.row 0).uA≥19)=false:=by simp;omega
  rw[this]
 rintro r rfl
 simp (config:={zeta:=false,letToHave:=false}) only[cC,zB,uB,dB,if_true,sA,Bool.false_eq_true,if_false,xC,iA]
 refine .jB ho.table ?_
 refine .bind (R:=fun r=>r=(0,[.r [.dp l.row],.r [.bool (aSx l f)],.r f.row])) ?_ ?_
 ·simp (config:={zeta:=false,letToHave:=false}) only[hrow,cA,fl0,fl1,fl2,fl3,fl4,fl5,fl6,fl7,fl8,jA,sG,vR,aF6,aT9,aOd,aOe,aK7,aEQ,rA,iA,hN,hP,List.length_map,hsame]
  extract_lets K19 K21 K17 K24 K15 K26 K13 K30 K28 K11 K32 K9 K34 K7 K36 K5
  have e17:∀q,K17 q=K19 (q ||(!f.v&& !l.v.eqv zeroV)):=fun q=>kor (K:=K19) (by cases f.v<;>rfl)
  have e15:∀q,K15 q=K17 (q ||(decide ((l.pairs.length:Int)>0)&& !f.l)):=fun q=>kor (K:=K17) (aT2 (K:=K17))
  have e13:∀q,K13 q=K15 (q ||((l.sep !=0)&& !f.p)):=fun q=>kor (K:=K15) (aT2 (K:=K15))
  have e11:∀q,K11 q=K13 (q ||((l.low !=0 ||l.high !=0)&& !f.b)):=fun q=>kor (K:=K13) ((kor (K:=K28) rfl).trans (aT2 (K:=K13)))
  have e9:∀q,K9 q=K11 (q ||((l.n !=0)&& !f.i)):=fun q=>kor (K:=K11) (aT2 (K:=K11))
  have e7:∀q,K7 q=K9 (q ||(decide ((l.names.length:Int)>0)&& !f.s)):=fun q=>kor (K:=K9) (aT2 (K:=K9))
  have e5:∀q,K5 q=K7 (q ||(!(l.to==[])&& !f.t)):=fun q=>kor (K:=K7) (aT2 (K:=K7))
  refine .as (aT2 (K:=K5)) ?_
  rw[e5,e7,e9,e11,e13,e15,e17]
  exact .some rfl
 rintro r rfl
 simp (config:={zeta:=false,letToHave:=false}) only[cC,zB,uB,eC,eD,oD,dB,if_true,sA,Bool.false_eq_true,if_false,xC,iA,hrow]
 unfold aO0
 refine .ite (fun e=> ?_) fun e=> ?_
 ·rw[if_pos e];exact .some rfl
 rw[if_neg e]
 refine .bind (R:=fun r=>r=(0,[.r [.dp l.row],.r [.bool (aIF l f)],.r f.row])) ?_ ?_
 ·simp (config:={zeta:=false,letToHave:=false}) only[fl8,vC,dA.gD,List.length_map,iA]
  extract_lets K41 K43 K39
  have e39:∀q,K39 q=K41 (q ||(decide (f.k<0)&&((l.kids.length:Int)==0))):=fun q=>kor (K:=K41) (aT2 (K:=K41))
  refine .as (aT2 (K:=K39)) ?_
  rw[e39]
  exact .some rfl
 rintro r rfl
 simp (config:={zeta:=false,letToHave:=false}) only[cC,zB,uB,eC,eD,oD,dB,if_true,sA,Bool.false_eq_true,if_false,xC,iA,hrow]
 refine .ite (fun e=> ?_) fun e=> ?_
 ·rw[if_pos e];exact .some rfl
 rw[if_neg e]
 refine .bind (R:=fun r=>r=(0,[.r [.dp l.row],.r [.bool (aUp l f)],.r f.row])) ?_ ?_
 ·simp (config:={zeta:=false,letToHave:=false}) only[fl0,fl1,jA,sG,vR,xC,rA,iA,aG8,Option.bind_some,cA,gA]
  extract_lets K50 K52 K48 K55 K46
  have e48:∀q,K48 q=K50 (q ||(f.t&& !nm l.to)):=fun q=>kor (K:=K50) (aT2 (K:=K50))
  have e46:∀q,K46 q=K48 (q&& !((l.op==13)&&(l.name==[]))):=fun q=>by
   cases q
   ·rfl
   ·show (if (l.op==13)=true then K55 (l.name==[])else K55 false)=_
    rw[aT2 (K:=K55)]
    rfl
  refine .as (y:=K46 (f.n&& !nm l.name)) (aT2 (K:=K46)) ?_
  rw[e46,e48]
  exact .some rfl
 rintro r rfl
 simp (config:={zeta:=false,letToHave:=false}) only[cC,zB,uB,eC,eD,oD,dB,if_true,sA,Bool.false_eq_true,if_false,xC,iA,hrow,fl6,jA]
 refine .ite (fun e=> ?_) fun e=> ?_
 ·rw[if_pos e];exact .some rfl
 rw[if_neg e]
 refine .ite (fun e=> ?_) fun e=> ?_
 ·rw[if_pos e]
  refine .jB (aFd _ h.v).1 ?_
  refine .ite (fun e=> ?_) fun e=> ?_
  ·rw[if_pos (by simpa using e)];exact .some rfl
  ·rw[if_neg (by simpa using e)]
   exact .jB (aRk l h) (.some rfl)
 ·rw[if_neg e]
  exact .jB (aRk l h) (.some rfl)
end Go.Ev.dJ
namespace Go.Ev.dJ
def aYn (p:Int×Bool):Row:=[.int p.1,.bool p.2]
theorem a4v (c0:C) (u:Bytes) (l:List (Int×Bool)) (hN:l.length≤big):∀(j i:Nat),i+j=l.length→
 xY (eA T) c0 u (.sl (l.map aYn)) (l.length:Int) (i:Int)=some (if (l.drop i).any (fun p=>p.2&& !hasB u p.1)=true then (1,[.r [.int 3]])else (0,[.r [c0],.r [.str u]]))
 |0,i,h=>by
  rw[aF1];unfold yY
  obtain rfl:i=l.length:=by omega
  simp
 |j+1,i,h=>by
  rw[aF1];unfold yY
  have hi:i<l.length:=by omega
  have ih:=a4v c0 u l hN j (i+1) (by omega)
  refine yH.eq ?_
  refine .pos (dec_lt hi) (.pos (aFc (by simpa using hi)) ?_)
  rw[aB4,show aA (l.map aYn) (i:Int).toNat=aYn l[i]from (by rw[Int.toNat_natCast];exact iC _ _ _ hi),List.drop_eq_getElem_cons hi,List.any_cons,xB (show i≤big by omega),ih]
  have c1:at_ (aYn l[i]) 0= .int l[i].1:=rfl
  have c2:at_ (aYn l[i]) 1= .bool l[i].2:=rfl
  simp only[c1,c2,iA,jA,aKQ,Option.bind_some,cA,gA]
  cases l[i].2 with
  |false=>simp only[Bool.false_and,Bool.false_or,Bool.false_eq_true,if_false];exact .some rfl
  |true=>
   cases hasB u l[i].1 with
   |true=>simp only[Bool.true_and,Bool.not_true,Bool.false_or,Bool.false_eq_true,if_false,if_true];exact .some rfl
   |false=>simp only[Bool.true_and,Bool.not_false,Bool.true_or,if_true];exact .some rfl
theorem a5L:(eA T).pc aFB []=some [zeroV.row]:=by
 rw[aSn];rfl
theorem a3i (l:dA) (h:aF l) (f:Fl) (w u:Bytes) (h0:0≤l.op) (h1:l.op<19) (ho:aFW l.op f w u):(eA T).pc uT [l.row]=some [[.int (aO0 l f)]]:=by
 have hN:=kC l.nb (l.names.map fF)
 have hP:=kC l.pb (l.pairs.map tA)
 have hsame:=aDY l.v zeroV h.v
 have hrow:([at_ l.row 8,at_ l.row 9,at_ l.row 10,at_ l.row 11]:Row)=l.v.row:=rfl
 refine yH.eq ?_
 rw[aKL];unfold aEK
 refine .bind (R:=fun r=>r=(0,[.r [.dp l.row],.r [.bool false]])) ?_ ?_
 ·refine .ite (fun e=>absurd (of_decide_eq_true e) (by simp;omega)) fun _=> .some ?_
  have:decide ((at_ l.row 0).uA≥19)=false:=by simp;omega
  rw[this]
 rintro r rfl
 simp (config:={zeta:=false,letToHave:=false}) only[cC,zB,uB,dB,if_true,sA,Bool.false_eq_true,if_false,xC,iA]
 refine .jB ho.used ?_
 have hy:(at_ (aA [[C.str w],[C.str u]] 1) 0).qE=u:=rfl
 let xs:List (Int×Bool):=[(110, !(l.name==[])),(116, !(l.to==[])),(115,(l.names.length:Int) !=0),(105,l.n !=0),(98,l.low !=0 ||l.high !=0),(112,l.sep !=0),(118, !l.v.eqv zeroV),(108,(l.pairs.length:Int) !=0)]
 refine .bind (R:=fun r=>r=(0,[.r [.dp l.row],.r [.str u],.r [.sl (xs.map aYn)],.r [.int (xs.length:Int)],.r [.int 0]])) ?_ ?_
 ·simp (config:={zeta:=false,letToHave:=false}) only[hy,a5L,Option.bind_some,hrow,cA,hsame,sG,vR,aF6,aT9,aOd,aOe,aK7,aEQ,rA,iA,hN,hP,List.length_map,gA,jA]
  extract_lets K5
  refine .as (kor (K:=K5) rfl) ?_
  exact .some rfl
 rintro r rfl
 have a8Q:=a4v (.dp l.row) u xs (by simp[xs,big]) xs.length 0 (by omega)
 rw[List.drop_zero,show ((0:Nat):Int)=0 from rfl]at a8Q
 have hx:xs.any (fun p=>p.2&& !hasB u p.1)=aSx l f:=by
  have hnz:∀n:Nat,((n:Int) !=0)=decide ((n:Int)>0):=fun n=>by
   cases n with
   |zero=>rfl
   |succ n=>simp;omega
  simp only[xs,List.any_cons,List.any_nil,Bool.or_false,ho.n,ho.t,ho.s,ho.i,ho.b,ho.p,ho.v,ho.l,hnz]
  unfold aSx
  generalize (l.name==[])=a1
  generalize (l.to==[])=a2
  generalize decide ((l.names.length:Int)>0)=a3
  generalize (l.n !=0)=a4
  generalize (l.low !=0 ||l.high !=0)=a5
  generalize (l.sep !=0)=a6
  generalize decide ((l.pairs.length:Int)>0)=a7
  generalize l.v.eqv zeroV=a8
  cases f.v<;>cases a8<;>simp[Bool.or_assoc]
 rw[hx]at a8Q
 simp (config:={zeta:=false,letToHave:=false}) only[cC,zB,uB,eC,yE,dF,qC,wC,a8Q]
 unfold aO0
 cases hsb:aSx l f with
 |true=>simp only[if_true];exact .some rfl
 |false=>
 simp (config:={zeta:=false,letToHave:=false}) only[Bool.false_eq_true,if_false,Option.bind_some,cC,zB,uB,eC,yE,dF,qC,wC,dB,if_true,sA,vC,dA.gD,List.length_map]
 refine .bind (R:=fun r=>r=if aIF l f=true then (1,[.r [.int 3]])else (0,[.r [.dp l.row],.r [.str u]])) ?_ ?_
 ·simp only[aKQ,Option.bind_some,cA,gA,jA]
  unfold aIF
  have hk:=ho.k
  have hk1:=ho.k1
  have hk2:=ho.k2
  generalize f.k=k at hk hk1 hk2⊢
  rcases hk with rfl |rfl |rfl
  ·have e1:((0:Int)==1)=false:=rfl
   have e2:((0:Int)== -1)=false:=rfl
   have e3:decide ((0:Int)≥0)=true:=rfl
   have e4:decide ((0:Int)<0)=false:=rfl
   simp only[hk1,hk2,e1,e2,e3,e4,Bool.false_eq_true,if_false,if_true,Option.bind_some,cC,zB,uB,eC,yE,dF,qC,wC,Bool.not_false,Bool.true_and,Bool.false_and,Bool.or_false]
   cases ((l.kids.length:Int) !=0)
   ·exact .some rfl
   ·exact .some rfl
  ·have e1:((1:Int)==1)=true:=rfl
   have e2:((1:Int)== -1)=false:=rfl
   have e3:decide ((1:Int)≥0)=true:=rfl
   have e4:decide ((1:Int)<0)=false:=rfl
   simp only[hk1,hk2,e1,e2,e3,e4,Bool.false_eq_true,if_false,if_true,Option.bind_some,cC,zB,uB,eC,yE,dF,qC,wC,Bool.not_false,Bool.not_true,Bool.true_and,Bool.false_and,Bool.or_false]
   cases ((l.kids.length:Int) !=1)
   ·exact .some rfl
   ·exact .some rfl
  ·have e1:((-1:Int)==1)=false:=rfl
   have e2:((-1:Int)== -1)=true:=rfl
   have e3:decide ((-1:Int)≥0)=false:=rfl
   have e4:decide ((-1:Int)<0)=true:=rfl
   simp only[hk1,hk2,e1,e2,e3,e4,Bool.false_eq_true,if_false,if_true,Option.bind_some,cC,zB,uB,eC,yE,dF,qC,wC,Bool.not_false,Bool.not_true,Bool.true_and,Bool.false_and,Bool.false_or]
   cases ((l.kids.length:Int)==0)
   ·exact .some rfl
   ·exact .some rfl
 rintro r rfl
 cases hkb:aIF l f with
 |true=>simp only[if_true,qC];exact .some rfl
 |false=>
 simp (config:={zeta:=false,letToHave:=false}) only[Bool.false_eq_true,if_false,Option.bind_some,cC,zB,uB,eC,yE,dF,qC,wC,dB,if_true,sA]
 let n1:Bool:=(f.n&& !nm l.name)&& !((l.op==13)&&(l.name==[]))
 let n2:Bool:=f.t&& !nm l.to
 have hnb:aUp l f=(n1 ||n2):=rfl
 refine .bind (R:=fun r=>r=(0,[.r [.dp l.row],.r [.str u],.r [.bool n1]])) ?_ ?_
 ·simp only[aKQ,Option.bind_some,cA,gA,jA,ho.n,xC,sG,rA,iA,aG8]
  refine .as (y:=some ((0:Nat),([PV.r [.dp l.row],PV.r [.str u],PV.r [.bool n1]]:List PV))) ?_ (.some rfl)
  ·show _=some ((0:Nat),([PV.r [.dp l.row],PV.r [.str u],PV.r [.bool ((f.n&& !nm l.name)&& !((l.op==13)&&(l.name==[])))]]:List PV))
   by_cases h13:l.op=13
   ·have b1:(l.op !=13)=false:=by simp[h13]
    have b2:(l.op==13)=true:=by simp[h13]
    simp only[b1,b2]
    cases f.n<;>cases nm l.name<;>cases (l.name==[])<;>rfl
   ·have b1:(l.op !=13)=true:=by simp[h13]
    have b2:(l.op==13)=false:=by simp[h13]
    simp only[b1,b2]
    cases f.n<;>cases nm l.name<;>cases (l.name==[])<;>rfl
 rintro r rfl
 simp (config:={zeta:=false,letToHave:=false}) only[Bool.false_eq_true,if_false,Option.bind_some,cC,zB,uB,eC,yE,dF,qC,wC,dB,if_true,sA,hnb]
 cases hn1:n1 with
 |true=>simp only[if_true,Bool.true_or];exact .some rfl
 |false=>
 simp (config:={zeta:=false,letToHave:=false}) only[Bool.false_eq_true,if_false,Bool.false_or]
 refine .bind (R:=fun r=>r=(0,[.r [.dp l.row],.r [.str u],.r [.bool n2]])) ?_ ?_
 ·simp only[aKQ,Option.bind_some,cA,gA,jA,ho.t,vR,rA,aG8]
  refine .as (y:=some ((0:Nat),([PV.r [.dp l.row],PV.r [.str u],PV.r [.bool n2]]:List PV))) ?_ (.some rfl)
  show _=some ((0:Nat),([PV.r [.dp l.row],PV.r [.str u],PV.r [.bool (f.t&& !nm l.to)]]:List PV))
  cases f.t<;>cases nm l.to<;>rfl
 rintro r rfl
 simp (config:={zeta:=false,letToHave:=false}) only[Bool.false_eq_true,if_false,Option.bind_some,cC,zB,uB,eC,yE,dF,qC,wC,dB,if_true,sA]
 cases hn2:n2 with
 |true=>simp only[if_true];exact .some rfl
 |false=>
 simp (config:={zeta:=false,letToHave:=false}) only[Bool.false_eq_true,if_false]
 have hsl:=h
 have fin:∀e:Int,e=aHP l→yH (fun r=>r=[[C.int e]]) (if (C.dp l.row).xA=true then ((eA T).pc zY [(C.dp l.row).fA]).bind fun y59=>some [[C.int (at_ (aA y59 0) 0).uA]]else none):=by
  rintro e rfl
  exact .pos rfl (.jB (a3h l h) (.some rfl))
 refine .jB (aKQ _ _) ?_
 simp (config:={zeta:=false,letToHave:=false}) only[cA,gA,jA,ho.v]
 refine .bind (R:=fun r:Nat×List PV=>(r=(0,[PV.r [C.dp l.row]])∧(if f.v=true then (if aGW l.v≠0 then aGW l.v else aNX l)else aNX l)=aHP l)∨r=(1,[PV.r [C.int (if f.v=true then (if aGW l.v≠0 then aGW l.v else aNX l)else aNX l)]])) ?_ ?_
 ·simp (config:={zeta:=false,letToHave:=false}) only[aKQ,Option.bind_some,cA,gA,jA,ho.v,hrow,(aFd _ h.v).1,iA,xC]
  simp (config:={zeta:=false,letToHave:=false}) only[aIi,iA,aN4,Option.bind_some,cA,gA,jA]
  cases hv:f.v with
  |false=>
   have n5:¬l.op=5:=fun e=>by rw[ho.o5 e]at hv;cases hv
   have n15:¬l.op=15:=fun e=>by rw[ho.o15 e]at hv;cases hv
   simp only[Bool.false_eq_true,if_false]
   refine .some (.inl ⟨rfl, ?_⟩)
   unfold aNX
   rw[if_neg n5,if_neg n15]
  |true=>
   simp only[if_true]
   by_cases hc:aGW l.v=0
   ·simp only[hc,ne_eq,not_true_eq_false,if_false,bne_self_eq_false,Bool.false_eq_true]
    unfold aNX
    by_cases h5:l.op=5
    ·have l0:aHP l=0:=by unfold aHP;rw[h5];rfl
     have b5:(l.op==5)=true:=by simp[h5]
     have b15:(l.op==15)=false:=by simp[h5]
     simp only[b5,b15,if_pos h5,if_true,Bool.false_eq_true,if_false]
     rw[l0]
     cases hk:(l.v.k !=0)with
     |false=>simp only[Bool.false_eq_true,if_false,Bool.false_and];exact .some (.inl ⟨rfl,by simp⟩)
     |true=>
      cases hp:sU l.v.k with
      |false=>simp only[Bool.not_false,Bool.true_and,if_true];exact .some (.inr rfl)
      |true=>simp only[Bool.not_true,Bool.and_false,Bool.false_eq_true,if_true,if_false];exact .some (.inl ⟨rfl,by simp⟩)
    ·have b5:(l.op==5)=false:=by simp[h5]
     by_cases h15:l.op=15
     ·have l0:aHP l=0:=by unfold aHP;rw[h15];rfl
      have b15:(l.op==15)=true:=by simp[h15]
      simp only[b5,b15,if_neg h5,if_pos h15,if_true,Bool.false_eq_true,if_false]
      rw[l0]
      cases hp:sU l.v.k with
      |false=>simp only[Bool.not_false,if_true];exact .some (.inr rfl)
      |true=>simp only[Bool.not_true,Bool.false_eq_true,if_false];exact .some (.inl ⟨rfl,by simp⟩)
     ·have b15:(l.op==15)=false:=by simp[h15]
      simp only[b5,b15,if_neg h5,if_neg h15,Bool.false_eq_true,if_false]
      exact .some (.inl ⟨rfl,by simp⟩)
   ·have hc':(aGW l.v !=0)=true:=by simp[hc]
    simp only[hc',hc,ne_eq,not_false_eq_true,if_true]
    exact .some (.inr rfl)
 rintro r (⟨rfl,e⟩|rfl)
 ·exact fin _ e
 ·exact .some rfl
end Go.Ev.dJ
namespace Go.Ev.dJ
mutual
def nodes:dA→List dA
 | .mk a b c d e f g h i v pb ps kb kids=> .mk a b c d e f g h i v pb ps kb kids::yB kids
def yB:List dA→List dA
 |[]=>[]
 |l::r=>nodes l++yB r
end
theorem nodes_eq (l:dA):nodes l=l::yB l.kids:=by cases l;simp only[nodes,dA.kids]
mutual
def levels:dA→Nat
 | .mk _ _ _ _ _ _ _ _ _ _ _ _ _ kids=>tB kids+1
def tB:List dA→Nat
 |[]=>0
 |l::r=>max (levels l) (tB r)
end
theorem levels_eq (l:dA):levels l=tB l.kids+1:=by cases l;simp only[levels,dA.kids]
mutual
theorem aVB:∀l:dA,(nodes l).length≤l.fB
 | .mk a b c d e f g h i v pb ps kb kids=>by
   have:=aIH kids
   simp only[nodes,List.length_cons,dA.fB];omega
theorem aIH:∀ls:List dA,(yB ls).length≤dA.oF ls
 |[]=>by simp[yB]
 |l::r=>by
  have:=aVB l
  have:=aIH r
  simp only[yB,List.length_append,dA.oF];omega
end
mutual
theorem a5M:∀l:dA,levels l≤l.fB
 | .mk a b c d e f g h i v pb ps kb kids=>by
   have:=aGX kids
   simp only[levels,dA.fB];omega
theorem aGX:∀ls:List dA,tB ls≤dA.oF ls
 |[]=>by simp[tB]
 |l::r=>by
  have:=a5M l
  have:=aGX r
  simp only[tB,dA.oF];omega
end
theorem aMA:∀a b:List dA,yB (a++b)=yB a++yB b
 |[],b=>by simp[yB]
 |l::r,b=>by simp only[List.cons_append,yB,aMA r b,List.append_assoc]
theorem aJY:∀a b:List dA,tB (a++b)=max (tB a) (tB b)
 |[],b=>by simp[tB]
 |l::r,b=>by simp only[List.cons_append,tB,aJY r b];omega
theorem aPY:∀(ls:List dA) (i:Nat),dA.oF (ls.take i)≤dA.oF ls
 |[],i=>by simp
 |l::r,0=>by simp[dA.oF]
 |l::r,i+1=>by have:=aPY r i;simp only[List.take_succ_cons,dA.oF];omega
theorem aF.nodes {l:dA} (h:aF l):(nodes l).length≤big:=Nat.le_trans (aVB l) h.fB
theorem aOq {ls:List dA} {i:Nat} (hi:i<ls.length):ls.take (i+1)=ls.take i++[ls[i]]:=by rw[List.take_add_one,List.getElem?_eq_getElem hi];rfl
theorem gT {l:dA} {i:Nat} (hi:i<l.kids.length):aA l.kc.rows (i:Int).toNat=l.kids[i].row:=by rw[dA.gD,Int.toNat_natCast];exact iC _ _ _ hi
theorem aHL {l:dA} {i:Nat} (hi:i<l.kids.length):(0:Int)≤(i:Int)∧(i:Int)<(l.kc.rows.length:Int):=aFc (by rw[dA.gD,List.length_map];exact hi)
theorem bAk {n:Nat} (h:n≤big):IntKind.wrap .i64 (n:Int)=(n:Int):=by unfold big at h;exact wrap_i64 ⟨by omega,by omega⟩
theorem a8R (l:dA) (h:aF l) (hc:∀k∈l.kids,(eA T).pc aBt [k.row]=some [[.int ((nodes k).length:Int)]]):∀(j i:Nat),i+j=l.kids.length→
 aGd (eA T) (((1+(yB (l.kids.take i)).length:Nat)):Int) l.kc (l.kids.length:Int) (i:Int)=some (0,[.r [.int (((nodes l).length:Nat):Int)]])
 |0,i,hh=>by
  rw[aMN];unfold aGe
  obtain rfl:i=l.kids.length:=by omega
  refine yH.eq (.ite (fun h=>absurd h aC8) fun _=> .some ?_)
  rw[List.take_length,nodes_eq,List.length_cons,Nat.add_comm]
 |j+1,i,hh=>by
  rw[aMN];unfold aGe
  have hi:i<l.kids.length:=by omega
  have ih:=a8R l h hc j (i+1) (by omega)
  refine yH.eq (.pos (dec_lt hi) (.pos (aHL hi) ?_))
  rw[gT hi]
  refine .jB (hc _ (List.getElem_mem hi)) ?_
  have hk:=h.kids
  have e1:(at_ (aA [[C.int ((nodes l.kids[i]).length:Int)]] 0) 0).uA=((nodes l.kids[i]).length:Int):=rfl
  have e2:1+(yB (l.kids.take (i+1))).length=1+(yB (l.kids.take i)).length+(nodes l.kids[i]).length:=by
   rw[aOq hi,aMA];simp only[yB,List.append_nil,List.length_append];omega
  have hb:1+(yB (l.kids.take (i+1))).length≤big:=by
   have:=aIH (l.kids.take (i+1));have:=aPY l.kids (i+1);have:=l.eG;have:=h.fB;omega
  rw[e1,←Int.natCast_add,←e2,bAk hb,xB (show i≤big by omega),ih]
  exact .some rfl
theorem aYo (l:dA) (h:aF l):(eA T).pc aBt [l.row]=some [[.int ((nodes l).length:Int)]]:=by
 have aBk:∀k∈l.kids,(eA T).pc aBt [k.row]=some [[.int ((nodes k).length:Int)]]:=fun k hk=>by
  have:=dA.sD hk
  exact aYo k (h.kid hk)
 rw[aZl];unfold aRQ
 have:=a8R l h aBk l.kids.length 0 (by omega)
 rw[List.take_zero,show ((0:Nat):Int)=0 from rfl,show ((1+(yB []).length:Nat):Int)=1 from rfl]at this
 rw[vC,dA.gD,List.length_map,this]
 rfl
 termination_by SizeOf.sizeOf l
theorem a8S (l:dA) (h:aF l) (hc:∀k∈l.kids,(eA T).pc aBu [k.row]=some [[.int (levels k:Int)]]):∀(j i:Nat),i+j=l.kids.length→
 aGg (eA T) ((tB (l.kids.take i):Nat):Int) l.kc (l.kids.length:Int) (i:Int)=some (0,[.r [.int ((tB l.kids:Nat):Int)]])
 |0,i,hh=>by
  rw[aMO];unfold aGh
  obtain rfl:i=l.kids.length:=by omega
  refine yH.eq (.ite (fun h=>absurd h aC8) fun _=> .some ?_)
  rw[List.take_length]
 |j+1,i,hh=>by
  rw[aMO];unfold aGh
  have hi:i<l.kids.length:=by omega
  have ih:=a8S l h hc j (i+1) (by omega)
  refine yH.eq (.pos (dec_lt hi) (.pos (aHL hi) ?_))
  rw[gT hi]
  refine .jB (hc _ (List.getElem_mem hi)) ?_
  have hk:=h.kids
  have e1:(at_ (aA [[C.int (levels l.kids[i]:Int)]] 0) 0).uA=(levels l.kids[i]:Int):=rfl
  have e2:tB (l.kids.take (i+1))=max (tB (l.kids.take i)) (levels l.kids[i]):=by
   rw[aOq hi,aJY];simp only[tB];omega
  have e3:(if (levels l.kids[i]:Int)>(tB (l.kids.take i):Int)then (levels l.kids[i]:Int)else (tB (l.kids.take i):Int))=((tB (l.kids.take (i+1)):Nat):Int):=by
   rw[e2];split<;>omega
  rw[e1,e3,xB (show i≤big by omega),ih]
  exact .some rfl
theorem aYp (l:dA) (h:aF l):(eA T).pc aBu [l.row]=some [[.int (levels l:Int)]]:=by
 have aBk:∀k∈l.kids,(eA T).pc aBu [k.row]=some [[.int (levels k:Int)]]:=fun k hk=>by
  have:=dA.sD hk
  exact aYp k (h.kid hk)
 rw[aZm];unfold aRR
 have:=a8S l h aBk l.kids.length 0 (by omega)
 rw[List.take_zero,show ((0:Nat):Int)=0 from rfl,show ((tB []:Nat):Int)=0 from rfl]at this
 rw[vC,dA.gD,List.length_map,this]
 have hl:=aGX l.kids
 have hb:=l.eG
 have hbb:=h.fB
 refine yH.eq (.some ?_)
 show[[C.int (IntKind.wrap .i64 ((tB l.kids:Int)+1))]]=_
 rw[xB (show tB l.kids≤big by omega),levels_eq]
 termination_by SizeOf.sizeOf l
theorem a1s (l:dA) (h:aF l) (hc:∀k∈l.kids,(eA T).pc fL [k.row]=some [[.int (levels k:Int)]]):∀(j i:Nat),i+j=l.kids.length→
 eT (eA T) ((tB (l.kids.take i):Nat):Int) l.kc (l.kids.length:Int) (i:Int)=some (0,[.r [.int ((tB l.kids:Nat):Int)]])
 |0,i,hh=>by
  rw[aDp];unfold fT
  obtain rfl:i=l.kids.length:=by omega
  refine yH.eq (.ite (fun h=>absurd h aC8) fun _=> .some ?_)
  rw[List.take_length]
 |j+1,i,hh=>by
  rw[aDp];unfold fT
  have hi:i<l.kids.length:=by omega
  have ih:=a1s l h hc j (i+1) (by omega)
  refine yH.eq (.pos (dec_lt hi) (.pos (aHL hi) ?_))
  rw[gT hi]
  refine .jB (hc _ (List.getElem_mem hi)) ?_
  have hk:=h.kids
  have e1:(at_ (aA [[C.int (levels l.kids[i]:Int)]] 0) 0).uA=(levels l.kids[i]:Int):=rfl
  have e2:tB (l.kids.take (i+1))=max (tB (l.kids.take i)) (levels l.kids[i]):=by
   rw[aOq hi,aJY];simp only[tB];omega
  rw[e1,xB (show i≤big by omega)]
  refine .ite (fun e=> ?_) fun e=> ?_
  ·have e:(levels l.kids[i]:Int)>(tB (l.kids.take i):Int):=of_decide_eq_true e
   rw[show levels l.kids[i]=tB (l.kids.take (i+1)) by omega,ih]
   exact .some rfl
  ·have e:¬(levels l.kids[i]:Int)>(tB (l.kids.take i):Int):=fun x=>e (decide_eq_true x)
   rw[show tB (l.kids.take i)=tB (l.kids.take (i+1)) by omega,ih]
   exact .some rfl
theorem aTk (l:dA) (h:aF l):(eA T).pc fL [l.row]=some [[.int (levels l:Int)]]:=by
 have aBk:∀k∈l.kids,(eA T).pc fL [k.row]=some [[.int (levels k:Int)]]:=fun k hk=>by
  have:=dA.sD hk
  exact aTk k (h.kid hk)
 rw[aPO];unfold aFA
 have:=a1s l h aBk l.kids.length 0 (by omega)
 rw[List.take_zero,show ((0:Nat):Int)=0 from rfl,show ((tB []:Nat):Int)=0 from rfl]at this
 rw[vC,dA.gD,List.length_map,this]
 have hl:=aGX l.kids
 have hb:=l.eG
 have hbb:=h.fB
 refine yH.eq (.some ?_)
 show[[C.int (IntKind.wrap .i64 ((tB l.kids:Int)+1))]]=_
 rw[xB (show tB l.kids≤big by omega),levels_eq]
 termination_by SizeOf.sizeOf l
theorem a4w (l:dA) (h:aF l) (hc:∀k∈l.kids,(eA T).pc tM [k.row]=some [[.sl ((nodes k).map dA.row)]]):∀(j i:Nat),i+j=l.kids.length→
 mV (eA T) l.kc (l.kids.length:Int) (i:Int) (.sl ((l::yB (l.kids.take i)).map dA.row))=some (0,[.r [.sl ((nodes l).map dA.row)]])
 |0,i,hh=>by
  rw[aE4];unfold nV
  obtain rfl:i=l.kids.length:=by omega
  refine yH.eq (.ite (fun h=>absurd h aC8) fun _=> .some ?_)
  rw[List.take_length,nodes_eq]
 |j+1,i,hh=>by
  rw[aE4];unfold nV
  have hi:i<l.kids.length:=by omega
  have ih:=a4w l h hc j (i+1) (by omega)
  refine yH.eq (.pos (dec_lt hi) (.pos (aHL hi) ?_))
  rw[gT hi]
  refine .jB (hc _ (List.getElem_mem hi)) ?_
  have hk:=h.kids
  have e1:(at_ (aA [[C.sl ((nodes l.kids[i]).map dA.row)]] 0) 0).rows=(nodes l.kids[i]).map dA.row:=rfl
  have e2:(l::yB (l.kids.take i)).map dA.row++(nodes l.kids[i]).map dA.row=(l::yB (l.kids.take (i+1))).map dA.row:=by
   rw[aOq hi,aMA];simp only[yB,List.append_nil,List.map_cons,List.map_append,List.cons_append]
  have hb1:(l::yB (l.kids.take i)).length≤big:=by
   have:=aIH (l.kids.take i);have:=aPY l.kids i;have:=l.eG;have:=h.fB;simp only[List.length_cons];omega
  have hb2:=(h.kid (List.getElem_mem hi)).nodes
  rw[e1,aB4,List.length_map,List.length_map]
  unfold big at hb1 hb2
  refine .pos (by omega) ?_
  have e3:wE (.sl ((l::yB (l.kids.take i)).map dA.row)) ((nodes l.kids[i]).map dA.row)= .sl ((l::yB (l.kids.take (i+1))).map dA.row):=by rw[←e2];rfl
  rw[e3,xB (show i≤big by omega),ih]
  exact .some rfl
theorem aVW (l:dA) (h:aF l):(eA T).pc tM [l.row]=some [[.sl ((nodes l).map dA.row)]]:=by
 have aBk:∀k∈l.kids,(eA T).pc tM [k.row]=some [[.sl ((nodes k).map dA.row)]]:=fun k hk=>by
  have:=dA.sD hk
  exact aVW k (h.kid hk)
 rw[aQ6];unfold aHu
 have:=a4w l h aBk l.kids.length 0 (by omega)
 rw[List.take_zero,show ((0:Nat):Int)=0 from rfl,show (C.sl ((l::yB []).map dA.row))= .sl [l.row]from rfl]at this
 rw[vC,dA.gD,List.length_map,this]
 rfl
 termination_by SizeOf.sizeOf l
theorem a5N (l:dA) (h:aF l):∃e:Int,(eA T).pc eX [l.row]=some [[.int e]]∧(eA T).pc uT [l.row]=some [[.int e]]:=by
 by_cases hr:0≤l.op∧l.op<19
 ·obtain ⟨f,w,u,ho⟩:=a4i hr.1 hr.2
  exact ⟨_,aX4 l h f w u hr.1 hr.2 ho,a3i l h f w u hr.1 hr.2 ho⟩
 ·refine ⟨1, ?_, ?_⟩
  ·rw[aMt];unfold aKn
   refine yH.eq (.bind (R:=fun r=>r=(0,[.r [.dp l.row],.r [.bool true]])) ?_ ?_)
   ·refine .ite (fun e=> .some rfl) fun e=> .some ?_
    have e':¬l.op<0:=fun x=>e (decide_eq_true x)
    have:decide ((at_ l.row 0).uA≥19)=true:=decide_eq_true (show l.op≥19 by omega)
    rw[this]
   ·rintro r rfl;exact .some rfl
  ·rw[aKL];unfold aEK
   refine yH.eq (.bind (R:=fun r=>r=(0,[.r [.dp l.row],.r [.bool true]])) ?_ ?_)
   ·refine .ite (fun e=> .some rfl) fun e=> .some ?_
    have e':¬l.op<0:=fun x=>e (decide_eq_true x)
    have:decide ((at_ l.row 0).uA≥19)=true:=decide_eq_true (show l.op≥19 by omega)
    rw[this]
   ·rintro r rfl;exact .some rfl
noncomputable def uX (l:dA):Int:=match (eA T).pc eX [l.row]with
 |some [[.int n]]=>n
 |_=>0
theorem aVX (l:dA) (h:aF l):(eA T).pc eX [l.row]=some [[.int (uX l)]]∧(eA T).pc uT [l.row]=some [[.int (uX l)]]:=by
 obtain ⟨e,h1,h2⟩:=a5N l h
 have:uX l=e:=by unfold uX;rw[h1]
 rw[this];exact ⟨h1,h2⟩
noncomputable def cJ:List dA→Int
 |[]=>0
 |l::r=>if uX l≠0 then uX l else cJ r
theorem aVY:∀a b:List dA,cJ (a++b)=if cJ a≠0 then cJ a else cJ b
 |[],b=>by simp[cJ]
 |l::r,b=>by
  simp only[List.cons_append,cJ,aVY r b]
  by_cases h:uX l=0
  ·simp[h]
  ·simp[h]
theorem a8T (l:dA) (h:aF l) (hc:∀k∈l.kids,(eA T).pc aBD [k.row]=some [[.int (cJ (nodes k))]]):∀(j i:Nat),i+j=l.kids.length→
 aGw (eA T) l.kc (l.kids.length:Int) (i:Int)=some (if cJ (yB (l.kids.drop i))=0 then (0,[])else (1,[.r [.int (cJ (yB (l.kids.drop i)))]]))
 |0,i,hh=>by
  rw[aMP];unfold aGx
  obtain rfl:i=l.kids.length:=by omega
  rw[List.drop_length]
  exact yH.eq (.ite (fun h=>absurd h aC8) fun _=> .some rfl)
 |j+1,i,hh=>by
  rw[aMP];unfold aGx
  have hi:i<l.kids.length:=by omega
  have ih:=a8T l h hc j (i+1) (by omega)
  refine yH.eq (.pos (dec_lt hi) (.pos (aHL hi) ?_))
  rw[gT hi]
  refine .jB (hc _ (List.getElem_mem hi)) ?_
  have hk:=h.kids
  rw[List.drop_eq_getElem_cons hi,yB,aVY]
  simp only[cA,gA,iA,xB (show i≤big by omega),ih]
  by_cases h0:cJ (nodes l.kids[i])=0
  ·have hb:(cJ (nodes l.kids[i]) !=0)=false:=by simp[h0]
   simp only[hb,h0,Bool.false_eq_true,if_false,ne_eq,not_true_eq_false]
   exact .some rfl
  ·have hb:(cJ (nodes l.kids[i]) !=0)=true:=by simp[h0]
   simp only[hb,h0,if_true,if_false,ne_eq,not_false_eq_true]
   exact .some rfl
theorem aYq (l:dA) (h:aF l):(eA T).pc aBD [l.row]=some [[.int (cJ (nodes l))]]:=by
 have aBk:∀k∈l.kids,(eA T).pc aBD [k.row]=some [[.int (cJ (nodes k))]]:=fun k hk=>by
  have:=dA.sD hk
  exact aYq k (h.kid hk)
 rw[aZo];unfold aR1
 refine yH.eq (.jB (aVX l h).1 ?_)
 rw[nodes_eq,cJ]
 have hl:=a8T l h aBk l.kids.length 0 (by omega)
 rw[List.drop_zero,show ((0:Nat):Int)=0 from rfl]at hl
 simp only[cA,gA,iA,vC,dA.gD,List.length_map,hl]
 by_cases h0:uX l=0
 ·have hb:(uX l !=0)=false:=by simp[h0]
  simp only[hb,h0,Bool.false_eq_true,if_false,ne_eq,not_true_eq_false]
  by_cases h2:cJ (yB l.kids)=0
  ·simp only[h2,if_true];exact .some rfl
  ·simp only[h2,if_false];exact .some rfl
 ·have hb:(uX l !=0)=true:=by simp[h0]
  simp only[hb,h0,if_true,ne_eq,not_false_eq_true]
  exact .some rfl
 termination_by SizeOf.sizeOf l
theorem aNY (l:dA) (h:aF l):∀k∈nodes l,aF k:=by
 rw[nodes_eq]
 intro k hk
 rcases List.mem_cons.1 hk with e |e
 ·rw[e];exact h
 ·have:∀ls:List dA,(∀x∈ls,∀y∈nodes x,aF y)→∀y∈yB ls,aF y:=by
   intro ls
   induction ls with
   |nil=>intro _ y hy;simp[yB]at hy
   |cons a r ih=>
    intro hx y hy
    simp only[yB,List.mem_append]at hy
    rcases hy with e |e
    ·exact hx a (by simp) y e
    ·exact ih (fun x hx'=>hx x (by simp[hx'])) y e
  refine this l.kids (fun x hx y hy=> ?_) k e
  have:=dA.sD hx
  exact aNY x (h.kid hx) y hy
 termination_by SizeOf.sizeOf l
theorem a1t (ls:List dA) (hN:ls.length≤big) (ho:∀k∈ls,aF k):∀(j i:Nat),i+j=ls.length→
 vV (eA T) (.sl (ls.map dA.row)) (ls.length:Int) (i:Int)=some (if cJ (ls.drop i)=0 then (0,[])else (1,[.r [.int (cJ (ls.drop i))]]))
 |0,i,hh=>by
  rw[aE6];unfold wV
  obtain rfl:i=ls.length:=by omega
  rw[List.drop_length]
  exact yH.eq (.ite (fun h=>absurd h aC8) fun _=> .some rfl)
 |j+1,i,hh=>by
  rw[aE6];unfold wV
  have hi:i<ls.length:=by omega
  have ih:=a1t ls hN ho j (i+1) (by omega)
  refine yH.eq (.pos (dec_lt hi) (.pos (aFc (by simpa using hi)) ?_))
  rw[aB4,show aA (ls.map dA.row) (i:Int).toNat=ls[i].row from (by rw[Int.toNat_natCast];exact iC _ _ _ hi)]
  refine .jB (aVX _ (ho _ (List.getElem_mem hi))).2 ?_
  rw[List.drop_eq_getElem_cons hi,cJ]
  simp only[cA,gA,iA,xB (show i≤big by omega),ih]
  by_cases h0:uX ls[i]=0
  ·have hb:(uX ls[i] !=0)=false:=by simp[h0]
   simp only[hb,h0,Bool.false_eq_true,if_false,ne_eq,not_true_eq_false]
   exact .some rfl
  ·have hb:(uX ls[i] !=0)=true:=by simp[h0]
   simp only[hb,h0,if_true,if_false,ne_eq,not_false_eq_true]
   exact .some rfl
noncomputable def mD (l:dA):Int:=if (nodes l).length>120∨levels l>40 then 2 else cJ (nodes l)
theorem aDZ (l:dA) (h:aF l):(eA T).pc aP [l.row]=some [[.int (mD l)]]:=by
 rw[aW3];unfold aPB mD
 refine yH.eq (.jB (aYo l h) ?_)
 refine .ite (fun e=> ?_) fun e=> ?_
 ·rw[if_pos (.inl (by have:((nodes l).length:Int)>120:=of_decide_eq_true e;omega))]
  exact .some rfl
 ·have e1:¬(nodes l).length>120:=by have:=of_decide_eq_false (by simpa using e:decide (((nodes l).length:Int)>120)=false);omega
  refine .jB (aYp l h) ?_
  refine .ite (fun e2=> ?_) fun e2=> ?_
  ·rw[if_pos (.inr (by have:(levels l:Int)>40:=of_decide_eq_true e2;omega))]
   exact .some rfl
  ·have e3:¬levels l>40:=by have:=of_decide_eq_false (by simpa using e2:decide ((levels l:Int)>40)=false);omega
   rw[if_neg (by omega)]
   exact .jB (aYq l h) (.some rfl)
theorem vX (l:dA) (h:aF l):(eA T).pc bR [l.row]=some [[.int (mD l)]]:=by
 rw[aRa];unfold aHz mD
 refine yH.eq (.jB (aVW l h) ?_)
 have er:(at_ (aA [[C.sl ((nodes l).map dA.row)]] 0) 0)=C.sl ((nodes l).map dA.row):=rfl
 refine .bind (R:=fun r=>r=(0,[.r [.sl ((nodes l).map dA.row)],.r [.bool (decide ((nodes l).length>120∨levels l>40))]])) ?_ ?_
 ·rw[er,aB4,List.length_map]
  refine .ite (fun e=> ?_) fun e=> ?_
  ·have e1:(nodes l).length>120:=by have:=of_decide_eq_true e;omega
   refine .some ?_
   rw[decide_eq_true (.inl e1)]
  ·have e1:¬(nodes l).length>120:=by have:=of_decide_eq_false (by simpa using e:decide (((nodes l).length:Int)>120)=false);omega
   refine .jB (aTk l h) (.some ?_)
   simp only[cA,gA,iA]
   have:decide ((levels l:Int)>40)=decide ((nodes l).length>120∨levels l>40):=by
    by_cases e2:levels l>40
    ·rw[decide_eq_true (show (levels l:Int)>40 by omega),decide_eq_true (show (nodes l).length>120∨levels l>40 from .inr e2)]
    ·rw[decide_eq_false (show ¬(levels l:Int)>40 by omega),decide_eq_false (show ¬((nodes l).length>120∨levels l>40) by omega)]
   exact congrArg (fun b=>((0:Nat),([PV.r [.sl ((nodes l).map dA.row)],PV.r [.bool b]]:List PV))) this
 rintro r rfl
 by_cases e:(nodes l).length>120∨levels l>40
 ·rw[if_pos e,decide_eq_true e];exact .some rfl
 ·rw[if_neg e,decide_eq_false e]
  simp only[cC,zB,uB,Bool.false_eq_true,if_false,aB4,List.length_map]
  have hl:=a1t (nodes l) h.nodes (aNY l h) (nodes l).length 0 (by omega)
  rw[List.drop_zero,show ((0:Nat):Int)=0 from rfl]at hl
  rw[hl]
  by_cases h2:cJ (nodes l)=0
  ·simp only[h2,if_true];exact .some rfl
  ·simp only[h2,if_false];exact .some rfl
theorem a04:(eA T).pc aIA []=some [[.bool true]]:=(gQ T).2 ⟨60,by kernel_rfl⟩
end Go.Ev.dJ
