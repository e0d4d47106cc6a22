/-
  A part of the proof: what the functions of the program compute.
-/
import Derived.Test.YtfonaepdedbhhaaGreatDoorZU
set_option linter.all false
set_option maxRecDepth 100000
namespace Go.Ev.oO
noncomputable def aQu:List Bytes→Int
 |[a,b]=>if aOQ a≠0 then aOQ a else aOQ b
 |_=>3
noncomputable def aFe (l:cB):Int:=
 if l.op=14 then (if l.names.length≠l.kids.length then 3 else aNQ l.names)
 else if l.op=6 then aNQ l.names
 else if l.op=9 then aQu l.names
 else if l.op=11 then aLt l.pairs
 else if l.op=12 then (if l.low<0∨l.high<l.low∨l.high>999999999 then 11 else 0)
 else 0
noncomputable def aIW (l:cB):Int:=
 if l.op=5 then (if (l.v.k !=0&& !fV l.v.k)=true then 8 else 0)
 else if l.op=15 then (if (!fV l.v.k)=true then 8 else 0)
 else aFe l
structure dP (l:cB):Prop where
 wf:l.wf
 xC:l.xC≤big
theorem aD5:∀(l:List Bytes),l.length≤tJ l
 |[]=>by simp[tJ]
 |s::r=>by have:=aD5 r;simp only[tJ,List.length_cons];omega
theorem dP.names {l:cB} (h:dP l):l.names.length≤big:=by have:=l.aM;have:=h.xC;have:=aD5 l.names;omega
theorem dP.pairs {l:cB} (h:dP l):aEC l.pairs:=by
 have hb:=l.aM
 have hbb:=h.xC
 refine ⟨fun p hp k=> ?_,fun p hp k=> ?_,by have:=aKp l.pairs;omega⟩
 ·have:=cB.aSz h.wf hp
  cases k
  ·exact this.1
  ·exact this.2
 ·have:=aKq hp
  cases k
  ·show p.1.xC≤big;omega
  ·show p.2.xC≤big;omega
theorem dP.v {l:cB} (h:dP l):l.v.xC≤big:=by have:=l.aM;have:=h.xC;omega
theorem dP.kids {l:cB} (h:dP l):l.kids.length≤big:=by have:=l.aM;have:=h.xC;have:=cB.aGP l.kids;omega
theorem dP.kid {l k:cB} (h:dP l) (hk:k∈l.kids):dP k:=⟨cB.a2t h.wf hk,by have:=cB.aYt hk;have:=h.xC;omega⟩
theorem a4e (c:C) (a b:Bytes) (hc:c.rows=[a,b].map iB):z7 (bA T) c 2 0=some (if aQu [a,b]=0 then (0,[])else (1,[.r [.int (aQu [a,b])]])):=by
 refine jF.eq ?_
 rw[aAs];unfold nU
 rw[hc]
 have hz:∀n:Int,decide ((n !=0)=true)=decide (n≠0):=fun n=>by simp
 refine .pos rfl (.pos (by simp) (.lA (aMP a) ?_))
 rw[aQu]
 refine .ite (fun h=> ?_) fun h=> ?_
 ·have h':¬aOQ a=0:=by simpa using h
  simp only[h',ne_eq,not_false_eq_true,if_true,if_false];exact .some rfl
 ·have h':aOQ a=0:=by simpa using h
  simp only[h',ne_eq,not_true_eq_false,if_false]
  rw[show IntKind.wrap .i64 ((0:Int)+1)=1 from rfl,aAs];unfold nU
  rw[hc]
  refine .pos rfl (.pos (by simp) (.lA (aMP b) ?_))
  refine .ite (fun h=> ?_) fun h=> ?_
  ·have h':¬aOQ b=0:=by simpa using h
   simp only[h',if_false];exact .some rfl
  ·have h':aOQ b=0:=by simpa using h
   simp only[h',if_true]
   rw[show IntKind.wrap .i64 ((1:Int)+1)=2 from rfl,aAs];unfold nU
   exact .some rfl
theorem aXc {l:List Bytes} (h:¬(((l.length:Int) !=2)=true)):∃a b,l=[a,b]:=by
 match l with
 |[a,b]=>exact ⟨a,b,rfl⟩
 |[]=>simp at h
 |[a]=>simp at h
 |a::b::c::r=>simp at h;omega
theorem a10 {l:List Bytes} (h:((l.length:Int) !=2)=true):aQu l=3:=by
 match l with
 |[a,b]=>simp at h
 |[]=>rfl
 |[a]=>rfl
 |a::b::c::r=>rfl
theorem aMQ (l:cB) (h:dP l):(bA T).pc aBy [l.row]=some [[.int (aIW l)]]:=by
 have hN:=sJ l.nb (l.names.map iB)
 have hP:=sJ l.pb (l.pairs.map tA)
 refine jF.eq ?_
 rw[aOL];unfold aIn aIW aFe
 simp (config:={zeta:=false,letToHave:=false}) only[aCT,aO1,aO2,aO3,aSB,aLM,aA7,rA,hN,cB.yS,List.length_map,beq_iff_eq]
 refine .ite (fun e=> ?_) fun e5=> ?_
 ·rw[if_pos e]
  refine .ite (fun hk=> ?_) fun hk=> ?_
  rotate_left
  ·have hk':(l.v.k !=0)=false:=by simpa using hk
   simp only[hk',Bool.false_and,Bool.false_eq_true,if_false];exact .some rfl
  ·simp only[hk,Bool.true_and]
   refine .lA (aLw _) ?_
   cases hp:fV l.v.k
   ·exact .some rfl
   ·exact .some rfl
 rw[if_neg e5]
 refine .ite (fun e=> ?_) fun e15=> ?_
 ·rw[if_pos e]
  refine .lA (aLw _) ?_
  cases hp:fV l.v.k
  ·exact .some rfl
  ·exact .some rfl
 rw[if_neg e15]
 refine .ite (fun e=> ?_) fun e6=> ?_
 ·rw[if_neg (by omega),if_pos e]
  exact .lA (aQr _ _ hN h.names) (.some rfl)
 refine .ite (fun e=> ?_) fun e14=> ?_
 ·rw[if_pos e]
  refine .ite (fun e=> ?_) fun e=> ?_
  ·rw[if_pos (by simp at e;omega)];exact .some rfl
  ·rw[if_neg (by simp at e;omega)]
   exact .lA (aQr _ _ hN h.names) (.some rfl)
 rw[if_neg e14,if_neg e6]
 refine .ite (fun e=> ?_) fun e9=> ?_
 ·rw[if_pos e]
  refine .ite (fun e=> ?_) fun e=> ?_
  ·rw[a10 e];exact .some rfl
  ·obtain ⟨a,b,hab⟩:=aXc e
   rw[hab]at hN⊢
   refine .lA (a4e _ a b hN) ?_
   by_cases h0:aQu [a,b]=0
   ·simp only[h0,if_true];exact .some rfl
   ·simp only[h0,if_false];exact .some rfl
 rw[if_neg e9]
 refine .ite (fun e=> ?_) fun e11=> ?_
 ·rw[if_pos e]
  exact .lA (aUN _ _ hP h.pairs) (.some rfl)
 rw[if_neg e11]
 refine .ite (fun e=> ?_) fun e12=> ?_
 ·rw[if_pos e]
  by_cases h1:l.low<0
  ·simp only[h1,decide_true,if_true,true_or];exact .some rfl
  ·by_cases h2:l.high<l.low
   ·simp only[h1,h2,decide_true,decide_false,Bool.false_eq_true,if_true,if_false,true_or,or_true];exact .some rfl
   ·by_cases h3:l.high>999999999
    ·simp only[h1,h2,h3,decide_true,decide_false,Bool.false_eq_true,if_true,if_false,true_or,or_true];exact .some rfl
    ·simp only[h1,h2,h3,decide_true,decide_false,Bool.false_eq_true,if_true,if_false,or_self];exact .some rfl
 ·rw[if_neg e12];exact .some rfl
theorem aV1 (l:cB) (h:dP l):(bA T).pc pY [l.row]=some [[.int (aFe l)]]:=by
 have hN:=sJ l.nb (l.names.map iB)
 have hP:=sJ l.pb (l.pairs.map tA)
 refine jF.eq ?_
 rw[aMF];unfold aE6 aFe
 simp (config:={zeta:=false,letToHave:=false}) only[aCT,aO1,aO2,aO3,aSB,aLM,aA7,rA,hN,cB.yS,List.length_map,beq_iff_eq]
 refine .ite (fun e=> ?_) fun e14=> ?_
 ·rw[if_pos e]
  refine .ite (fun e=> ?_) fun e=> ?_
  ·rw[if_pos (by simp at e;omega)];exact .some rfl
  ·rw[if_neg (by simp at e;omega)]
   exact .lA (aKE _ _ hN h.names) (.some rfl)
 rw[if_neg e14]
 refine .ite (fun e=> ?_) fun e6=> ?_
 ·rw[if_pos e]
  exact .lA (aKE _ _ hN h.names) (.some rfl)
 rw[if_neg e6]
 refine .ite (fun e=> ?_) fun e9=> ?_
 ·rw[if_pos e]
  refine .ite (fun e=> ?_) fun e=> ?_
  ·rw[a10 e];exact .some rfl
  ·obtain ⟨a,b,hab⟩:=aXc e
   rw[hab]at hN⊢
   refine .pos (by simp) (.lA (aMP a) ?_)
   rw[aQu]
   refine .ite (fun h=> ?_) fun h=> ?_
   ·have h':¬aOQ a=0:=by simpa using h
    simp only[h',ne_eq,not_false_eq_true,if_true,if_false];exact .some rfl
   ·have h':aOQ a=0:=by simpa using h
    simp only[h',ne_eq,not_true_eq_false,if_false]
    exact .pos (by simp) (.lA (aMP b) (.some rfl))
 rw[if_neg e9]
 refine .ite (fun e=> ?_) fun e11=> ?_
 ·rw[if_pos e]
  exact .lA (aUR _ _ hP h.pairs) (.some rfl)
 rw[if_neg e11]
 refine .ite (fun e=> ?_) fun e12=> ?_
 ·rw[if_pos e]
  by_cases h1:l.low<0
  ·have g1:¬0≤l.low:=by omega
   simp only[h1,g1,decide_true,decide_false,Bool.false_eq_true,if_true,if_false,true_or,Bool.not_false];exact .some rfl
  ·have g1:0≤l.low:=by omega
   by_cases h2:l.high<l.low
   ·have g2:¬l.low≤l.high:=by omega
    simp only[h1,h2,g1,g2,decide_true,decide_false,Bool.false_eq_true,if_true,if_false,true_or,or_true,Bool.not_false];exact .some rfl
   ·have g2:l.low≤l.high:=by omega
    by_cases h3:l.high>999999999
    ·have g3:¬l.high≤999999999:=by omega
     simp only[h1,h2,h3,g1,g2,g3,decide_true,decide_false,Bool.false_eq_true,if_true,if_false,true_or,or_true,Bool.not_false];exact .some rfl
    ·have g3:l.high≤999999999:=by omega
     simp only[h1,h2,h3,g1,g2,g3,decide_true,decide_false,Bool.false_eq_true,if_true,if_false,or_self,Bool.not_true];exact .some rfl
 ·rw[if_neg e12];exact .some rfl
end Go.Ev.oO
namespace Go.Ev.oO
theorem jF.as {β:Type} {Q:β→Prop} {x y:Option β} (e:x=y) (h:jF Q y):jF Q x:=by rw[e];exact h
@[simp] theorem fl0 (f:Fl):at_ f.row 0= .bool f.n:=rfl
@[simp] theorem fl1 (f:Fl):at_ f.row 1= .bool f.t:=rfl
@[simp] theorem fl2 (f:Fl):at_ f.row 2= .bool f.s:=rfl
@[simp] theorem fl3 (f:Fl):at_ f.row 3= .bool f.i:=rfl
@[simp] theorem fl4 (f:Fl):at_ f.row 4= .bool f.b:=rfl
@[simp] theorem fl5 (f:Fl):at_ f.row 5= .bool f.p:=rfl
@[simp] theorem fl6 (f:Fl):at_ f.row 6= .bool f.v:=rfl
@[simp] theorem fl7 (f:Fl):at_ f.row 7= .bool f.l:=rfl
@[simp] theorem fl8 (f:Fl):at_ f.row 8= .int f.k:=rfl
def zeroV:wA:= .mk 0 0 [] true []
theorem aX1:zeroV.row=[.int 0, .int 0, .str [], .fA]:=rfl
theorem aZ8:zeroV.wf:=by simp[zeroV,wA.wf,wA.wfs,tZ]
def aQv (l:cB) (f:Fl):Bool:=(((((((!(l.name==[])&& !f.n)||(!(l.to==[])&& !f.t))||(decide ((l.names.length:Int)>0)&& !f.s))||((l.n !=0)&& !f.i))||((l.low !=0 ||l.high !=0)&& !f.b))||((l.sep !=0)&& !f.p))||(decide ((l.pairs.length:Int)>0)&& !f.l))||(!f.v&& !l.v.eqv zeroV)
def aMR (l:cB) (f:Fl):Bool:=(decide (f.k≥0)&&((l.kids.length:Int) !=f.k))||(decide (f.k<0)&&((l.kids.length:Int)==0))
noncomputable def aTr (l:cB) (f:Fl):Bool:=((f.n&& !nm l.name)&& !((l.op==13)&&(l.name==[])))||(f.t&& !nm l.to)
noncomputable def aR9 (l:cB) (f:Fl):Int:=if aQv l f=true then 3 else if aMR l f=true then 3 else if aTr l f=true then 15 else if f.v=true then (if aB0 l.v≠0 then aB0 l.v else aIW l)else aIW l
theorem aOR {β:Type} {K:Bool→Option β} {b x:Bool}:(if b=true then K x else K false)=K (b&&x):=by cases b<;>rfl
theorem kor {β:Type} {K:Bool→Option β} {q b:Bool} {x:Option β} (h:x=K b):(if q=true then K true else x)=K (q ||b):=by cases q<;>simp[h]
theorem aR8 (l:cB) (h:dP l) (f:Fl) (w u:Bytes) (h0:0≤l.op) (h1:l.op<19) (ho:aFd l.op f w u):(bA T).pc dX [l.row]=some [[.int (aR9 l f)]]:=by
 have hN:=sJ l.nb (l.names.map iB)
 have hP:=sJ l.pb (l.pairs.map tA)
 have hsame:=aSb l.v zeroV (cB.a2u h.wf) aZ8 h.v
 rw[aX1]at hsame
 have hrow:([at_ l.row 8,at_ l.row 9,at_ l.row 10,at_ l.row 11]:Row)=l.v.row:=rfl
 refine jF.eq ?_
 rw[aIE];unfold aG6
 refine .bind (R:=fun r=>r=(0,[.r [.dp l.row], .r [.bool false]])) ?_ ?_
 ·refine .ite (fun e=>absurd (of_decide_eq_true e) (by simp;omega)) fun _=> .some ?_
  have:decide ((at_ l.row 0).vA≥19)=false:=by simp;omega
  rw[this]
 rintro r rfl
 simp (config:={zeta:=false,letToHave:=false}) only[tC,uC,kC,aE,if_true,vC,Bool.false_eq_true,if_false,aCT,rA]
 refine .lA ho.table ?_
 refine .bind (R:=fun r=>r=(0,[.r [.dp l.row], .r [.bool (aQv l f)], .r f.row])) ?_ ?_
 ·simp (config:={zeta:=false,letToHave:=false}) only[hrow,yA,fl0,fl1,fl2,fl3,fl4,fl5,fl6,fl7,fl8,eA,aOZ,aO0,aO1,aWa,aO2,aO3,aWb,aLM,zA,rA,hN,hP,List.length_map,hsame]
  extract_lets K19 K21 K17 K24 K15 K26 K13 K30 K28 K11 K32 K9 K34 K7 K36 K5
  have e17:∀q,K17 q=K19 (q ||(!f.v&& !l.v.eqv zeroV)):=fun q=>kor (K:=K19) (by cases f.v<;>rfl)
  have e15:∀q,K15 q=K17 (q ||(decide ((l.pairs.length:Int)>0)&& !f.l)):=fun q=>kor (K:=K17) (aOR (K:=K17))
  have e13:∀q,K13 q=K15 (q ||((l.sep !=0)&& !f.p)):=fun q=>kor (K:=K15) (aOR (K:=K15))
  have e11:∀q,K11 q=K13 (q ||((l.low !=0 ||l.high !=0)&& !f.b)):=fun q=>kor (K:=K13) ((kor (K:=K28) rfl).trans (aOR (K:=K13)))
  have e9:∀q,K9 q=K11 (q ||((l.n !=0)&& !f.i)):=fun q=>kor (K:=K11) (aOR (K:=K11))
  have e7:∀q,K7 q=K9 (q ||(decide ((l.names.length:Int)>0)&& !f.s)):=fun q=>kor (K:=K9) (aOR (K:=K9))
  have e5:∀q,K5 q=K7 (q ||(!(l.to==[])&& !f.t)):=fun q=>kor (K:=K7) (aOR (K:=K7))
  refine .as (aOR (K:=K5)) ?_
  rw[e5,e7,e9,e11,e13,e15,e17]
  exact .some rfl
 rintro r rfl
 simp (config:={zeta:=false,letToHave:=false}) only[tC,uC,kC,sC,cD,oD,aE,if_true,vC,Bool.false_eq_true,if_false,aCT,rA,hrow]
 unfold aR9
 refine .ite (fun e=> ?_) fun e=> ?_
 ·rw[if_pos e];exact .some rfl
 rw[if_neg e]
 refine .bind (R:=fun r=>r=(0,[.r [.dp l.row], .r [.bool (aMR l f)], .r f.row])) ?_ ?_
 ·simp (config:={zeta:=false,letToHave:=false}) only[fl8,aA7,cB.yS,List.length_map,rA]
  extract_lets K41 K43 K39
  have e39:∀q,K39 q=K41 (q ||(decide (f.k<0)&&((l.kids.length:Int)==0))):=fun q=>kor (K:=K41) (aOR (K:=K41))
  refine .as (aOR (K:=K39)) ?_
  rw[e39]
  exact .some rfl
 rintro r rfl
 simp (config:={zeta:=false,letToHave:=false}) only[tC,uC,kC,sC,cD,oD,aE,if_true,vC,Bool.false_eq_true,if_false,aCT,rA,hrow]
 refine .ite (fun e=> ?_) fun e=> ?_
 ·rw[if_pos e];exact .some rfl
 rw[if_neg e]
 refine .bind (R:=fun r=>r=(0,[.r [.dp l.row], .r [.bool (aTr l f)], .r f.row])) ?_ ?_
 ·simp (config:={zeta:=false,letToHave:=false}) only[fl0,fl1,eA,aOZ,aO0,aCT,zA,rA,aEJ,Option.bind_some,yA,oA]
  extract_lets K50 K52 K48 K55 K46
  have e48:∀q,K48 q=K50 (q ||(f.t&& !nm l.to)):=fun q=>kor (K:=K50) (aOR (K:=K50))
  have e46:∀q,K46 q=K48 (q&& !((l.op==13)&&(l.name==[]))):=fun q=>by
   cases q
   ·rfl
   ·show (if (l.op==13)=true then K55 (l.name==[])else K55 false)=_
    rw[aOR (K:=K55)]
    rfl
  refine .as (y:=K46 (f.n&& !nm l.name)) (aOR (K:=K46)) ?_
  rw[e46,e48]
  exact .some rfl
 rintro r rfl
 simp (config:={zeta:=false,letToHave:=false}) only[tC,uC,kC,sC,cD,oD,aE,if_true,vC,Bool.false_eq_true,if_false,aCT,rA,hrow,fl6,eA]
 refine .ite (fun e=> ?_) fun e=> ?_
 ·rw[if_pos e];exact .some rfl
 rw[if_neg e]
 refine .ite (fun e=> ?_) fun e=> ?_
 ·rw[if_pos e]
  refine .lA (aDC _ h.v).1 ?_
  refine .ite (fun e=> ?_) fun e=> ?_
  ·rw[if_pos (by simpa using e)];exact .some rfl
  ·rw[if_neg (by simpa using e)]
   exact .lA (aMQ l h) (.some rfl)
 ·rw[if_neg e]
  exact .lA (aMQ l h) (.some rfl)
end Go.Ev.oO
namespace Go.Ev.oO
def aSl (p:Int×Bool):Row:=[.int p.1, .bool p.2]
theorem aW6 (c0:C) (u:Bytes) (l:List (Int×Bool)) (hN:l.length≤big):∀(j i:Nat),i+j=l.length→
 nY (bA T) c0 u (.sl (l.map aSl)) (l.length:Int) (i:Int)=some (if (l.drop i).any (fun p=>p.2&& !hasB u p.1)=true then (1,[.r [.int 3]])else (0,[.r [c0], .r [.str u]]))
 |0,i,h=>by
  rw[aD1];unfold oY
  obtain rfl:i=l.length:=by omega
  simp
 |j+1,i,h=>by
  rw[aD1];unfold oY
  have hi:i<l.length:=by omega
  have ih:=aW6 c0 u l hN j (i+1) (by omega)
  refine jF.eq ?_
  refine .pos (dec_lt hi) (.pos (vX (by simpa using hi)) ?_)
  rw[aHI,show aA (l.map aSl) (i:Int).toNat=aSl l[i]from (by rw[Int.toNat_natCast];exact fC _ _ _ hi),List.drop_eq_getElem_cons hi,List.any_cons,lC (show i≤big by omega),ih]
  have c1:at_ (aSl l[i]) 0= .int l[i].1:=rfl
  have c2:at_ (aSl l[i]) 1= .bool l[i].2:=rfl
  simp only[c1,c2,rA,eA,kK,Option.bind_some,yA,oA]
  cases l[i].2 with
  |false=>simp only[Bool.false_and,Bool.false_or,Bool.false_eq_true,if_false];exact .some rfl
  |true=>
   cases hasB u l[i].1 with
   |true=>simp only[Bool.true_and,Bool.not_true,Bool.false_or,Bool.false_eq_true,if_false,if_true];exact .some rfl
   |false=>simp only[Bool.true_and,Bool.not_false,Bool.true_or,if_true];exact .some rfl
theorem aX2:(bA T).pc aDT []=some [zeroV.row]:=by
 rw[aNL];rfl
theorem aV2 (l:cB) (h:dP l) (f:Fl) (w u:Bytes) (h0:0≤l.op) (h1:l.op<19) (ho:aFd l.op f w u):(bA T).pc qU [l.row]=some [[.int (aR9 l f)]]:=by
 have hN:=sJ l.nb (l.names.map iB)
 have hP:=sJ l.pb (l.pairs.map tA)
 have hsame:=aQq l.v zeroV h.v
 have hrow:([at_ l.row 8,at_ l.row 9,at_ l.row 10,at_ l.row 11]:Row)=l.v.row:=rfl
 refine jF.eq ?_
 rw[aHu];unfold aDj
 refine .bind (R:=fun r=>r=(0,[.r [.dp l.row], .r [.bool false]])) ?_ ?_
 ·refine .ite (fun e=>absurd (of_decide_eq_true e) (by simp;omega)) fun _=> .some ?_
  have:decide ((at_ l.row 0).vA≥19)=false:=by simp;omega
  rw[this]
 rintro r rfl
 simp (config:={zeta:=false,letToHave:=false}) only[tC,uC,kC,aE,if_true,vC,Bool.false_eq_true,if_false,aCT,rA]
 refine .lA ho.used ?_
 have hy:(at_ (aA [[C.str w],[C.str u]] 1) 0).mD=u:=rfl
 let xs:List (Int×Bool):=[(110, !(l.name==[])),(116, !(l.to==[])),(115,(l.names.length:Int) !=0),(105,l.n !=0),(98,l.low !=0 ||l.high !=0),(112,l.sep !=0),(118, !l.v.eqv zeroV),(108,(l.pairs.length:Int) !=0)]
 refine .bind (R:=fun r=>r=(0,[.r [.dp l.row], .r [.str u], .r [.sl (xs.map aSl)], .r [.int (xs.length:Int)], .r [.int 0]])) ?_ ?_
 ·simp (config:={zeta:=false,letToHave:=false}) only[hy,aX2,Option.bind_some,hrow,yA,hsame,aOZ,aO0,aO1,aWa,aO2,aO3,aWb,aLM,zA,rA,hN,hP,List.length_map,oA,eA]
  extract_lets K5
  refine .as (kor (K:=K5) rfl) ?_
  exact .some rfl
 rintro r rfl
 have aMK:=aW6 (.dp l.row) u xs (by simp[xs,big]) xs.length 0 (by omega)
 rw[List.drop_zero,show ((0:Nat):Int)=0 from rfl]at aMK
 have hx:xs.any (fun p=>p.2&& !hasB u p.1)=aQv l f:=by
  have hnz:∀n:Nat,((n:Int) !=0)=decide ((n:Int)>0):=fun n=>by
   cases n with
   |zero=>rfl
   |succ n=>simp;omega
  simp only[xs,List.any_cons,List.any_nil,Bool.or_false,ho.n,ho.t,ho.s,ho.i,ho.b,ho.p,ho.v,ho.l,hnz]
  unfold aQv
  generalize (l.name==[])=a1
  generalize (l.to==[])=a2
  generalize decide ((l.names.length:Int)>0)=a3
  generalize (l.n !=0)=a4
  generalize (l.low !=0 ||l.high !=0)=a5
  generalize (l.sep !=0)=a6
  generalize decide ((l.pairs.length:Int)>0)=a7
  generalize l.v.eqv zeroV=a8
  cases f.v<;>cases a8<;>simp[Bool.or_assoc]
 rw[hx]at aMK
 simp (config:={zeta:=false,letToHave:=false}) only[tC,uC,kC,sC,dD,fD,oC,wC,aMK]
 unfold aR9
 cases hsb:aQv l f with
 |true=>simp only[if_true];exact .some rfl
 |false=>
 simp (config:={zeta:=false,letToHave:=false}) only[Bool.false_eq_true,if_false,Option.bind_some,tC,uC,kC,sC,dD,fD,oC,wC,aE,if_true,vC,aA7,cB.yS,List.length_map]
 refine .bind (R:=fun r=>r=if aMR l f=true then (1,[.r [.int 3]])else (0,[.r [.dp l.row], .r [.str u]])) ?_ ?_
 ·simp only[kK,Option.bind_some,yA,oA,eA]
  unfold aMR
  have hk:=ho.k
  have hk1:=ho.k1
  have hk2:=ho.k2
  generalize f.k=k at hk hk1 hk2⊢
  rcases hk with rfl |rfl |rfl
  ·have e1:((0:Int)==1)=false:=rfl
   have e2:((0:Int)== -1)=false:=rfl
   have e3:decide ((0:Int)≥0)=true:=rfl
   have e4:decide ((0:Int)<0)=false:=rfl
   simp only[hk1,hk2,e1,e2,e3,e4,Bool.false_eq_true,if_false,if_true,Option.bind_some,tC,uC,kC,sC,dD,fD,oC,wC,Bool.not_false,Bool.true_and,Bool.false_and,Bool.or_false]
   cases ((l.kids.length:Int) !=0)
   ·exact .some rfl
   ·exact .some rfl
  ·have e1:((1:Int)==1)=true:=rfl
   have e2:((1:Int)== -1)=false:=rfl
   have e3:decide ((1:Int)≥0)=true:=rfl
   have e4:decide ((1:Int)<0)=false:=rfl
   simp only[hk1,hk2,e1,e2,e3,e4,Bool.false_eq_true,if_false,if_true,Option.bind_some,tC,uC,kC,sC,dD,fD,oC,wC,Bool.not_false,Bool.not_true,Bool.true_and,Bool.false_and,Bool.or_false]
   cases ((l.kids.length:Int) !=1)
   ·exact .some rfl
   ·exact .some rfl
  ·have e1:((-1:Int)==1)=false:=rfl
   have e2:((-1:Int)== -1)=true:=rfl
   have e3:decide ((-1:Int)≥0)=false:=rfl
   have e4:decide ((-1:Int)<0)=true:=rfl
   simp only[hk1,hk2,e1,e2,e3,e4,Bool.false_eq_true,if_false,if_true,Option.bind_some,tC,uC,kC,sC,dD,fD,oC,wC,Bool.not_false,Bool.not_true,Bool.true_and,Bool.false_and,Bool.false_or]
   cases ((l.kids.length:Int)==0)
   ·exact .some rfl
   ·exact .some rfl
 rintro r rfl
 cases hkb:aMR l f with
 |true=>simp only[if_true,oC];exact .some rfl
 |false=>
 simp (config:={zeta:=false,letToHave:=false}) only[Bool.false_eq_true,if_false,Option.bind_some,tC,uC,kC,sC,dD,fD,oC,wC,aE,if_true,vC]
 let n1:Bool:=(f.n&& !nm l.name)&& !((l.op==13)&&(l.name==[]))
 let n2:Bool:=f.t&& !nm l.to
 have hnb:aTr l f=(n1 ||n2):=rfl
 refine .bind (R:=fun r=>r=(0,[.r [.dp l.row], .r [.str u], .r [.bool n1]])) ?_ ?_
 ·simp only[kK,Option.bind_some,yA,oA,eA,ho.n,aCT,aOZ,zA,rA,aEJ]
  refine .as (y:=some ((0:Nat),([PV.r [.dp l.row],PV.r [.str u],PV.r [.bool n1]]:List PV))) ?_ (.some rfl)
  ·show _=some ((0:Nat),([PV.r [.dp l.row],PV.r [.str u],PV.r [.bool ((f.n&& !nm l.name)&& !((l.op==13)&&(l.name==[])))]]:List PV))
   by_cases h13:l.op=13
   ·have b1:(l.op !=13)=false:=by simp[h13]
    have b2:(l.op==13)=true:=by simp[h13]
    simp only[b1,b2]
    cases f.n<;>cases nm l.name<;>cases (l.name==[])<;>rfl
   ·have b1:(l.op !=13)=true:=by simp[h13]
    have b2:(l.op==13)=false:=by simp[h13]
    simp only[b1,b2]
    cases f.n<;>cases nm l.name<;>cases (l.name==[])<;>rfl
 rintro r rfl
 simp (config:={zeta:=false,letToHave:=false}) only[Bool.false_eq_true,if_false,Option.bind_some,tC,uC,kC,sC,dD,fD,oC,wC,aE,if_true,vC,hnb]
 cases hn1:n1 with
 |true=>simp only[if_true,Bool.true_or];exact .some rfl
 |false=>
 simp (config:={zeta:=false,letToHave:=false}) only[Bool.false_eq_true,if_false,Bool.false_or]
 refine .bind (R:=fun r=>r=(0,[.r [.dp l.row], .r [.str u], .r [.bool n2]])) ?_ ?_
 ·simp only[kK,Option.bind_some,yA,oA,eA,ho.t,aO0,zA,aEJ]
  refine .as (y:=some ((0:Nat),([PV.r [.dp l.row],PV.r [.str u],PV.r [.bool n2]]:List PV))) ?_ (.some rfl)
  show _=some ((0:Nat),([PV.r [.dp l.row],PV.r [.str u],PV.r [.bool (f.t&& !nm l.to)]]:List PV))
  cases f.t<;>cases nm l.to<;>rfl
 rintro r rfl
 simp (config:={zeta:=false,letToHave:=false}) only[Bool.false_eq_true,if_false,Option.bind_some,tC,uC,kC,sC,dD,fD,oC,wC,aE,if_true,vC]
 cases hn2:n2 with
 |true=>simp only[if_true];exact .some rfl
 |false=>
 simp (config:={zeta:=false,letToHave:=false}) only[Bool.false_eq_true,if_false]
 have hsl:=h
 have fin:∀e:Int,e=aFe l→jF (fun r=>r=[[C.int e]]) (if (C.dp l.row).jB=true then ((bA T).pc pY [(C.dp l.row).cA]).bind fun y59=>some [[C.int (at_ (aA y59 0) 0).vA]]else none):=by
  rintro e rfl
  exact .pos rfl (.lA (aV1 l h) (.some rfl))
 refine .lA (kK _ _) ?_
 simp (config:={zeta:=false,letToHave:=false}) only[yA,oA,eA,ho.v]
 refine .bind (R:=fun r:Nat×List PV=>(r=(0,[PV.r [C.dp l.row]])∧(if f.v=true then (if aB0 l.v≠0 then aB0 l.v else aIW l)else aIW l)=aFe l)∨r=(1,[PV.r [C.int (if f.v=true then (if aB0 l.v≠0 then aB0 l.v else aIW l)else aIW l)]])) ?_ ?_
 ·simp (config:={zeta:=false,letToHave:=false}) only[kK,Option.bind_some,yA,oA,eA,ho.v,hrow,(aDC _ h.v).1,rA,aCT]
  simp (config:={zeta:=false,letToHave:=false}) only[aSB,rA,aJS,Option.bind_some,yA,oA,eA]
  cases hv:f.v with
  |false=>
   have n5:¬l.op=5:=fun e=>by rw[ho.o5 e]at hv;cases hv
   have n15:¬l.op=15:=fun e=>by rw[ho.o15 e]at hv;cases hv
   simp only[Bool.false_eq_true,if_false]
   refine .some (.inl ⟨rfl, ?_⟩)
   unfold aIW
   rw[if_neg n5,if_neg n15]
  |true=>
   simp only[if_true]
   by_cases hc:aB0 l.v=0
   ·simp only[hc,ne_eq,not_true_eq_false,if_false,bne_self_eq_false,Bool.false_eq_true]
    unfold aIW
    by_cases h5:l.op=5
    ·have l0:aFe l=0:=by unfold aFe;rw[h5];rfl
     have b5:(l.op==5)=true:=by simp[h5]
     have b15:(l.op==15)=false:=by simp[h5]
     simp only[b5,b15,if_pos h5,if_true,Bool.false_eq_true,if_false]
     rw[l0]
     cases hk:(l.v.k !=0)with
     |false=>simp only[Bool.false_eq_true,if_false,Bool.false_and];exact .some (.inl ⟨rfl,by simp⟩)
     |true=>
      cases hp:fV l.v.k with
      |false=>simp only[Bool.not_false,Bool.true_and,if_true];exact .some (.inr rfl)
      |true=>simp only[Bool.not_true,Bool.and_false,Bool.false_eq_true,if_true,if_false];exact .some (.inl ⟨rfl,by simp⟩)
    ·have b5:(l.op==5)=false:=by simp[h5]
     by_cases h15:l.op=15
     ·have l0:aFe l=0:=by unfold aFe;rw[h15];rfl
      have b15:(l.op==15)=true:=by simp[h15]
      simp only[b5,b15,if_neg h5,if_pos h15,if_true,Bool.false_eq_true,if_false]
      rw[l0]
      cases hp:fV l.v.k with
      |false=>simp only[Bool.not_false,if_true];exact .some (.inr rfl)
      |true=>simp only[Bool.not_true,Bool.false_eq_true,if_false];exact .some (.inl ⟨rfl,by simp⟩)
     ·have b15:(l.op==15)=false:=by simp[h15]
      simp only[b5,b15,if_neg h5,if_neg h15,Bool.false_eq_true,if_false]
      exact .some (.inl ⟨rfl,by simp⟩)
   ·have hc':(aB0 l.v !=0)=true:=by simp[hc]
    simp only[hc',hc,ne_eq,not_false_eq_true,if_true]
    exact .some (.inr rfl)
 rintro r (⟨rfl,e⟩|rfl)
 ·exact fin _ e
 ·exact .some rfl
end Go.Ev.oO
namespace Go.Ev.oO
mutual
def nodes:cB→List cB
 | .mk a b c d e f g h i v pb ps kb kids=> .mk a b c d e f g h i v pb ps kb kids::aC kids
def aC:List cB→List cB
 |[]=>[]
 |l::r=>nodes l++aC r
end
theorem nodes_eq (l:cB):nodes l=l::aC l.kids:=by cases l;simp only[nodes,cB.kids]
mutual
def levels:cB→Nat
 | .mk _ _ _ _ _ _ _ _ _ _ _ _ _ kids=>yB kids+1
def yB:List cB→Nat
 |[]=>0
 |l::r=>max (levels l) (yB r)
end
theorem levels_eq (l:cB):levels l=yB l.kids+1:=by cases l;simp only[levels,cB.kids]
mutual
theorem aUS:∀l:cB,(nodes l).length≤l.xC
 | .mk a b c d e f g h i v pb ps kb kids=>by
   have:=aFP kids
   simp only[nodes,List.length_cons,cB.xC];omega
theorem aFP:∀ls:List cB,(aC ls).length≤cB.tG ls
 |[]=>by simp[aC]
 |l::r=>by
  have:=aUS l
  have:=aFP r
  simp only[aC,List.length_append,cB.tG];omega
end
mutual
theorem aX3:∀l:cB,levels l≤l.xC
 | .mk a b c d e f g h i v pb ps kb kids=>by
   have:=aEE kids
   simp only[levels,cB.xC];omega
theorem aEE:∀ls:List cB,yB ls≤cB.tG ls
 |[]=>by simp[yB]
 |l::r=>by
  have:=aX3 l
  have:=aEE r
  simp only[yB,cB.tG];omega
end
theorem aIJ:∀a b:List cB,aC (a++b)=aC a++aC b
 |[],b=>by simp[aC]
 |l::r,b=>by simp only[List.cons_append,aC,aIJ r b,List.append_assoc]
theorem aGJ:∀a b:List cB,yB (a++b)=max (yB a) (yB b)
 |[],b=>by simp[yB]
 |l::r,b=>by simp only[List.cons_append,yB,aGJ r b];omega
theorem aLx:∀(ls:List cB) (i:Nat),cB.tG (ls.take i)≤cB.tG ls
 |[],i=>by simp
 |l::r,0=>by simp[cB.tG]
 |l::r,i+1=>by have:=aLx r i;simp only[List.take_succ_cons,cB.tG];omega
theorem dP.nodes {l:cB} (h:dP l):(nodes l).length≤big:=Nat.le_trans (aUS l) h.xC
theorem aKb {ls:List cB} {i:Nat} (hi:i<ls.length):ls.take (i+1)=ls.take i++[ls[i]]:=by rw[List.take_add_one,List.getElem?_eq_getElem hi];rfl
theorem aMS {l:cB} {i:Nat} (hi:i<l.kids.length):aA l.kc.rows (i:Int).toNat=l.kids[i].row:=by rw[cB.yS,Int.toNat_natCast];exact fC _ _ _ hi
theorem aQw {l:cB} {i:Nat} (hi:i<l.kids.length):(0:Int)≤(i:Int)∧(i:Int)<(l.kc.rows.length:Int):=vX (by rw[cB.yS,List.length_map];exact hi)
theorem a1m {n:Nat} (h:n≤big):IntKind.wrap .i64 (n:Int)=(n:Int):=by unfold big at h;exact wrap_i64 ⟨by omega,by omega⟩
theorem a0a (l:cB) (h:dP l) (hc:∀k∈l.kids,(bA T).pc aAA [k.row]=some [[.int ((nodes k).length:Int)]]):∀(j i:Nat),i+j=l.kids.length→
 aEb (bA T) (((1+(aC (l.kids.take i)).length:Nat)):Int) l.kc (l.kids.length:Int) (i:Int)=some (0,[.r [.int (((nodes l).length:Nat):Int)]])
 |0,i,hh=>by
  rw[aIT];unfold aEc
  obtain rfl:i=l.kids.length:=by omega
  refine jF.eq (.ite (fun h=>absurd h rQ) fun _=> .some ?_)
  rw[List.take_length,nodes_eq,List.length_cons,Nat.add_comm]
 |j+1,i,hh=>by
  rw[aIT];unfold aEc
  have hi:i<l.kids.length:=by omega
  have ih:=a0a l h hc j (i+1) (by omega)
  refine jF.eq (.pos (dec_lt hi) (.pos (aQw hi) ?_))
  rw[aMS hi]
  refine .lA (hc _ (List.getElem_mem hi)) ?_
  have hk:=h.kids
  have e1:(at_ (aA [[C.int ((nodes l.kids[i]).length:Int)]] 0) 0).vA=((nodes l.kids[i]).length:Int):=rfl
  have e2:1+(aC (l.kids.take (i+1))).length=1+(aC (l.kids.take i)).length+(nodes l.kids[i]).length:=by
   rw[aKb hi,aIJ];simp only[aC,List.append_nil,List.length_append];omega
  have hb:1+(aC (l.kids.take (i+1))).length≤big:=by
   have:=aFP (l.kids.take (i+1));have:=aLx l.kids (i+1);have:=l.aM;have:=h.xC;omega
  rw[e1,←Int.natCast_add,←e2,a1m hb,lC (show i≤big by omega),ih]
  exact .some rfl
theorem aSm (l:cB) (h:dP l):(bA T).pc aAA [l.row]=some [[.int ((nodes l).length:Int)]]:=by
 have aBZ:∀k∈l.kids,(bA T).pc aAA [k.row]=some [[.int ((nodes k).length:Int)]]:=fun k hk=>by
  have:=cB.oP hk
  exact aSm k (h.kid hk)
 rw[aTa];unfold aNi
 have:=a0a l h aBZ l.kids.length 0 (by omega)
 rw[List.take_zero,show ((0:Nat):Int)=0 from rfl,show ((1+(aC []).length:Nat):Int)=1 from rfl]at this
 rw[aA7,cB.yS,List.length_map,this]
 rfl
 termination_by SizeOf.sizeOf l
theorem a0b (l:cB) (h:dP l) (hc:∀k∈l.kids,(bA T).pc aAB [k.row]=some [[.int (levels k:Int)]]):∀(j i:Nat),i+j=l.kids.length→
 aEd (bA T) ((yB (l.kids.take i):Nat):Int) l.kc (l.kids.length:Int) (i:Int)=some (0,[.r [.int ((yB l.kids:Nat):Int)]])
 |0,i,hh=>by
  rw[aIU];unfold aEe
  obtain rfl:i=l.kids.length:=by omega
  refine jF.eq (.ite (fun h=>absurd h rQ) fun _=> .some ?_)
  rw[List.take_length]
 |j+1,i,hh=>by
  rw[aIU];unfold aEe
  have hi:i<l.kids.length:=by omega
  have ih:=a0b l h hc j (i+1) (by omega)
  refine jF.eq (.pos (dec_lt hi) (.pos (aQw hi) ?_))
  rw[aMS hi]
  refine .lA (hc _ (List.getElem_mem hi)) ?_
  have hk:=h.kids
  have e1:(at_ (aA [[C.int (levels l.kids[i]:Int)]] 0) 0).vA=(levels l.kids[i]:Int):=rfl
  have e2:yB (l.kids.take (i+1))=max (yB (l.kids.take i)) (levels l.kids[i]):=by
   rw[aKb hi,aGJ];simp only[yB];omega
  have e3:(if (levels l.kids[i]:Int)>(yB (l.kids.take i):Int)then (levels l.kids[i]:Int)else (yB (l.kids.take i):Int))=((yB (l.kids.take (i+1)):Nat):Int):=by
   rw[e2];split<;>omega
  rw[e1,e3,lC (show i≤big by omega),ih]
  exact .some rfl
theorem aSn (l:cB) (h:dP l):(bA T).pc aAB [l.row]=some [[.int (levels l:Int)]]:=by
 have aBZ:∀k∈l.kids,(bA T).pc aAB [k.row]=some [[.int (levels k:Int)]]:=fun k hk=>by
  have:=cB.oP hk
  exact aSn k (h.kid hk)
 rw[aTb];unfold aNj
 have:=a0b l h aBZ l.kids.length 0 (by omega)
 rw[List.take_zero,show ((0:Nat):Int)=0 from rfl,show ((yB []:Nat):Int)=0 from rfl]at this
 rw[aA7,cB.yS,List.length_map,this]
 have hl:=aEE l.kids
 have hb:=l.aM
 have hbb:=h.xC
 refine jF.eq (.some ?_)
 show[[C.int (IntKind.wrap .i64 ((yB l.kids:Int)+1))]]=_
 rw[lC (show yB l.kids≤big by omega),levels_eq]
 termination_by SizeOf.sizeOf l
theorem aUT (l:cB) (h:dP l) (hc:∀k∈l.kids,(bA T).pc gL [k.row]=some [[.int (levels k:Int)]]):∀(j i:Nat),i+j=l.kids.length→
 yT (bA T) ((yB (l.kids.take i):Nat):Int) l.kc (l.kids.length:Int) (i:Int)=some (0,[.r [.int ((yB l.kids:Nat):Int)]])
 |0,i,hh=>by
  rw[aCh];unfold zT
  obtain rfl:i=l.kids.length:=by omega
  refine jF.eq (.ite (fun h=>absurd h rQ) fun _=> .some ?_)
  rw[List.take_length]
 |j+1,i,hh=>by
  rw[aCh];unfold zT
  have hi:i<l.kids.length:=by omega
  have ih:=aUT l h hc j (i+1) (by omega)
  refine jF.eq (.pos (dec_lt hi) (.pos (aQw hi) ?_))
  rw[aMS hi]
  refine .lA (hc _ (List.getElem_mem hi)) ?_
  have hk:=h.kids
  have e1:(at_ (aA [[C.int (levels l.kids[i]:Int)]] 0) 0).vA=(levels l.kids[i]:Int):=rfl
  have e2:yB (l.kids.take (i+1))=max (yB (l.kids.take i)) (levels l.kids[i]):=by
   rw[aKb hi,aGJ];simp only[yB];omega
  rw[e1,lC (show i≤big by omega)]
  refine .ite (fun e=> ?_) fun e=> ?_
  ·have e:(levels l.kids[i]:Int)>(yB (l.kids.take i):Int):=of_decide_eq_true e
   rw[show levels l.kids[i]=yB (l.kids.take (i+1)) by omega,ih]
   exact .some rfl
  ·have e:¬(levels l.kids[i]:Int)>(yB (l.kids.take i):Int):=fun x=>e (decide_eq_true x)
   rw[show yB (l.kids.take i)=yB (l.kids.take (i+1)) by omega,ih]
   exact .some rfl
theorem aOq (l:cB) (h:dP l):(bA T).pc gL [l.row]=some [[.int (levels l:Int)]]:=by
 have aBZ:∀k∈l.kids,(bA T).pc gL [k.row]=some [[.int (levels k:Int)]]:=fun k hk=>by
  have:=cB.oP hk
  exact aOq k (h.kid hk)
 rw[aLo];unfold aDS
 have:=aUT l h aBZ l.kids.length 0 (by omega)
 rw[List.take_zero,show ((0:Nat):Int)=0 from rfl,show ((yB []:Nat):Int)=0 from rfl]at this
 rw[aA7,cB.yS,List.length_map,this]
 have hl:=aEE l.kids
 have hb:=l.aM
 have hbb:=h.xC
 refine jF.eq (.some ?_)
 show[[C.int (IntKind.wrap .i64 ((yB l.kids:Int)+1))]]=_
 rw[lC (show yB l.kids≤big by omega),levels_eq]
 termination_by SizeOf.sizeOf l
theorem aW7 (l:cB) (h:dP l) (hc:∀k∈l.kids,(bA T).pc mN [k.row]=some [[.sl ((nodes k).map cB.row)]]):∀(j i:Nat),i+j=l.kids.length→
 uV (bA T) l.kc (l.kids.length:Int) (i:Int) (.sl ((l::aC (l.kids.take i)).map cB.row))=some (0,[.r [.sl ((nodes l).map cB.row)]])
 |0,i,hh=>by
  rw[aDw];unfold vV
  obtain rfl:i=l.kids.length:=by omega
  refine jF.eq (.ite (fun h=>absurd h rQ) fun _=> .some ?_)
  rw[List.take_length,nodes_eq]
 |j+1,i,hh=>by
  rw[aDw];unfold vV
  have hi:i<l.kids.length:=by omega
  have ih:=aW7 l h hc j (i+1) (by omega)
  refine jF.eq (.pos (dec_lt hi) (.pos (aQw hi) ?_))
  rw[aMS hi]
  refine .lA (hc _ (List.getElem_mem hi)) ?_
  have hk:=h.kids
  have e1:(at_ (aA [[C.sl ((nodes l.kids[i]).map cB.row)]] 0) 0).rows=(nodes l.kids[i]).map cB.row:=rfl
  have e2:(l::aC (l.kids.take i)).map cB.row++(nodes l.kids[i]).map cB.row=(l::aC (l.kids.take (i+1))).map cB.row:=by
   rw[aKb hi,aIJ];simp only[aC,List.append_nil,List.map_cons,List.map_append,List.cons_append]
  have hb1:(l::aC (l.kids.take i)).length≤big:=by
   have:=aFP (l.kids.take i);have:=aLx l.kids i;have:=l.aM;have:=h.xC;simp only[List.length_cons];omega
  have hb2:=(h.kid (List.getElem_mem hi)).nodes
  rw[e1,aHI,List.length_map,List.length_map]
  unfold big at hb1 hb2
  refine .pos (by omega) ?_
  have e3:pE (.sl ((l::aC (l.kids.take i)).map cB.row)) ((nodes l.kids[i]).map cB.row)= .sl ((l::aC (l.kids.take (i+1))).map cB.row):=by rw[←e2];rfl
  rw[e3,lC (show i≤big by omega),ih]
  exact .some rfl
theorem aQx (l:cB) (h:dP l):(bA T).pc mN [l.row]=some [[.sl ((nodes l).map cB.row)]]:=by
 have aBZ:∀k∈l.kids,(bA T).pc mN [k.row]=some [[.sl ((nodes k).map cB.row)]]:=fun k hk=>by
  have:=cB.oP hk
  exact aQx k (h.kid hk)
 rw[aMC];unfold aE3
 have:=aW7 l h aBZ l.kids.length 0 (by omega)
 rw[List.take_zero,show ((0:Nat):Int)=0 from rfl,show (C.sl ((l::aC []).map cB.row))= .sl [l.row]from rfl]at this
 rw[aA7,cB.yS,List.length_map,this]
 rfl
 termination_by SizeOf.sizeOf l
theorem aX4 (l:cB) (h:dP l):∃e:Int,(bA T).pc dX [l.row]=some [[.int e]]∧(bA T).pc qU [l.row]=some [[.int e]]:=by
 by_cases hr:0≤l.op∧l.op<19
 ·obtain ⟨f,w,u,ho⟩:=a1k hr.1 hr.2
  exact ⟨_,aR8 l h f w u hr.1 hr.2 ho,aV2 l h f w u hr.1 hr.2 ho⟩
 ·refine ⟨1, ?_, ?_⟩
  ·rw[aIE];unfold aG6
   refine jF.eq (.bind (R:=fun r=>r=(0,[.r [.dp l.row], .r [.bool true]])) ?_ ?_)
   ·refine .ite (fun e=> .some rfl) fun e=> .some ?_
    have e':¬l.op<0:=fun x=>e (decide_eq_true x)
    have:decide ((at_ l.row 0).vA≥19)=true:=decide_eq_true (show l.op≥19 by omega)
    rw[this]
   ·rintro r rfl;exact .some rfl
  ·rw[aHu];unfold aDj
   refine jF.eq (.bind (R:=fun r=>r=(0,[.r [.dp l.row], .r [.bool true]])) ?_ ?_)
   ·refine .ite (fun e=> .some rfl) fun e=> .some ?_
    have e':¬l.op<0:=fun x=>e (decide_eq_true x)
    have:decide ((at_ l.row 0).vA≥19)=true:=decide_eq_true (show l.op≥19 by omega)
    rw[this]
   ·rintro r rfl;exact .some rfl
noncomputable def aAM (l:cB):Int:=match (bA T).pc dX [l.row]with
 |some [[.int n]]=>n
 |_=>0
theorem aQy (l:cB) (h:dP l):(bA T).pc dX [l.row]=some [[.int (aAM l)]]∧(bA T).pc qU [l.row]=some [[.int (aAM l)]]:=by
 obtain ⟨e,h1,h2⟩:=aX4 l h
 have:aAM l=e:=by unfold aAM;rw[h1]
 rw[this];exact ⟨h1,h2⟩
noncomputable def cN:List cB→Int
 |[]=>0
 |l::r=>if aAM l≠0 then aAM l else cN r
theorem aQz:∀a b:List cB,cN (a++b)=if cN a≠0 then cN a else cN b
 |[],b=>by simp[cN]
 |l::r,b=>by
  simp only[List.cons_append,cN,aQz r b]
  by_cases h:aAM l=0
  ·simp[h]
  ·simp[h]
theorem a0c (l:cB) (h:dP l) (hc:∀k∈l.kids,(bA T).pc aAH [k.row]=some [[.int (cN (nodes k))]]):∀(j i:Nat),i+j=l.kids.length→
 aEu (bA T) l.kc (l.kids.length:Int) (i:Int)=some (if cN (aC (l.kids.drop i))=0 then (0,[])else (1,[.r [.int (cN (aC (l.kids.drop i)))]]))
 |0,i,hh=>by
  rw[aIV];unfold aEv
  obtain rfl:i=l.kids.length:=by omega
  rw[List.drop_length]
  exact jF.eq (.ite (fun h=>absurd h rQ) fun _=> .some rfl)
 |j+1,i,hh=>by
  rw[aIV];unfold aEv
  have hi:i<l.kids.length:=by omega
  have ih:=a0c l h hc j (i+1) (by omega)
  refine jF.eq (.pos (dec_lt hi) (.pos (aQw hi) ?_))
  rw[aMS hi]
  refine .lA (hc _ (List.getElem_mem hi)) ?_
  have hk:=h.kids
  rw[List.drop_eq_getElem_cons hi,aC,aQz]
  simp only[yA,oA,rA,lC (show i≤big by omega),ih]
  by_cases h0:cN (nodes l.kids[i])=0
  ·have hb:(cN (nodes l.kids[i]) !=0)=false:=by simp[h0]
   simp only[hb,h0,Bool.false_eq_true,if_false,ne_eq,not_true_eq_false]
   exact .some rfl
  ·have hb:(cN (nodes l.kids[i]) !=0)=true:=by simp[h0]
   simp only[hb,h0,if_true,if_false,ne_eq,not_false_eq_true]
   exact .some rfl
theorem aSo (l:cB) (h:dP l):(bA T).pc aAH [l.row]=some [[.int (cN (nodes l))]]:=by
 have aBZ:∀k∈l.kids,(bA T).pc aAH [k.row]=some [[.int (cN (nodes k))]]:=fun k hk=>by
  have:=cB.oP hk
  exact aSo k (h.kid hk)
 rw[aTd];unfold aNu
 refine jF.eq (.lA (aQy l h).1 ?_)
 rw[nodes_eq,cN]
 have hl:=a0c l h aBZ l.kids.length 0 (by omega)
 rw[List.drop_zero,show ((0:Nat):Int)=0 from rfl]at hl
 simp only[yA,oA,rA,aA7,cB.yS,List.length_map,hl]
 by_cases h0:aAM l=0
 ·have hb:(aAM l !=0)=false:=by simp[h0]
  simp only[hb,h0,Bool.false_eq_true,if_false,ne_eq,not_true_eq_false]
  by_cases h2:cN (aC l.kids)=0
  ·simp only[h2,if_true];exact .some rfl
  ·simp only[h2,if_false];exact .some rfl
 ·have hb:(aAM l !=0)=true:=by simp[h0]
  simp only[hb,h0,if_true,ne_eq,not_false_eq_true]
  exact .some rfl
 termination_by SizeOf.sizeOf l
theorem aQf (l:cB) (h:dP l):∀k∈nodes l,dP k:=by
 rw[nodes_eq]
 intro k hk
 rcases List.mem_cons.1 hk with e |e
 ·rw[e];exact h
 ·have:∀ls:List cB,(∀x∈ls,∀y∈nodes x,dP y)→∀y∈aC ls,dP y:=by
   intro ls
   induction ls with
   |nil=>intro _ y hy;simp[aC]at hy
   |cons a r ih=>
    intro hx y hy
    simp only[aC,List.mem_append]at hy
    rcases hy with e |e
    ·exact hx a (by simp) y e
    ·exact ih (fun x hx'=>hx x (by simp[hx'])) y e
  refine this l.kids (fun x hx y hy=> ?_) k e
  have:=cB.oP hx
  exact aQf x (h.kid hx) y hy
 termination_by SizeOf.sizeOf l
theorem aUU (ls:List cB) (hN:ls.length≤big) (ho:∀k∈ls,dP k):∀(j i:Nat),i+j=ls.length→
 zV (bA T) (.sl (ls.map cB.row)) (ls.length:Int) (i:Int)=some (if cN (ls.drop i)=0 then (0,[])else (1,[.r [.int (cN (ls.drop i))]]))
 |0,i,hh=>by
  rw[aDy];unfold aW
  obtain rfl:i=ls.length:=by omega
  rw[List.drop_length]
  exact jF.eq (.ite (fun h=>absurd h rQ) fun _=> .some rfl)
 |j+1,i,hh=>by
  rw[aDy];unfold aW
  have hi:i<ls.length:=by omega
  have ih:=aUU ls hN ho j (i+1) (by omega)
  refine jF.eq (.pos (dec_lt hi) (.pos (vX (by simpa using hi)) ?_))
  rw[aHI,show aA (ls.map cB.row) (i:Int).toNat=ls[i].row from (by rw[Int.toNat_natCast];exact fC _ _ _ hi)]
  refine .lA (aQy _ (ho _ (List.getElem_mem hi))).2 ?_
  rw[List.drop_eq_getElem_cons hi,cN]
  simp only[yA,oA,rA,lC (show i≤big by omega),ih]
  by_cases h0:aAM ls[i]=0
  ·have hb:(aAM ls[i] !=0)=false:=by simp[h0]
   simp only[hb,h0,Bool.false_eq_true,if_false,ne_eq,not_true_eq_false]
   exact .some rfl
  ·have hb:(aAM ls[i] !=0)=true:=by simp[h0]
   simp only[hb,h0,if_true,if_false,ne_eq,not_false_eq_true]
   exact .some rfl
noncomputable def eV (l:cB):Int:=if (nodes l).length>120∨levels l>40 then 2 else cN (nodes l)
theorem aVK (l:cB) (h:dP l):(bA T).pc aIv [l.row]=some [[.int (eV l)]]:=by
 rw[aRn];unfold aLf eV
 refine jF.eq (.lA (aSm l h) ?_)
 refine .ite (fun e=> ?_) fun e=> ?_
 ·rw[if_pos (.inl (by have:((nodes l).length:Int)>120:=of_decide_eq_true e;omega))]
  exact .some rfl
 ·have e1:¬(nodes l).length>120:=by have:=of_decide_eq_false (by simpa using e:decide (((nodes l).length:Int)>120)=false);omega
  refine .lA (aSn l h) ?_
  refine .ite (fun e2=> ?_) fun e2=> ?_
  ·rw[if_pos (.inr (by have:(levels l:Int)>40:=of_decide_eq_true e2;omega))]
   exact .some rfl
  ·have e3:¬levels l>40:=by have:=of_decide_eq_false (by simpa using e2:decide ((levels l:Int)>40)=false);omega
   rw[if_neg (by omega)]
   exact .lA (aSo l h) (.some rfl)
theorem aUt (l:cB) (h:dP l):(bA T).pc aCJ [l.row]=some [[.int (eV l)]]:=by
 rw[aMG];unfold aE7 eV
 refine jF.eq (.lA (aQx l h) ?_)
 have er:(at_ (aA [[C.sl ((nodes l).map cB.row)]] 0) 0)=C.sl ((nodes l).map cB.row):=rfl
 refine .bind (R:=fun r=>r=(0,[.r [.sl ((nodes l).map cB.row)], .r [.bool (decide ((nodes l).length>120∨levels l>40))]])) ?_ ?_
 ·rw[er,aHI,List.length_map]
  refine .ite (fun e=> ?_) fun e=> ?_
  ·have e1:(nodes l).length>120:=by have:=of_decide_eq_true e;omega
   refine .some ?_
   rw[decide_eq_true (.inl e1)]
  ·have e1:¬(nodes l).length>120:=by have:=of_decide_eq_false (by simpa using e:decide (((nodes l).length:Int)>120)=false);omega
   refine .lA (aOq l h) (.some ?_)
   simp only[yA,oA,rA]
   have:decide ((levels l:Int)>40)=decide ((nodes l).length>120∨levels l>40):=by
    by_cases e2:levels l>40
    ·rw[decide_eq_true (show (levels l:Int)>40 by omega),decide_eq_true (show (nodes l).length>120∨levels l>40 from .inr e2)]
    ·rw[decide_eq_false (show ¬(levels l:Int)>40 by omega),decide_eq_false (show ¬((nodes l).length>120∨levels l>40) by omega)]
   exact congrArg (fun b=>((0:Nat),([PV.r [.sl ((nodes l).map cB.row)],PV.r [.bool b]]:List PV))) this
 rintro r rfl
 by_cases e:(nodes l).length>120∨levels l>40
 ·rw[if_pos e,decide_eq_true e];exact .some rfl
 ·rw[if_neg e,decide_eq_false e]
  simp only[tC,uC,kC,Bool.false_eq_true,if_false,aHI,List.length_map]
  have hl:=aUU (nodes l) h.nodes (aQf l h) (nodes l).length 0 (by omega)
  rw[List.drop_zero,show ((0:Nat):Int)=0 from rfl]at hl
  rw[hl]
  by_cases h2:cN (nodes l)=0
  ·simp only[h2,if_true];exact .some rfl
  ·simp only[h2,if_false];exact .some rfl
theorem aUu:(bA T).pc aFM []=some [[.bool true]]:=(rC T).2 ⟨60,by kernel_rfl⟩
end Go.Ev.oO
