/-
  Steps of a simplification, as plain functions of lenses.
-/
import Derived.Test.YtdhebofenihjmaaGreatDoorZY
import Derived.Test.YtdhebofenihjmaaGreatDoorZzkUb
set_option linter.all false
set_option maxRecDepth 100000
namespace Go.Ev.dJ
@[simp] theorem aKM (l:dA):l.norm.op=l.op:=by cases l;rfl
@[simp] theorem aOm (l:dA):l.norm.name=l.name:=by cases l;rfl
@[simp] theorem a0R (l:dA):l.norm.to=l.to:=by cases l;rfl
@[simp] theorem aVs (l:dA):l.norm.names=l.names:=by cases l;rfl
@[simp] theorem bD8 (l:dA):l.norm.n=l.n:=by cases l;rfl
@[simp] theorem a2I (l:dA):l.norm.low=l.low:=by cases l;rfl
@[simp] theorem aZs (l:dA):l.norm.high=l.high:=by cases l;rfl
@[simp] theorem aZt (l:dA):l.norm.sep=l.sep:=by cases l;rfl
@[simp] theorem a98 (l:dA):l.norm.v=l.v:=by cases l;rfl
@[simp] theorem aVt (l:dA):l.norm.pairs=l.pairs:=by cases l;rfl
@[simp] theorem aAX (l:dA):l.norm.kids=l.kids.map dA.norm:=by cases l;simp only[dA.norm,dA.kids,dA.aJ6]
theorem aVu (l:dA):l.norm= .mk l.op l.name l.to true l.names l.n l.low l.high l.sep l.v true l.pairs true (l.kids.map dA.norm):=by
 cases l;simp only[dA.norm,dA.op,dA.name,dA.to,dA.names,dA.n,dA.low,dA.high,dA.sep,dA.v,dA.pairs,dA.kids,dA.aJ6]
@[simp] theorem aSq (l:dA):l.norm.norm=l.norm:=by
  have h:∀k∈l.kids,k.norm.norm=k.norm:=fun k hk=>by
   have:=dA.sD hk
   exact aSq k
  rw[aVu l.norm,aVu l]
  simp only[dA.op,dA.name,dA.to,dA.names,dA.n,dA.low,dA.high,dA.sep,dA.v,dA.pairs,dA.kids,List.map_map]
  congr 1
  exact List.map_congr_left fun k hk=>h k hk
  termination_by SizeOf.sizeOf l
def mkL (op:Int) (name to:Bytes) (kids:List dA):dA:= .mk op name to true [] 0 0 0 0 zeroV true [] true kids
def nE:dA:=mkL 0 [] [] []
@[simp] theorem bD9:nE.norm=nE:=rfl
theorem aRd (op:Int) (name to:Bytes) (kids:List dA):(mkL op name to kids).norm=mkL op name to (kids.map dA.norm):=by
 rw[aVu];rfl
def thenS:List dA→dA
 |[]=>nE
 |[k]=>k
 |r=>mkL 1 [] [] r
def aFb (ks:List dA) (a n:Nat) (by':List dA):dA:=thenS (ks.take a++by'++ks.drop (a+n))
def merged (op:Int) (name:Bytes) (a b:dA):dA:=mkL op name [] [mkL 1 [] [] [a.kids.headD nE,b.kids.headD nE]]
def aGV (a b:dA):Bool:=
 if a.op=9∧b.op=10 then a.name==b.name&&(a.to==b.to&&a.sep==b.sep)
 else if a.op=16∧b.op=17 then a.name==b.name
 else if a.op=5∧b.op=4 then a.name==b.name&&a.v.eqv b.v else false
def aC7 (a b:dA) (rule:Int):Option (List dA):=
 if rule=3 then (if a.op=3∧b.op=3∧a.to=b.name then some (if a.name=b.to then []else [mkL 3 a.name b.to []])else none)
 else if rule=4 then (if a.op=2∧b.op=2∧a.name=b.name then some [merged 2 a.name a b]else none)
 else if rule=5 then (if aGV a b=true then some []else none)
 else if rule=6 then (if a.op=8∧b.op=8∧a.name=b.name then some [b]else none)
 else if rule=7 then (if a.op=13∧b.op=13∧a.name=[]∧b.name=[]then some [merged 13 [] a b]else none)
 else none
def aOX (l:dA) (a:Int):Bool:=(a==0&&(l.op==2 ||(l.op==14 ||(l.op==13&&l.name==[]))))&&l.kids.all (fun k=>k.op==0)
def xT (l:dA) (rule a:Int):Option dA:=
 if rule=2 then (if aOX l a=true then some nE else none)
 else if l.op=1∧0≤a∧a<(l.kids.length:Int)then
  let k:=l.kids.getD a.toNat nE
  if rule=0 then (if k.op=1 then some (aFb l.kids a.toNat 1 k.kids)else none)
  else if rule=1 then (if k.op=0 then some (aFb l.kids a.toNat 1 [])else none)
  else if a+1<(l.kids.length:Int)then (aC7 k (l.kids.getD (a.toNat+1) nE) rule).map fun by'=>aFb l.kids a.toNat 2 by'
  else none
 else none
def aJU (l:dA) (ks:List dA):dA:= .mk l.op l.name l.to l.nb l.names l.n l.low l.high l.sep l.v l.pb l.pairs true ks
def rU (rule a:Int):List Int→dA→Option dA
 |[],l=>xT l rule a
 |i::p,l=>if 0≤i∧i<(l.kids.length:Int)then (rU rule a p (l.kids.getD i.toNat nE)).map fun k=>aJU l (l.kids.set i.toNat k)else none
def aNQ (f:Nat→Bool):Nat→Nat→Option Nat
 |_,0=>none
 |i,j+1=>if f i=true then some i else aNQ f (i+1) j
def a8c (l:dA) (rule:Int):Option Nat:=aNQ (fun a=>(xT l rule (a:Int)).isSome) 0 (max 1 l.kids.length)
mutual
def aAp (rule:Int):dA→Option (List Int×Nat)
 | .mk op nm to nb ns n lo hi se v pb ps kb ks=>match a8c (.mk op nm to nb ns n lo hi se v pb ps kb ks) rule with
   |some a=>some ([],a)
   |none=>aMV rule 0 ks
def aMV (rule:Int):Nat→List dA→Option (List Int×Nat)
 |_,[]=>none
 |i,k::ks=>match aAp rule k with
  |some (p,a)=>some ((i:Int)::p,a)
  |none=>aMV rule (i+1) ks
end
theorem aRe (rule:Int) (l:dA):aAp rule l=match a8c l rule with
 |some a=>some ([],a)
 |none=>aMV rule 0 l.kids:=by cases l;simp only[aAp,dA.kids]
def aHK (l:dA):Nat→Nat→Option (List Int×Nat×Nat)
 |_,0=>none
 |i,j+1=>match aAp (i:Int) l with
  |some (p,a)=>some (p,i,a)
  |none=>aHK l (i+1) j
def aNR (l:dA):Option (List Int×Nat×Nat):=aHK l 0 8
def atP:List Int→dA→dA
 |[],l=>l
 |i::p,l=>atP p (l.kids.getD i.toNat nE)
mutual
def wL:dA→List (List Int)
 | .mk _ _ _ _ _ _ _ _ _ _ _ _ _ ks=>[]::cR 0 ks
def cR:Nat→List dA→List (List Int)
 |_,[]=>[]
 |i,k::ks=>(wL k).map (fun p=>(i:Int)::p)++cR (i+1) ks
end
theorem aG5 (l:dA):wL l=[]::cR 0 l.kids:=by cases l;simp only[wL,dA.kids]
theorem a2J (ks:List dA):(thenS ks).norm=thenS (ks.map dA.norm):=by
 match ks with
 |[]=>rfl
 |[k]=>rfl
 |a::b::r=>exact aRd _ _ _ _
theorem aPQ (ks:List dA) (a n:Nat) (by':List dA):(aFb ks a n by').norm=aFb (ks.map dA.norm) a n (by'.map dA.norm):=by
 unfold aFb
 rw[a2J]
 simp only[List.map_append,List.map_take,List.map_drop]
theorem a2K (l:List dA):(l.map dA.norm).headD nE=(l.headD nE).norm:=by cases l<;>rfl
theorem aTa (op:Int) (name:Bytes) (a b:dA):(merged op name a b).norm=merged op name a.norm b.norm:=by
 unfold merged
 rw[aRd]
 simp only[List.map_cons,List.map_nil,aRd,aAX,a2K]
theorem aZv (a b:dA):aGV a.norm b.norm=aGV a b:=by
 unfold aGV
 simp only[aKM,aOm,a0R,aZt,a98]
theorem a2L (a b:dA) (rule:Int):aC7 a.norm b.norm rule=(aC7 a b rule).map fun by'=>by'.map dA.norm:=by
 unfold aC7
 simp only[aKM,aOm,a0R,aZv]
 by_cases h3:rule=3
 ·simp only[h3,if_true]
  by_cases c:a.op=3∧b.op=3∧a.to=b.name
  ·simp only[if_pos c,Option.map_some]
   by_cases c2:a.name=b.to
   ·simp only[if_pos c2,List.map_nil]
   ·simp only[if_neg c2,List.map_cons,List.map_nil,aRd]
  ·simp only[if_neg c,Option.map_none]
 by_cases h4:rule=4
 ·simp only[if_neg h3,if_pos h4]
  by_cases c:a.op=2∧b.op=2∧a.name=b.name
  ·simp only[if_pos c,Option.map_some,List.map_cons,List.map_nil,aTa]
  ·simp only[if_neg c,Option.map_none]
 by_cases h5:rule=5
 ·simp only[if_neg h3,if_neg h4,if_pos h5]
  by_cases c:aGV a b=true
  ·simp only[if_pos c,Option.map_some,List.map_nil]
  ·simp only[if_neg c,Option.map_none]
 by_cases h6:rule=6
 ·simp only[if_neg h3,if_neg h4,if_neg h5,if_pos h6]
  by_cases c:a.op=8∧b.op=8∧a.name=b.name
  ·simp only[if_pos c,Option.map_some,List.map_cons,List.map_nil]
  ·simp only[if_neg c,Option.map_none]
 by_cases h7:rule=7
 ·simp only[if_neg h3,if_neg h4,if_neg h5,if_neg h6,if_pos h7]
  by_cases c:a.op=13∧b.op=13∧a.name=[]∧b.name=[]
  ·simp only[if_pos c,Option.map_some,List.map_cons,List.map_nil,aTa]
  ·simp only[if_neg c,Option.map_none]
 ·simp only[if_neg h3,if_neg h4,if_neg h5,if_neg h6,if_neg h7,Option.map_none]
theorem aXT (l:List dA) (i:Nat):(l.map dA.norm).getD i nE=(l.getD i nE).norm:=by
 simp only[List.getD_eq_getElem?_getD,List.getElem?_map]
 cases l[i]? <;>rfl
theorem aVv (l:dA) (rule a:Int):xT l.norm rule a=(xT l rule a).map dA.norm:=by
 have hid:aOX l.norm a=aOX l a:=by
  unfold aOX
  simp only[aKM,aOm,aAX,List.all_map,Function.comp_def]
 unfold xT
 simp only[hid,aKM,aAX,List.length_map,aXT]
 by_cases h2:rule=2
 ·simp only[if_pos h2]
  cases aOX l a<;>rfl
 simp only[if_neg h2]
 by_cases hc:l.op=1∧0≤a∧a<(l.kids.length:Int)
 ·simp only[if_pos hc]
  by_cases h0:rule=0
  ·simp only[if_pos h0]
   by_cases c:(l.kids.getD a.toNat nE).op=1
   ·simp only[if_pos c,Option.map_some,aPQ]
   ·simp only[if_neg c,Option.map_none]
  simp only[if_neg h0]
  by_cases h1:rule=1
  ·simp only[if_pos h1]
   by_cases c:(l.kids.getD a.toNat nE).op=0
   ·simp only[if_pos c,Option.map_some,aPQ,List.map_nil]
   ·simp only[if_neg c,Option.map_none]
  simp only[if_neg h1]
  by_cases h5:a+1<(l.kids.length:Int)
  ·simp only[if_pos h5,a2L,Option.map_map,Function.comp_def,aPQ]
  ·simp only[if_neg h5,Option.map_none]
 ·simp only[if_neg hc,Option.map_none]
theorem a2M (l:dA) (rule a:Int):(xT l.norm rule a).isSome=(xT l rule a).isSome:=by rw[aVv,Option.isSome_map]
theorem a8d (l:List dA) (i:Nat) (k:dA):(l.set i k).map dA.norm=(l.map dA.norm).set i k.norm:=List.map_set
theorem a5r (l:dA) (ks:List dA):(aJU l ks).norm=aJU l.norm (ks.map dA.norm):=by
 rw[aVu]
 unfold aJU
 simp only[aKM,aOm,a0R,aVs,bD8,a2I,aZs,aZt,a98,aVt]
 rw[aVu l]
 rfl
theorem aXU (rule a:Int):∀(p:List Int) (l:dA),rU rule a p l.norm=(rU rule a p l).map dA.norm
 |[],l=>aVv l rule a
 |i::p,l=>by
  simp only[rU,aAX,List.length_map,aXT,aXU rule a p]
  by_cases h:0≤i∧i<(l.kids.length:Int)
  ·simp only[if_pos h,Option.map_map,Function.comp_def,a5r,a8d]
  ·simp only[if_neg h,Option.map_none]
theorem a5s (l:dA) (rule:Int):a8c l.norm rule=a8c l rule:=by
 unfold a8c
 simp only[aAX,List.length_map,a2M]
theorem aVw (rule:Int) (l:dA):aAp rule l.norm=aAp rule l:=by
 have h:∀k∈l.kids,aAp rule k.norm=aAp rule k:=fun k hk=>by
  have:=dA.sD hk
  exact aVw rule k
 rw[aRe,aRe rule l,a5s]
 have key:∀(ks:List dA) (i:Nat),(∀k∈ks,aAp rule k.norm=aAp rule k)→aMV rule i (ks.map dA.norm)=aMV rule i ks:=by
  intro ks
  induction ks with
  |nil=>intro i _;rfl
  |cons k r ih=>intro i hk;simp only[List.map_cons,aMV,hk k (by simp),ih (i+1) (fun x hx=>hk x (by simp[hx]))]
 rw[aAX,key l.kids 0 h]
 termination_by SizeOf.sizeOf l
theorem a0S (l:dA):aNR l.norm=aNR l:=by
 unfold aNR
 have:∀j i,aHK l.norm i j=aHK l i j:=by
  intro j
  induction j with
  |zero=>intro i;rfl
  |succ j ih=>intro i;simp only[aHK,aVw,ih]
 exact this _ _
end Go.Ev.dJ
namespace Go.Ev.dJ
theorem aJV {α:Type} [BEq α] [LawfulBEq α] {x y:α} (h:x=y):(x==y)=true:=by simp[h]
theorem xH {α:Type} [BEq α] [LawfulBEq α] {x y:α} (h:¬x=y):(x==y)=false:=by simp[h]
theorem aPR {α:Type} [BEq α] [LawfulBEq α] {x y:α} (h:¬x=y):(x !=y)=true:=by simp[h]
theorem a2N {α:Type} [BEq α] [LawfulBEq α] {x y:α} (h:x=y):(x !=y)=false:=by simp[h]
def Sl (c:C) (rows:List Row):Prop:=c.rows=rows∧(c= .bA∨∃r,c= .sl r)
theorem Sl.nK (b:Bool) (rows:List Row):Sl (Ev.nK b rows) rows:=by
 refine ⟨kC b rows, ?_⟩
 cases b<;>cases rows<;>simp[Ev.nK]
theorem Sl.bA:Sl .bA []:=⟨rfl,.inl rfl⟩
theorem Sl.sl (rows:List Row):Sl (.sl rows) rows:=⟨rfl,.inr ⟨_,rfl⟩⟩
theorem Sl.ne {c:C} {rows:List Row} (h:Sl c rows) (hn:rows≠[]):c= .sl rows:=by
 obtain ⟨rfl,h |⟨r,h⟩⟩:=h
 ·subst h;exact absurd rfl hn
 ·subst h;rfl
theorem aVx {b:Bool} {rows:List Row} (hn:rows≠[]):nK b rows= .sl rows:=(Sl.nK b rows).ne hn
theorem Sl.app {c:C} {a:List Row} (h:Sl c a) (new:List Row):Sl (wE c new) (a++new):=by
 obtain ⟨rfl,h |⟨r,h⟩⟩:=h
 ·subst h
  cases new with
  |nil=>exact ⟨rfl,.inl rfl⟩
  |cons x y=>exact ⟨rfl,.inr ⟨_,rfl⟩⟩
 ·subst h
  exact ⟨rfl,.inr ⟨_,rfl⟩⟩
theorem Sl.slc {c:C} {a:List Row} (h:Sl c a) (i j:Int):Sl (eR c i j) ((a.take j.toNat).drop i.toNat):=by
 obtain ⟨rfl,h |⟨r,h⟩⟩:=h
 ·subst h;exact ⟨by simp[eR,C.rows],.inl rfl⟩
 ·subst h;exact ⟨rfl,.inr ⟨_,rfl⟩⟩
theorem a99 {c:C} {rows:List Row} (h:Sl c rows) (hN:rows.length≤big):∃c',(eA T).ic mM [.r [c]]=some [.r [c']]∧Sl c' rows:=by
 rw[aFU];unfold jO
 obtain ⟨rfl,h |⟨r,h⟩⟩:=h
 ·subst h;exact ⟨.bA,rfl,Sl.bA⟩
 ·subst h
  refine ⟨.sl r, ?_,Sl.sl r⟩
  have hN':r.length≤big:=hN
  rw[if_neg (by simp[C.isNil]),if_pos (by simp[C.rows];unfold big at hN';omega)]
  rfl
theorem a0T (l:dA):Sl l.kc (l.kids.map dA.row):=by rw[dA.aZX];exact Sl.nK _ _
theorem aUm (op:Int) (name to:Bytes) (k:dA) (r:List dA):(mkL op name to (k::r)).row=[.int op,.str name,.str to,.bA,.int 0,.int 0,.int 0,.int 0,.int 0,.int 0,.str [],.bA,.bA,.sl ((k::r).map dA.row)]:=by
 simp only[dA.row,mkL,dA.op,dA.name,dA.to,dA.nb,dA.names,dA.n,dA.low,dA.high,dA.sep,dA.v,dA.pb,dA.pairs,dA.kc,zeroV,aB.k,aB.n,aB.s,aB.fc,dA.tR,aB.rowsOf]
 rfl
theorem a0U {c:C} {ks:List dA} (h:Sl c (ks.map dA.row)):(if (((c.rows).length:Int)==0)=true then some [uC]else
 if (((c.rows).length:Int)==1)=true then (if (0:Int)≤0∧0<((c.rows).length:Int)then some [aA c.rows 0]else none)else
 some [[.int 1,.str [],.str [],.bA,.int 0,.int 0,.int 0,.int 0,.int 0,.int 0,.str [],.bA,.bA,c]])=some [(thenS ks).row]:=by
 rw[h.1,List.length_map]
 match ks with
 |[]=>rfl
 |[k]=>rfl
 |a::b::r=>
  rw[if_neg (by simp;omega),if_neg (by simp;omega),h.ne (by simp)]
  show _=some [(mkL 1 [] [] (a::b::r)).row]
  rw[aUm]
theorem bCo {a n:Nat} (ha:a≤big) (hn:n≤2):IntKind.wrap .i64 ((a:Int)+(n:Int))=((a+n:Nat):Int):=by
 unfold big at ha
 rw[wrap_i64 ⟨by omega,by omega⟩];omega
theorem aMv (l:dA) (a n:Nat) (h:a+n≤l.kids.length) (hn:n≤2) (c:C) (by':List dA) (hc:Sl c (by'.map dA.row)) (hN:l.kids.length≤big) (hB:by'.length≤big):
 (eA T).pc fK [l.row,[.int (a:Int)],[.int (n:Int)],[c]]=some [(aFb l.kids a n by').row]:=by
 rw[aTT];unfold aL0
 have hk:=a0T l
 have hl:l.kc.rows.length=l.kids.length:=by rw[hk.1,List.length_map]
 have h1:=hk.slc 0 (a:Int)
 rw[Int.toNat_natCast,show (0:Int).toNat=0 from rfl,List.drop_zero]at h1
 obtain ⟨c',e1,h2⟩:=a99 h1 (by simp;omega)
 have hW:=bCo (show a≤big by omega) hn
 have h3:=h2.app c.rows
 rw[hc.1]at h3
 have h4:=hk.slc (IntKind.wrap .i64 ((a:Int)+(n:Int))) (l.kc.rows.length:Int)
 rw[hW,hl,Int.toNat_natCast,Int.toNat_natCast,List.take_of_length_le (by simp)]at h4
 have h5:=h3.app (eR l.kc ((a+n:Nat):Int) (l.kids.length:Int)).rows
 rw[h4.1]at h5
 have h6:Sl (wE (wE c' (by'.map dA.row)) ((l.kids.map dA.row).drop (a+n))) ((l.kids.take a++by'++l.kids.drop (a+n)).map dA.row):=by
  simpa only[List.map_append,List.map_take,List.map_drop]using h5
 have h7:=a0U h6
 rw[←h4.1,←hc.1,←hW,←hl]at h7
 have hb1:l.kids.length≤4294967296:=hN
 have hb2:by'.length≤4294967296:=hB
 refine yH.eq (.pos ⟨by omega,by omega,by show (a:Int)≤(l.kc.rows.length:Int);omega⟩ (.jB e1 (.pos ?_ (.pos ?_ (.pos ?_ ⟨_,h7,rfl⟩)))))
 ·show (c'.rows.length+c.rows.length)*200≤_
  rw[h2.1,hc.1];simp;omega
 ·rw[hW]
  exact ⟨by omega,by show _≤(l.kc.rows.length:Int);omega,by omega⟩
 ·show ((wE c' c.rows).rows.length+(eR l.kc (IntKind.wrap .i64 ((a:Int)+(n:Int))) (l.kc.rows.length:Int)).rows.length)*200≤_
  rw[hc.1,h3.1,hW,hl,h4.1];simp;omega
theorem a8e (l:dA) (hN:l.kids.length≤big):∀(j i:Nat),i+j=l.kids.length→
 aGH (eA T) (.dp l.row) l.kc (l.kids.length:Int) (i:Int) uC=some (if (l.kids.drop i).all (fun k=>k.op==0)=true then (0,[.r uC])else (1,[.r [.bool false],.r l.row]))
 |0,i,hh=>by
  rw[aMS];unfold aGI
  obtain rfl:i=l.kids.length:=by omega
  rw[List.drop_length]
  exact yH.eq (.ite (fun h=>absurd h aC8) fun _=> .some rfl)
 |j+1,i,hh=>by
  rw[aMS];unfold aGI
  have hi:i<l.kids.length:=by omega
  have ih:=a8e l hN j (i+1) (by omega)
  refine yH.eq (.pos (dec_lt hi) (.pos (aHL hi) ?_))
  rw[gT hi,List.drop_eq_getElem_cons hi,List.all_cons,xB (show i≤big by omega),ih,xC,iA]
  by_cases h0:l.kids[i].op=0
  ·simp only[a2N h0,aJV h0,Bool.true_and,Bool.false_eq_true,if_false];exact .some rfl
  ·simp only[aPR h0,xH h0,Bool.false_and,Bool.false_eq_true,if_false,if_true];exact .some rfl
theorem a5t (l:dA) (hN:l.kids.length≤big) (a:Int):(eA T).pc aNH [l.row,[.int a]]=some (if aOX l a=true then [uC,[.bool true]]else [l.row,[.bool false]]):=by
 rw[aZq];unfold aR3 aOX
 refine yH.eq ?_
 refine .bind (R:=fun r=>r=(0,[.r [.dp l.row],.r [.bool (!(a==0&&(l.op==2 ||(l.op==14 ||(l.op==13&&l.name==[])))))],.r uC])) ?_ ?_
 ·simp only[xC,sG,iA,rA,bne]
  rcases Bool.eq_false_or_eq_true (a==0)with x1 |x1<;>rcases Bool.eq_false_or_eq_true (l.op==2)with x2 |x2<;>rcases Bool.eq_false_or_eq_true (l.op==14)with x3 |x3<;>rcases Bool.eq_false_or_eq_true (l.op==13)with x4 |x4<;>rcases Bool.eq_false_or_eq_true (l.name==[])with x5 |x5<;>
   simp only[x1,x2,x3,x4,x5,Bool.not_true,Bool.not_false,Bool.and_true,Bool.and_false,Bool.true_and,Bool.false_and,Bool.or_true,Bool.or_false,Bool.true_or,Bool.false_or,Bool.false_eq_true,if_true,if_false]<;>exact .some rfl
 rintro r rfl
 simp only[cC,zB,uB,dB,if_true,sA,oD,eD,vC,dA.gD,List.length_map]
 cases (a==0&&(l.op==2 ||(l.op==14 ||(l.op==13&&l.name==[]))))with
 |false=>exact .some rfl
 |true=>
  have hl:=a8e l hN l.kids.length 0 (by omega)
  rw[List.drop_zero,show ((0:Nat):Int)=0 from rfl]at hl
  rw[hl]
  simp only[Bool.not_true,Bool.false_eq_true,if_false,Bool.true_and]
  cases (l.kids.all fun k=>k.op==0)with
  |true=>exact .some rfl
  |false=>exact .some rfl
theorem a0V (a b:dA) (ha:a.wf) (hb:b.wf) (hN:a.v.fB≤big):(eA T).pc aJw [a.row,b.row]=some [[.bool (aGV a b)]]:=by
 have hs:=aSr a.v b.v (dA.bDp ha) (dA.bDp hb) hN
 rw[aZw a |>.symm,aZw b |>.symm]at hs
 rw[aVr];unfold aNG aGV
 simp only[xC,sG,vR,aK7,aIi,aQd,aNg,aNh,iA,rA]
 have n1:∀{x y:Int},a.op=x→x≠y→¬a.op=y:=fun h k e=>k (h.symm.trans e)
 by_cases a9:a.op=9
 ·have n16:¬a.op=16:=n1 a9 (by omega)
  have n5:¬a.op=5:=n1 a9 (by omega)
  by_cases b10:b.op=10
  ·rw[if_pos ⟨a9,b10⟩]
   simp only[aJV a9,aJV b10,if_true,Option.bind_some,cC,zB,eC,uB,dB,sA,xC,sG,vR,aK7,iA,rA]
   cases (a.name==b.name)<;>cases (a.to==b.to)<;>cases (a.sep==b.sep)<;>rfl
  ·rw[if_neg (fun h=>b10 h.2),if_neg (fun h=>n16 h.1),if_neg (fun h=>n5 h.1)]
   simp only[aJV a9,xH b10,xH n16,xH n5,if_true,Bool.false_eq_true,if_false,Option.bind_some,cC,zB,eC,uB,dB,sA,xC,iA]
 rw[if_neg (fun h=>a9 h.1)]
 by_cases a16:a.op=16
 ·have n5:¬a.op=5:=n1 a16 (by omega)
  by_cases b17:b.op=17
  ·rw[if_pos ⟨a16,b17⟩]
   simp only[xH a9,aJV a16,aJV b17,if_true,Bool.false_eq_true,if_false,Option.bind_some,cC,zB,eC,uB,dB,sA,xC,sG,iA,rA]
  ·rw[if_neg (fun h=>b17 h.2),if_neg (fun h=>n5 h.1)]
   simp only[xH a9,aJV a16,xH b17,xH n5,if_true,Bool.false_eq_true,if_false,Option.bind_some,cC,zB,eC,uB,dB,sA,xC,iA]
 rw[if_neg (fun h=>a16 h.1)]
 by_cases a5:a.op=5
 ·by_cases b4:b.op=4
  ·rw[if_pos ⟨a5,b4⟩]
   simp only[xH a9,xH a16,aJV a5,aJV b4,if_true,Bool.false_eq_true,if_false,Option.bind_some,cC,zB,eC,uB,dB,sA,xC,sG,aIi,aQd,aNg,aNh,iA,rA,hs,cA,gA,jA]
   cases (a.name==b.name)<;>rfl
  ·rw[if_neg (fun h=>b4 h.2)]
   simp only[xH a9,xH a16,aJV a5,xH b4,if_true,Bool.false_eq_true,if_false,Option.bind_some,cC,zB,eC,uB,dB,sA,xC,iA]
 ·rw[if_neg (fun h=>a5 h.1)]
  simp only[xH a9,xH a16,xH a5,Bool.false_eq_true,if_false,Option.bind_some,cC,zB,eC,uB,dB,sA,if_true,xC,iA]
def aSs (a b:dA) (rule:Int):List Row:=match aC7 a b rule with
 |some by'=>[[if rule=6 then .sl [b.row]else nK true (by'.map dA.row)],[.bool true]]
 |none=>[[if rule=6 then .sl [b.row]else .bA],[.bool false]]
theorem aG6 {l:dA} (h:l.kids≠[]):((0:Int)≤0∧0<(((at_ l.row 13).rows).length:Int))∧aA ((at_ l.row 13).rows) 0=(l.kids.headD nE).row:=by
 rw[vC,dA.gD,List.length_map]
 cases hk:l.kids with
 |nil=>exact absurd hk h
 |cons k r=>exact ⟨⟨by omega,by simp<;>omega⟩,rfl⟩
theorem aPS (op:Int) (name:Bytes) (a b:dA):(merged op name a b).row=[.int op,.str name,.str [],.bA,.int 0,.int 0,.int 0,.int 0,.int 0,.int 0,.str [],.bA,.bA,.sl [[.int 1,.str [],.str [],.bA,.int 0,.int 0,.int 0,.int 0,.int 0,.int 0,.str [],.bA,.bA,.sl [(a.kids.headD nE).row,(b.kids.headD nE).row]]]]:=by
 unfold merged
 rw[aUm,List.map_cons,List.map_nil,aUm]
 rfl
theorem a8f (a b:dA) (rule:Int) (ha:a.wf) (hb:b.wf) (hN:a.v.fB≤big) (hka:a.op=2∨a.op=13→a.kids≠[]) (hkb:b.op=2∨b.op=13→b.kids≠[]):(eA T).pc aPE [a.row,b.row,[.int rule]]=some (aSs a b rule):=by
 rw[a0Q];unfold aVm aSs aC7
 simp only[xC,sG,vR,iA,rA]
 by_cases h3:rule=3
 ·subst h3
  simp only[beq_self_eq_true,if_true]
  by_cases x1:a.op=3
  ·by_cases x2:b.op=3
   ·by_cases x3:a.to=b.name
    ·by_cases x4:a.name=b.to
     ·simp only[x1,x2,x3,x4,bne_self_eq_false,beq_self_eq_true,Bool.not_true,Bool.false_eq_true,if_false,if_true,Option.bind_some,cC,zB,eC,uB,dB,sA,xC,sG,vR,iA,rA,and_self,List.map_nil,aYy]
      try rfl
     ·simp only[x1,x2,x3,xH x4,x4,bne_self_eq_false,beq_self_eq_true,Bool.not_true,Bool.false_eq_true,if_false,if_true,Option.bind_some,cC,zB,eC,uB,dB,sA,xC,sG,vR,iA,rA,and_self]
      try rfl
    ·simp only[x1,x2,x3,xH x3,bne_self_eq_false,Bool.not_false,Bool.false_eq_true,if_false,if_true,Option.bind_some,cC,zB,and_false]
     try rfl
   ·simp only[x1,x2,aPR x2,bne_self_eq_false,Bool.false_eq_true,if_false,if_true,Option.bind_some,cC,zB,and_false,false_and]
    try rfl
  ·simp only[x1,aPR x1,if_true,Option.bind_some,cC,zB,false_and,if_false]
   try rfl
 by_cases h4:rule=4
 ·subst h4
  have e3:((4:Int)==3)=false:=rfl
  simp only[e3,h3,Bool.false_eq_true,if_false,beq_self_eq_true,if_true]
  by_cases x1:a.op=2
  ·by_cases x2:b.op=2
   ·by_cases x3:a.name=b.name
    ·obtain ⟨p1,p2⟩:=aG6 (hka (.inl x1))
     obtain ⟨p3,p4⟩:=aG6 (hkb (.inl x2))
     simp only[x1,x2,x3,bne_self_eq_false,beq_self_eq_true,Bool.not_true,Bool.false_eq_true,if_false,if_true,Option.bind_some,cC,zB,eC,uB,dB,sA,sG,rA,and_self,p1,p2,p3,p4]
     have:=aPS 2 b.name a b
     rw[aVx (by simp),List.map_cons,List.map_nil,this]
     try rfl
    ·simp only[x1,x2,x3,xH x3,bne_self_eq_false,Bool.not_false,Bool.false_eq_true,if_false,if_true,Option.bind_some,cC,zB,and_false]
     try rfl
   ·simp only[x1,x2,aPR x2,bne_self_eq_false,Bool.false_eq_true,if_false,if_true,Option.bind_some,cC,zB,and_false,false_and]
    try rfl
  ·simp only[x1,aPR x1,if_true,Option.bind_some,cC,zB,false_and,if_false]
   try rfl
 by_cases h6:rule=6
 ·subst h6
  have e3:((6:Int)==3)=false:=rfl
  have e4:((6:Int)==4)=false:=rfl
  have n5:¬(6:Int)=5:=by omega
  simp only[e3,e4,h3,h4,n5,Bool.false_eq_true,if_false,beq_self_eq_true,if_true]
  by_cases x1:a.op=8
  ·by_cases x2:b.op=8
   ·by_cases x3:a.name=b.name
    ·simp only[x1,x2,x3,beq_self_eq_true,if_true,and_self]
    ·simp only[x1,x2,x3,xH x3,beq_self_eq_true,if_true,and_false,if_false]
   ·simp only[x1,x2,xH x2,beq_self_eq_true,if_true,false_and,and_false,if_false,Bool.false_eq_true]
  ·simp only[x1,xH x1,false_and,if_false,Bool.false_eq_true]
 by_cases h7:rule=7
 ·subst h7
  have e3:((7:Int)==3)=false:=rfl
  have e4:((7:Int)==4)=false:=rfl
  have e6:((7:Int)==6)=false:=rfl
  have n5:¬(7:Int)=5:=by omega
  simp only[e3,e4,e6,h3,h4,h6,n5,Bool.false_eq_true,if_false,beq_self_eq_true,if_true]
  by_cases x1:a.op=13
  ·by_cases x2:b.op=13
   ·by_cases x3:a.name=[]
    ·by_cases x4:b.name=[]
     ·obtain ⟨p1,p2⟩:=aG6 (hka (.inr x1))
      obtain ⟨p3,p4⟩:=aG6 (hkb (.inr x2))
      simp only[x1,x2,x3,x4,bne_self_eq_false,beq_self_eq_true,Bool.not_true,Bool.false_eq_true,if_false,if_true,Option.bind_some,cC,zB,eC,uB,dB,sA,and_self,p1,p2,p3,p4]
      have:=aPS 13 [] a b
      rw[aVx (by simp),List.map_cons,List.map_nil,this]
      try rfl
     ·simp only[x1,x2,x3,x4,xH x4,bne_self_eq_false,beq_self_eq_true,Bool.not_true,Bool.not_false,Bool.false_eq_true,if_false,if_true,Option.bind_some,cC,zB,and_false]
      try rfl
    ·simp only[x1,x2,x3,xH x3,bne_self_eq_false,Bool.not_false,Bool.false_eq_true,if_false,if_true,Option.bind_some,cC,zB,and_false,false_and]
     try rfl
   ·simp only[x1,x2,aPR x2,bne_self_eq_false,Bool.false_eq_true,if_false,if_true,Option.bind_some,cC,zB,and_false,false_and]
    try rfl
  ·simp only[x1,aPR x1,if_true,Option.bind_some,cC,zB,false_and,if_false]
   try rfl
 by_cases h5:rule=5
 ·subst h5
  have e3:((5:Int)==3)=false:=rfl
  have e4:((5:Int)==4)=false:=rfl
  have e6:((5:Int)==6)=false:=rfl
  have e7:((5:Int)==7)=false:=rfl
  simp only[e3,e4,e6,e7,h3,h4,h6,h7,Bool.false_eq_true,if_false,beq_self_eq_true,if_true,a0V a b ha hb hN,Option.bind_some,cA,gA,jA]
  cases aGV a b<;>rfl
 ·simp only[xH h3,xH h4,xH h5,xH h6,xH h7,h3,h4,h5,h6,h7,Bool.false_eq_true,if_false]
end Go.Ev.dJ
namespace Go.Ev.dJ
def ArK (l:dA):Prop:=∀k∈l.kids,k.op=2∨k.op=13→k.kids≠[]
def aZy (l:dA):Option dA→List Row
 |some o=>[o.row,[.bool true]]
 |none=>[l.row,[.bool false]]
theorem lZ {l:List dA} {i:Nat} (h:i<l.length):l.getD i nE=l[i]:=by simp[List.getD_eq_getElem?_getD,h]
theorem aXW {a b:dA} {rule:Int} {by':List dA} (h:aC7 a b rule=some by'):by'.length≤1:=by
 unfold aC7 at h
 split at h
 ·split at h
  ·injection h with h;subst h;split<;>simp
  ·cases h
 split at h
 ·split at h
  ·injection h with h;subst h;simp
  ·cases h
 split at h
 ·split at h
  ·injection h with h;subst h;simp
  ·cases h
 split at h
 ·split at h
  ·injection h with h;subst h;simp
  ·cases h
 split at h
 ·split at h
  ·injection h with h;subst h;simp
  ·cases h
 ·cases h
theorem aVy (l:dA) (h:aF l) (hA:ArK l) (rule a:Int):(eA T).pc aGN [l.row,[.int rule],[.int a]]=some (aZy l (xT l rule a)):=by
 rw[aW5];unfold aPD xT
 by_cases h2:rule=2
 ·simp only[aJV h2,if_true,if_pos h2,a5t l h.kids a,Option.bind_some]
  cases aOX l a<;>rfl
 simp only[xH h2,if_neg h2,Bool.false_eq_true,if_false]
 refine yH.eq (.bind (R:=fun r=>r=(0,[.r [.int rule],.r [.int a],.r [.dp l.row],.r [.bool (!decide (l.op=1∧0≤a∧a<(l.kids.length:Int)))],.r uC])) ?_ ?_)
 ·simp only[xC,iA,vC,dA.gD,List.length_map]
  by_cases x1:l.op=1
  ·by_cases x2:0≤a
   ·by_cases x3:a<(l.kids.length:Int)
    ·have e1:decide (a<0)=false:=by simp;omega
     have e2:decide (a≥(l.kids.length:Int))=false:=by simp;omega
     simp only[a2N x1,e1,e2,x1,x2,x3,and_self,decide_true,Bool.not_true,Bool.false_eq_true,if_false]
     exact .some rfl
    ·have e1:decide (a<0)=false:=by simp;omega
     have e2:decide (a≥(l.kids.length:Int))=true:=by simp;omega
     simp only[a2N x1,e1,e2,x1,x2,x3,and_false,decide_false,Bool.not_false,Bool.false_eq_true,if_false]
     exact .some rfl
   ·have e1:decide (a<0)=true:=by simp;omega
    simp only[a2N x1,e1,x1,x2,and_false,false_and,decide_false,Bool.not_false,Bool.false_eq_true,if_false]
    exact .some rfl
  ·simp only[aPR x1,x1,false_and,decide_false,Bool.not_false,if_true]
   exact .some rfl
 rintro r rfl
 simp only[cC,zB,eC,uB,wC,qC,dB,sA,if_true]
 by_cases hc:l.op=1∧0≤a∧a<(l.kids.length:Int)
 ·simp only[decide_eq_true hc,Bool.not_true,Bool.false_eq_true,if_false,if_pos hc]
  obtain ⟨n,rfl⟩:=Int.eq_ofNat_of_zero_le hc.2.1
  have hn:n<l.kids.length:=by omega
  rw[vC,if_pos (aHL hn),gT hn,xC,iA,Int.toNat_natCast,lZ hn]
  have hko:=h.kid (List.getElem_mem hn)
  by_cases h0:rule=0
  ·simp only[aJV h0,if_pos h0,if_true]
   by_cases x1:l.kids[n].op=1
   ·rw[if_pos x1,if_pos (aJV x1)]
    have e:(eA T).pc fK [l.row,[.int (n:Int)],[.int 1],[at_ l.kids[n].row 13]]=_:=aMv l n 1 (by omega) (by omega) l.kids[n].kc l.kids[n].kids (a0T _) h.kids hko.kids
    rw[e];exact .some rfl
   ·rw[if_neg x1,if_neg (by rw[xH x1];simp)];exact .some rfl
  simp only[xH h0,if_neg h0,Bool.false_eq_true,if_false]
  by_cases h1:rule=1
  ·simp only[aJV h1,if_pos h1,if_true]
   by_cases x1:l.kids[n].op=0
   ·rw[if_pos x1,if_pos (aJV x1)]
    have e:(eA T).pc fK [l.row,[.int (n:Int)],[.int 1],[.bA]]=_:=aMv l n 1 (by omega) (by omega) .bA [] Sl.bA h.kids (by simp)
    rw[e];exact .some rfl
   ·rw[if_neg x1,if_neg (by rw[xH x1];simp)];exact .some rfl
  simp only[xH h1,if_neg h1,Bool.false_eq_true,if_false]
  have hk:=h.kids
  rw[xB (show n≤big by omega),dA.gD,List.length_map]
  by_cases h5:n+1<l.kids.length
  ·have d1:decide (((n+1:Nat):Int)≥(l.kids.length:Int))=false:=by simp;omega
   rw[d1,if_neg (show ¬false=true by simp),if_pos (show (0:Int)≤((n+1:Nat):Int)∧((n+1:Nat):Int)<(l.kids.length:Int) by omega),if_pos (show (n:Int)+1<(l.kids.length:Int) by omega),lZ h5,←dA.gD l,gT h5]
   have hb:=(h.kid (List.getElem_mem h5))
   rw[a8f l.kids[n] l.kids[n+1] rule hko.wf hb.wf hko.v (hA _ (List.getElem_mem hn)) (hA _ (List.getElem_mem h5)),Option.bind_some]
   unfold aSs
   cases hp:aC7 l.kids[n] l.kids[n+1] rule with
   |none=>exact .some rfl
   |some by'=>
    have hl:=aXW hp
    simp only[cA,aD,gA,jA,Bool.not_true,Bool.false_eq_true,if_false,Option.map_some]
    have hsl:Sl (if rule=6 then C.sl [l.kids[n+1].row]else nK true (by'.map dA.row)) (by'.map dA.row):=by
     by_cases h6:rule=6
     ·rw[if_pos h6]
      subst h6
      unfold aC7 at hp
      rw[if_neg (by omega),if_neg (by omega),if_neg (by omega),if_pos rfl]at hp
      split at hp
      ·injection hp with hp;subst hp;exact Sl.sl _
      ·cases hp
     ·rw[if_neg h6];exact Sl.nK _ _
    have e:(eA T).pc fK [l.row,[.int (n:Int)],[.int 2],[if rule=6 then C.sl [l.kids[n+1].row]else nK true (by'.map dA.row)]]=_:=aMv l n 2 (by omega) (by omega) _ by' hsl h.kids (by unfold big;omega)
    rw[e];exact .some rfl
  ·have d1:decide (((n+1:Nat):Int)≥(l.kids.length:Int))=true:=by simp;omega
   rw[d1,if_pos (show true=true from rfl),if_neg (show ¬(n:Int)+1<(l.kids.length:Int) by omega)]
   exact .some rfl
 ·simp only[decide_eq_false hc,Bool.not_false,if_true,if_neg hc]
  exact .some rfl
theorem aG7 (a new:List Row):wE (nK true a) new=nK true (a++new):=by
 cases a with
 |nil=>cases new<;>rfl
 |cons x r=>rfl
theorem aRf (p q:List Int):mB (p++q)=mB p++mB q:=List.map_append
theorem iP (p:List Int):(mB p).length=p.length:=List.length_map _
theorem bEb (p:List Int) (hp:p.length≤big):(eA T).pc aBd [[nK true (mB p)]]=some [[nK true (mB p)]]:=by
 rw[aOC];unfold aDH
 cases p with
 |nil=>rfl
 |cons i r=>
  rw[if_neg (by show ¬(C.sl _).isNil=true;simp[C.isNil]),if_pos (by rw[kC,iP];unfold big at hp;simp at hp⊢;omega)]
  rfl
theorem bAa (p:List Int) (hp:p.length≤big):(eA T).ic zS [.r [nK true (mB p)]]=some [.r [nK true (mB p)]]:=by
 rw[aKJ];unfold fX
 cases p with
 |nil=>rfl
 |cons i r=>
  rw[if_neg (by show ¬(C.sl _).isNil=true;simp[C.isNil]),if_pos (by rw[kC,iP];unfold big at hp;simp at hp⊢;omega)]
  rfl
def ArA (l:dA):Prop:=∀x∈nodes l,x.op=2∨x.op=13→x.kids≠[]
theorem aSt {l k x:dA} (hk:k∈l.kids) (hx:x∈nodes k):x∈nodes l:=by
 rw[nodes_eq]
 have:∀ks:List dA,k∈ks→x∈yB ks:=by
  intro ks
  induction ks with
  |nil=>intro h;cases h
  |cons a r ih=>
   intro h
   simp only[yB,List.mem_append]
   rcases List.mem_cons.1 h with rfl |h
   ·exact .inl hx
   ·exact .inr (ih h)
 exact List.mem_cons_of_mem _ (this _ hk)
theorem aPT (l:dA):l∈nodes l:=by rw[nodes_eq];exact List.mem_cons_self
theorem ArA.kid {l k:dA} (h:ArA l) (hk:k∈l.kids):ArA k:=fun x hx=>h x (aSt hk hx)
theorem ArA.kids {l:dA} (h:ArA l):ArK l:=fun k hk=>h k (aSt hk (aPT k))
def aC9 (p:List Int):Option (List Int×Nat)→List Row
 |some (q,a)=>[[nK true (mB (p++q))],[.int (a:Int)],[.bool true]]
 |none=>[[.bA],[.int 0],[.bool false]]
theorem a35 (l:dA) (h:aF l) (hA:ArK l) (rule:Int) (p:List Int) (hp:p.length≤big) (m:Nat) (hm:m≤big):∀(j i:Nat),i+j=m→
 aGL (eA T) rule (nK true (mB p)) (.dp l.row) (m:Int) (i:Int)=some (match aNQ (fun a=>(xT l rule (a:Int)).isSome) i j with
  |some a=>(1,[.r [nK true (mB p)],.r [.int (a:Int)],.r [.bool true]])
  |none=>(0,[.r [.int rule],.r [nK true (mB p)],.r [.dp l.row]]))
 |0,i,hh=>by
  rw[aMT];unfold aGM
  obtain rfl:i=m:=by omega
  rw[if_neg (by simp)];rfl
 |j+1,i,hh=>by
  rw[aMT];unfold aGM
  have ih:=a35 l h hA rule p hp m hm j (i+1) (by omega)
  rw[if_pos (decide_eq_true (show (i:Int)<(m:Int) by omega)),if_pos (dB l.row),sA,aVy l h hA,Option.bind_some,aNQ]
  cases xT l rule (i:Int)with
  |some o=>
   simp only[aZy,aD,cA,gA,jA,if_true,Option.isSome_some,bEb p hp,Option.bind_some]
  |none=>
   simp only[aZy,aD,cA,gA,jA,Bool.false_eq_true,if_false,Option.isSome_none,xB (show i≤big by omega),ih]
theorem a36 (l:dA) (h:aF l) (rule:Int) (p:List Int) (hp:p.length+1≤big) (hc:∀k∈l.kids,∀i:Int,(eA T).pc gX [k.row,[.int rule],[nK true (mB (p++[i]))]]=some (aC9 (p++[i]) (aAp rule k))):∀(j i:Nat),i+j=l.kids.length→
 aGP (eA T) rule (nK true (mB p)) l.kc (l.kids.length:Int) (i:Int)=some (match aMV rule i (l.kids.drop i)with
  |some (q,a)=>(1,[.r [nK true (mB (p++q))],.r [.int (a:Int)],.r [.bool true]])
  |none=>(0,[]))
 |0,i,hh=>by
  rw[aMU];unfold aGQ
  obtain rfl:i=l.kids.length:=by omega
  rw[if_neg (by simp),List.drop_length];rfl
 |j+1,i,hh=>by
  rw[aMU];unfold aGQ
  have hi:i<l.kids.length:=by omega
  have hk:=h.kids
  have ih:=a36 l h rule p hp hc j (i+1) (by omega)
  rw[if_pos (dec_lt hi),if_pos (aHL hi),bAa p (by omega),Option.bind_some,uB,kC,iP,if_pos (by simp;unfold big at hp;omega),aG7,gT hi,List.drop_eq_getElem_cons hi,aMV]
  have e:mB p++[[C.int (i:Int)]]=mB (p++[(i:Int)]):=by rw[aRf];rfl
  rw[e,hc _ (List.getElem_mem hi),Option.bind_some]
  cases aAp rule l.kids[i]with
  |some q=>
   obtain ⟨q,a⟩:=q
   simp only[aC9,aD,cA,gA,jA,iA,if_true,List.append_assoc,List.cons_append,List.nil_append]
  |none=>
   simp only[aC9,aD,cA,gA,jA,Bool.false_eq_true,if_false,xB (show i≤big by omega),ih]
theorem a38 (n:Nat):(if (n:Int)>1 then (n:Int)else 1)=((max 1 n:Nat):Int):=by
 split<;>omega
theorem find_spec (rule:Int) (l:dA) (h:aF l) (hA:ArA l) (p:List Int) (hp:p.length+l.fB≤big):(eA T).pc gX [l.row,[.int rule],[nK true (mB p)]]=some (aC9 p (aAp rule l)):=by
 have hbp:=l.aNe
 have aBk:∀k∈l.kids,∀i:Int,(eA T).pc gX [k.row,[.int rule],[nK true (mB (p++[i]))]]=some (aC9 (p++[i]) (aAp rule k)):=fun k hk i=>by
  have:=dA.sD hk
  have:=dA.aEP hk
  exact find_spec rule k (h.kid hk) (hA.kid hk) (p++[i]) (by simp;omega)
 have hk:=h.kids
 rw[aZr];unfold aR4
 rw[vC,dA.gD,List.length_map,a38]
 have e0:=a35 l h hA.kids rule p (by omega) (max 1 l.kids.length) (by unfold big at*;omega) (max 1 l.kids.length) 0 (by omega)
 have e1:=a36 l h rule p (by omega) aBk l.kids.length 0 (by omega)
 rw[List.drop_zero]at e1
 rw[show ((0:Nat):Int)=0 from rfl]at e0 e1
 rw[e0,aRe]
 show _=some (aC9 p (match aNQ (fun a=>(xT l rule (a:Int)).isSome) 0 (max 1 l.kids.length)with |some a=>some ([],a)|none=>aMV rule 0 l.kids))
 cases aNQ (fun a=>(xT l rule (a:Int)).isSome) 0 (max 1 l.kids.length)with
 |some a=>
  simp only[Option.bind_some,uB,wC,qC,cC,zB,aC9,List.append_nil]
 |none=>
  simp only[Option.bind_some,eC,uB,wC,qC,dB,sA,if_true,vC,dA.gD,List.length_map,e1]
  cases aMV rule 0 l.kids with
  |some q=>
   obtain ⟨q,a⟩:=q
   simp only[Option.bind_some,uB,wC,qC,cC,zB,aC9]
  |none=>simp only[Option.bind_some,aC9]
 termination_by SizeOf.sizeOf l
def aAq (p:List Int) (r a:Nat):Row:=[nK true (mB p),.int (r:Int),.int (a:Int)]
def aNT:Option (List Int×Nat×Nat)→List Row
 |some (p,r,a)=>[aAq p r a,[.bool true]]
 |none=>[[.bA,.int 0,.int 0],[.bool false]]
theorem a39 (l:dA) (h:aF l) (hA:ArA l):∀(j i:Nat),i+j=8→
 aEI (eA T) (.dp l.row) (i:Int) [.bA,.int 0,.int 0]=some (match aHK l i j with
  |some (p,r,a)=>(1,[.r [.bool true],.r (aAq p r a)])
  |none=>(0,[.r [.bA,.int 0,.int 0]]))
 |0,i,hh=>by
  rw[aKK];unfold aEJ
  obtain rfl:i=8:=by omega
  rfl
 |j+1,i,hh=>by
  rw[aKK];unfold aEJ
  have ih:=a39 l h hA j (i+1) (by omega)
  have e:(eA T).pc gX [l.row,[.int (i:Int)],[.bA]]=_:=find_spec (i:Int) l h hA [] (by have:=h.fB;simpa using this)
  rw[if_pos (decide_eq_true (show (i:Int)<8 by omega)),if_pos (dB l.row),sA,e,Option.bind_some,aHK]
  cases aAp (i:Int) l with
  |some q=>
   obtain ⟨q,a⟩:=q
   simp only[aC9,aD,cA,gA,jA,iA,if_true,List.nil_append,aAq]
  |none=>
   simp only[aC9,aD,cA,gA,jA,Bool.false_eq_true,if_false,xB (show i≤big by unfold big;omega),ih]
theorem a2O (l:dA) (h:aF l) (hA:ArA l):(eA T).pc aT [l.row]=some (aNT (aNR l)):=by
 rw[aW6];unfold aPF aNR
 have e:=a39 l h hA 8 0 (by omega)
 rw[show ((0:Nat):Int)=0 from rfl]at e
 rw[e]
 cases aHK l 0 8 with
 |some q=>
  obtain ⟨p,r,a⟩:=q
  simp only[Option.bind_some,oD,eD,zB,aNT]
 |none=>simp only[Option.bind_some,aNT]
end Go.Ev.dJ
namespace Go.Ev.dJ
theorem aRg {c0 c:C} {ks by':List Row} (h0:Sl c0 ks) (hc:Sl c by') (a n:Nat) (h:a+n≤ks.length) (hn:n≤2) (hN:ks.length≤big) (hB:by'.length≤big):
 ∃c',(eA T).pc iD [[c0],[.int (a:Int)],[.int (n:Int)],[c]]=some [[c']]∧Sl c' (ks.take a++by'++ks.drop (a+n)):=by
 rw[aFV];unfold lO
 have h1:=h0.slc 0 (a:Int)
 rw[Int.toNat_natCast,show (0:Int).toNat=0 from rfl,List.drop_zero]at h1
 have h2:=Sl.bA.app (eR c0 0 (a:Int)).rows
 rw[h1.1,List.nil_append]at h2
 have h3:=h2.app by'
 have h4:=h0.slc ((a+n:Nat):Int) (ks.length:Int)
 rw[Int.toNat_natCast,Int.toNat_natCast,List.take_of_length_le (by simp)]at h4
 have h5:=h3.app (ks.drop (a+n))
 rw[h0.1,if_pos ⟨by omega,by omega,by omega⟩,h1.1,if_pos (by simp;unfold big at hN;omega),h2.1,hc.1,if_pos (by simp;unfold big at hN hB;omega),bCo (by omega) hn,if_pos ⟨by omega,by omega,by omega⟩,h3.1,h4.1,if_pos (by simp;unfold big at hN hB;omega)]
 exact ⟨_,rfl,h5⟩
theorem aOn (k:Int) (a b:dA):(eA T).pc mE ([[.int k]]++[[.dp a.row],[.dp b.row]])=some [[.bool (a.op==k&&b.op==k)]]:=by
 refine (aJS k (.dp a.row) (.dp b.row)).trans ?_
 unfold iU
 simp only[dB,sA,if_true,xC,iA]
 cases (a.op==k)<;>rfl
theorem aTb (a b:dA) (ha:a.kids≠[]) (hb:b.kids≠[]):(eA T).pc jL ([]++[[.dp a.row],[.dp b.row]])=some [[.sl [(merged a.op a.name a b).row]]]:=by
 refine (aJT (.dp a.row) (.dp b.row)).trans ?_
 unfold jU
 obtain ⟨p1,p2⟩:=aG6 ha
 obtain ⟨p3,p4⟩:=aG6 hb
 simp only[dB,sA,if_true,p1,p2,p3,p4,xC,sG,iA,rA,and_self]
 rw[aPS]
theorem bJK (a b x y:Int):ceq [.int .i64,.int .i64] [.int a,.int b] [.int x,.int y]=(a==x&&b==y):=by
 simp only[ceq,gA,iA,List.drop_succ_cons,List.drop_zero,Bool.and_true]
theorem aTX (a b:dA) (rule:Int) (ha:a.wf) (hb:b.wf) (hN:a.v.fB≤big) (hka:a.op=2∨a.op=13→a.kids≠[]) (hkb:b.op=2∨b.op=13→b.kids≠[]):(eA T).pc mU [a.row,b.row,[.int rule]]=some (aSs a b rule):=by
 rw[aMu];unfold o8 aSs aC7
 by_cases h3:rule=3
 ·subst h3
  simp only[beq_self_eq_true,if_true,aOn,Option.bind_some,cA,gA,jA,xC,sG,vR,iA,rA]
  by_cases x1:a.op=3
  ·by_cases x2:b.op=3
   ·by_cases x3:a.to=b.name
    ·by_cases x4:a.name=b.to
     ·simp only[x1,x2,x3,x4,Bool.and_self,bne_self_eq_false,beq_self_eq_true,Bool.not_true,Bool.false_eq_true,if_false,if_true,Option.bind_some,cC,zB,eC,uB,dB,sA,xC,sG,vR,iA,rA,and_self,List.map_nil,aYy]
      try rfl
     ·have x5:¬b.to=a.name:=fun e=>x4 e.symm
      simp only[x1,x2,x3,xH x5,x4,Bool.and_self,bne_self_eq_false,beq_self_eq_true,Bool.not_true,Bool.false_eq_true,if_false,if_true,Option.bind_some,cC,zB,eC,uB,dB,sA,xC,sG,vR,iA,rA,and_self]
      try rfl
    ·simp only[x1,x2,x3,xH x3,Bool.and_self,beq_self_eq_true,Bool.not_true,Bool.not_false,Bool.false_eq_true,if_false,if_true,Option.bind_some,cC,zB,eC,uB,and_false]
     try rfl
   ·simp only[x1,x2,xH x2,Bool.and_false,Bool.not_false,if_false,if_true,Option.bind_some,cC,zB,eC,uB,and_false,false_and]
    try rfl
  ·simp only[x1,xH x1,Bool.false_and,Bool.not_false,if_true,Option.bind_some,cC,zB,eC,uB,false_and,if_false]
   try rfl
 by_cases h4:rule=4
 ·subst h4
  have e3:((4:Int)==3)=false:=rfl
  simp only[e3,h3,Bool.false_eq_true,if_false,beq_self_eq_true,if_true,aOn,Option.bind_some,cA,gA,jA,xC,sG,iA,rA]
  by_cases x1:a.op=2
  ·by_cases x2:b.op=2
   ·by_cases x3:a.name=b.name
    ·have hm:=aTb a b (hka (.inl x1)) (hkb (.inl x2))
     simp only[x1,x2,x3,Bool.and_self,beq_self_eq_true,if_true,hm,Option.bind_some,cA,gA,cC,zB,eC,uB,and_self]
     rw[aVx (by simp),List.map_cons,List.map_nil]
     try rfl
    ·simp only[x1,x2,x3,xH x3,Bool.and_self,beq_self_eq_true,Bool.false_eq_true,if_false,if_true,Option.bind_some,and_false]
     try rfl
   ·simp only[x1,x2,xH x2,Bool.and_false,Bool.false_eq_true,if_false,Option.bind_some,and_false,false_and]
    try rfl
  ·simp only[x1,xH x1,Bool.false_and,Bool.false_eq_true,if_false,Option.bind_some,false_and]
   try rfl
 by_cases h5:rule=5
 ·subst h5
  have e3:((5:Int)==3)=false:=rfl
  have e4:((5:Int)==4)=false:=rfl
  have n6:¬(5:Int)=6:=by omega
  have hs:=aDY a.v b.v hN
  rw[aZw a |>.symm,aZw b |>.symm]at hs
  simp only[e3,e4,h3,h4,n6,Bool.false_eq_true,if_false,beq_self_eq_true,if_true,xC,sG,vR,aK7,aIi,aQd,aNg,aNh,iA,rA,bJK,hs,Option.bind_some,cA,gA,jA]
  unfold aGV
  by_cases c1:a.op=9∧b.op=10
  ·simp only[c1.1,c1.2,beq_self_eq_true,Bool.and_self,if_true,and_self]
   rcases Bool.eq_false_or_eq_true (a.name==b.name)with y0 |y0<;>rcases Bool.eq_false_or_eq_true (a.to==b.to)with y1 |y1<;>rcases Bool.eq_false_or_eq_true (a.sep==b.sep)with y2 |y2<;>
    simp only[y0,y1,y2,Bool.not_true,Bool.not_false,Bool.and_true,Bool.and_false,Bool.true_and,Bool.false_and,Bool.false_eq_true,if_true,if_false,Option.bind_some,cC,zB,eC,uB]<;>try rfl
  have d1:(a.op==9&&b.op==10)=false:=by
   cases h:(a.op==9&&b.op==10)with
   |false=>rfl
   |true=>exact absurd (by simpa using h) c1
  by_cases c2:a.op=16∧b.op=17
  ·rw[if_neg c1]
   simp only[d1,c2.1,c2.2,beq_self_eq_true,Bool.and_self,if_true,Bool.false_eq_true,if_false,and_self]
   rcases Bool.eq_false_or_eq_true (a.name==b.name)with y0 |y0<;>
    simp only[y0,Bool.not_true,Bool.not_false,Bool.and_true,Bool.and_false,Bool.true_and,Bool.false_and,Bool.false_eq_true,if_true,if_false,Option.bind_some,cC,zB,eC,uB]<;>try rfl
  have d2:(a.op==16&&b.op==17)=false:=by
   cases h:(a.op==16&&b.op==17)with
   |false=>rfl
   |true=>exact absurd (by simpa using h) c2
  by_cases c3:a.op=5∧b.op=4
  ·rw[if_neg c1,if_neg c2]
   simp only[d1,d2,c3.1,c3.2,beq_self_eq_true,Bool.and_self,if_true,Bool.false_eq_true,if_false,and_self]
   rcases Bool.eq_false_or_eq_true (a.name==b.name)with y0 |y0<;>rcases Bool.eq_false_or_eq_true (a.v.eqv b.v)with y1 |y1<;>
    simp only[y0,y1,Bool.not_true,Bool.not_false,Bool.and_true,Bool.and_false,Bool.true_and,Bool.false_and,Bool.false_eq_true,if_true,if_false,Option.bind_some,cC,zB,eC,uB]<;>try rfl
  have d3:(a.op==5&&b.op==4)=false:=by
   cases h:(a.op==5&&b.op==4)with
   |false=>rfl
   |true=>exact absurd (by simpa using h) c3
  rw[if_neg c1,if_neg c2,if_neg c3]
  simp only[d1,d2,d3,Bool.false_eq_true,if_false]
  try rfl
 by_cases h6:rule=6
 ·subst h6
  have e3:((6:Int)==3)=false:=rfl
  have e4:((6:Int)==4)=false:=rfl
  have e5:((6:Int)==5)=false:=rfl
  simp only[e3,e4,e5,h3,h4,h5,Bool.false_eq_true,if_false,beq_self_eq_true,if_true,aOn,Option.bind_some,cA,gA,jA,sG,rA]
  by_cases x1:a.op=8
  ·by_cases x2:b.op=8
   ·by_cases x3:a.name=b.name
    ·simp only[x1,x2,x3,Bool.and_self,beq_self_eq_true,if_true,and_self,Option.bind_some]
     try rfl
    ·simp only[x1,x2,x3,xH x3,Bool.and_self,beq_self_eq_true,if_true,and_false,if_false,Option.bind_some]
     try rfl
   ·simp only[x1,x2,xH x2,Bool.and_false,false_and,and_false,if_false,Bool.false_eq_true,Option.bind_some]
    try rfl
  ·simp only[x1,xH x1,Bool.false_and,false_and,if_false,Bool.false_eq_true,Option.bind_some]
   try rfl
 by_cases h7:rule=7
 ·subst h7
  have e3:((7:Int)==3)=false:=rfl
  have e4:((7:Int)==4)=false:=rfl
  have e5:((7:Int)==5)=false:=rfl
  have e6:((7:Int)==6)=false:=rfl
  simp only[e3,e4,e5,e6,h3,h4,h5,h6,Bool.false_eq_true,if_false,beq_self_eq_true,if_true,aOn,Option.bind_some,cA,gA,jA,sG,rA]
  by_cases x1:a.op=13
  ·by_cases x2:b.op=13
   ·by_cases x3:a.name=[]
    ·by_cases x4:b.name=[]
     ·have hm:=aTb a b (hka (.inr x1)) (hkb (.inr x2))
      simp only[x1,x2,x3,x4,Bool.and_self,beq_self_eq_true,if_true,hm,Option.bind_some,cA,gA,cC,zB,eC,uB,and_self]
      rw[aVx (by simp),List.map_cons,List.map_nil]
      try rfl
     ·simp only[x1,x2,x3,x4,xH x4,Bool.and_self,beq_self_eq_true,Bool.false_eq_true,if_false,if_true,Option.bind_some,and_false]
      try rfl
    ·simp only[x1,x2,x3,xH x3,Bool.and_self,beq_self_eq_true,Bool.false_eq_true,if_false,if_true,Option.bind_some,and_false,false_and]
     try rfl
   ·simp only[x1,x2,xH x2,Bool.and_false,Bool.false_eq_true,if_false,Option.bind_some,and_false,false_and]
    try rfl
  ·simp only[x1,xH x1,Bool.false_and,Bool.false_eq_true,if_false,Option.bind_some,false_and]
   try rfl
 ·simp only[xH h3,xH h4,xH h5,xH h6,xH h7,h3,h4,h5,h6,h7,Bool.false_eq_true,if_false,Option.bind_some]
def aPU (l:dA) (rule:Int):Option dA→List Row
 |some o=>[o.row,[.bool true]]
 |none=>[if rule=2 then uC else l.row,[.bool false]]
theorem a8g (l:dA) (hN:l.kids.length≤big):∀(j i:Nat) (b:Bool),i+j=l.kids.length→
 aAN (eA T) b l.kc (l.kids.length:Int) (i:Int) uC=some (0,[.r [.bool (b&&(l.kids.drop i).all (fun k=>k.op==0))],.r uC])
 |0,i,b,hh=>by
  rw[aHG];unfold aAO
  obtain rfl:i=l.kids.length:=by omega
  rw[List.drop_length,if_neg (by simp)]
  simp
 |j+1,i,b,hh=>by
  rw[aHG];unfold aAO
  have hi:i<l.kids.length:=by omega
  rw[if_pos (dec_lt hi),if_pos (aHL hi),gT hi,List.drop_eq_getElem_cons hi,List.all_cons,xC,iA,xB (show i≤big by omega)]
  cases b with
  |true=>
   have ih:=a8g l hN j (i+1) (l.kids[i].op==0) (by omega)
   simp only[if_true,ih,Bool.true_and]
  |false=>
   have ih:=a8g l hN j (i+1) false (by omega)
   simp only[Bool.false_eq_true,if_false,ih,Bool.false_and]
theorem a8h (l:dA) (h:aF l) (hA:ArK l) (rule a:Int):(eA T).pc aHC [l.row,[.int rule],[.int a]]=some (aPU l rule (xT l rule a)):=by
 rw[aTV];unfold aMj xT
 by_cases h2:rule=2
 ·simp only[aJV h2,if_true,if_pos h2]
  unfold aOX
  refine yH.eq (.bind (R:=fun r=>r=(0,[.r [.dp l.row],.r [.bool (a==0&&(l.op==2 ||(l.op==14 ||(l.op==13&&l.name==[]))))],.r uC])) ?_ ?_)
  ·simp only[xC,sG,iA,rA]
   rcases Bool.eq_false_or_eq_true (a==0)with x1 |x1<;>rcases Bool.eq_false_or_eq_true (l.op==2)with x2 |x2<;>rcases Bool.eq_false_or_eq_true (l.op==14)with x3 |x3<;>rcases Bool.eq_false_or_eq_true (l.op==13)with x4 |x4<;>rcases Bool.eq_false_or_eq_true (l.name==[])with x5 |x5<;>
    simp only[x1,x2,x3,x4,x5,Bool.not_true,Bool.not_false,Bool.and_true,Bool.and_false,Bool.true_and,Bool.false_and,Bool.or_true,Bool.or_false,Bool.true_or,Bool.false_or,Bool.false_eq_true,if_true,if_false]<;>exact .some rfl
  rintro r rfl
  have hl:=a8g l h.kids l.kids.length 0 (a==0&&(l.op==2 ||(l.op==14 ||(l.op==13&&l.name==[])))) (by omega)
  rw[List.drop_zero,show ((0:Nat):Int)=0 from rfl]at hl
  simp only[cC,zB,uB,dB,if_true,sA,oD,eD,vC,dA.gD,List.length_map,hl,Option.bind_some]
  cases (a==0&&(l.op==2 ||(l.op==14 ||(l.op==13&&l.name==[]))))&&(l.kids.all fun k=>k.op==0)with
  |true=>exact .some rfl
  |false=>
   refine .some ?_
   simp only[Bool.false_eq_true,if_false,aPU,if_pos h2]
   rfl
 simp only[xH h2,if_neg h2,Bool.false_eq_true,if_false]
 refine yH.eq (.bind (R:=fun r=>r=(0,[.r [.int rule],.r [.int a],.r [.dp l.row],.r [.bool (!decide (l.op=1∧0≤a∧a<(l.kids.length:Int)))],.r uC])) ?_ ?_)
 ·simp only[xC,iA,vC,dA.gD,List.length_map]
  by_cases x1:l.op=1
  ·by_cases x2:0≤a
   ·by_cases x3:a<(l.kids.length:Int)
    ·have e1:decide (a<0)=false:=by simp;omega
     have e2:decide (a≥(l.kids.length:Int))=false:=by simp;omega
     simp only[a2N x1,e1,e2,x1,x2,x3,and_self,decide_true,Bool.not_true,Bool.false_eq_true,if_false]
     exact .some rfl
    ·have e1:decide (a<0)=false:=by simp;omega
     have e2:decide (a≥(l.kids.length:Int))=true:=by simp;omega
     simp only[a2N x1,e1,e2,x1,x2,x3,and_false,decide_false,Bool.not_false,Bool.false_eq_true,if_false]
     exact .some rfl
   ·have e1:decide (a<0)=true:=by simp;omega
    simp only[a2N x1,e1,x1,x2,and_false,false_and,decide_false,Bool.not_false,Bool.false_eq_true,if_false]
    exact .some rfl
  ·simp only[aPR x1,x1,false_and,decide_false,Bool.not_false,if_true]
   exact .some rfl
 rintro r rfl
 simp only[cC,zB,eC,uB,wC,qC,oD,eD,dB,sA,if_true]
 by_cases hc:l.op=1∧0≤a∧a<(l.kids.length:Int)
 ·simp only[decide_eq_true hc,Bool.not_true,Bool.false_eq_true,if_false,if_pos hc]
  obtain ⟨n,rfl⟩:=Int.eq_ofNat_of_zero_le hc.2.1
  have hn:n<l.kids.length:=by omega
  rw[vC,if_pos (aHL hn),gT hn,xC,iA,Int.toNat_natCast,lZ hn]
  have hko:=h.kid (List.getElem_mem hn)
  have hk:=h.kids
  have fin:∀(m:Nat) (c:C) (by':List dA),n+m≤l.kids.length→m≤2→Sl c (by'.map dA.row)→by'.length≤big→
   ((eA T).pc iD [[l.kc],[.int (n:Int)],[.int (m:Int)],[c]]).bind (fun y20=>
     if ((((at_ (aA y20 0) 0).rows).length:Int)==0)=true then some [uC,[.bool true]]
     else if ((((at_ (aA y20 0) 0).rows).length:Int)==1)=true then
      (if (0:Int)≤0∧0<(((at_ (aA y20 0) 0).rows).length:Int)then some [aA ((at_ (aA y20 0) 0).rows) 0,[.bool true]]else none)
     else some [[.int 1,.str [],.str [],.bA,.int 0,.int 0,.int 0,.int 0,.int 0,.int 0,.str [],.bA,.bA,at_ (aA y20 0) 0],[.bool true]])=some [(aFb l.kids n m by').row,[.bool true]]:=by
   intro m c by' hm hm2 hsl hb
   obtain ⟨c',e1,e2⟩:=aRg (a0T l) hsl n m (by rw[List.length_map];exact hm) hm2 (by rw[List.length_map];exact hk) (by rw[List.length_map];exact hb)
   rw[e1,Option.bind_some]
   have e3:Sl c' ((l.kids.take n++by'++l.kids.drop (n+m)).map dA.row):=by simpa only[List.map_append,List.map_take,List.map_drop]using e2
   have e4:=a0U e3
   simp only[cA,gA]
   rcases Bool.eq_false_or_eq_true ((c'.rows.length:Int)==0)with x1 |x1<;>rcases Bool.eq_false_or_eq_true ((c'.rows.length:Int)==1)with x2 |x2<;>simp only[x1,x2,if_true,Bool.false_eq_true,if_false]at e4⊢
   ·injection e4 with e4;injection e4 with e4
    rw[e4];rfl
   ·injection e4 with e4;injection e4 with e4
    rw[e4];rfl
   ·by_cases hh:(0:Int)≤0∧0<(c'.rows.length:Int)
    ·rw[if_pos hh]at e4
     refine (if_pos hh).trans ?_
     injection e4 with e4;injection e4 with e4
     rw[e4];rfl
    ·rw[if_neg hh]at e4;cases e4
   ·injection e4 with e4;injection e4 with e4
    rw[e4];rfl
  by_cases h0:rule=0
  ·simp only[aJV h0,if_pos h0,if_true,Option.bind_some,cC,zB,eC,uB,wC,qC,dB,sA,vC]
   by_cases x1:l.kids[n].op=1
   ·rw[if_pos x1,aJV x1]
    have e:=fin 1 l.kids[n].kc l.kids[n].kids (by omega) (by omega) (a0T _) hko.kids
    exact ⟨_,e,rfl⟩
   ·rw[if_neg x1,xH x1]
    refine .some ?_
    first |rfl |(simp only[Option.map_none,aPU,if_neg h2,eC,uB,sA]<;>try rfl)
  simp only[xH h0,if_neg h0,Bool.false_eq_true,if_false]
  by_cases h1:rule=1
  ·simp only[aJV h1,if_pos h1,if_true,Option.bind_some,cC,zB,eC,uB,wC,qC,dB,sA,vC]
   by_cases x1:l.kids[n].op=0
   ·rw[if_pos x1,aJV x1]
    have e:=fin 1 .bA [] (by omega) (by omega) Sl.bA (by simp)
    exact ⟨_,e,rfl⟩
   ·rw[if_neg x1,xH x1]
    refine .some ?_
    first |rfl |(simp only[Option.map_none,aPU,if_neg h2,eC,uB,sA]<;>try rfl)
  simp only[xH h1,if_neg h1,Bool.false_eq_true,if_false]
  rw[xB (show n≤big by omega),dA.gD,List.length_map]
  by_cases h5:n+1<l.kids.length
  ·have d1:decide (((n+1:Nat):Int)<(l.kids.length:Int))=true:=by simp;omega
   rw[d1,if_pos (show true=true from rfl),if_pos (show (0:Int)≤((n+1:Nat):Int)∧((n+1:Nat):Int)<(l.kids.length:Int) by omega),if_pos (show (n:Int)+1<(l.kids.length:Int) by omega),lZ h5,←dA.gD l,gT h5]
   have hb:=(h.kid (List.getElem_mem h5))
   rw[aTX l.kids[n] l.kids[n+1] rule hko.wf hb.wf hko.v (hA _ (List.getElem_mem hn)) (hA _ (List.getElem_mem h5))]
   unfold aSs
   cases hp:aC7 l.kids[n] l.kids[n+1] rule with
   |none=>
    refine .some ?_
    first |rfl |(simp only[Option.map_none,aPU,if_neg h2,eC,uB,sA]<;>try rfl)
   |some by'=>
    have hl:=aXW hp
    simp only[cA,aD,gA,jA,Bool.not_true,Bool.false_eq_true,if_false,Option.map_some,Option.bind_some,cC,zB,eC,uB,wC,qC,dB,sA,if_true,vC]
    have hsl:Sl (if rule=6 then C.sl [l.kids[n+1].row]else nK true (by'.map dA.row)) (by'.map dA.row):=by
     by_cases h6:rule=6
     ·rw[if_pos h6]
      subst h6
      unfold aC7 at hp
      rw[if_neg (by omega),if_neg (by omega),if_neg (by omega),if_pos rfl]at hp
      split at hp
      ·injection hp with hp;subst hp;exact Sl.sl _
      ·cases hp
     ·rw[if_neg h6];exact Sl.nK _ _
    have e:=fin 2 _ by' (by omega) (by omega) hsl (by unfold big;omega)
    exact ⟨_,e,rfl⟩
  ·have d1:decide (((n+1:Nat):Int)<(l.kids.length:Int))=false:=by simp;omega
   rw[d1,if_neg (show ¬false=true by simp),if_neg (show ¬(n:Int)+1<(l.kids.length:Int) by omega)]
   refine .some ?_
   first |rfl |(simp only[Option.map_none,aPU,if_neg h2,eC,uB,sA]<;>try rfl)
 ·simp only[decide_eq_false hc,Bool.not_false,if_true,if_neg hc]
  refine .some ?_
  first |rfl |(simp only[Option.map_none,aPU,if_neg h2,eC,uB,sA]<;>try rfl)
def bG7 (r:List Row):Option dA→Prop
 |some o=>r=[o.row,[.bool true]]
 |none=>∃row,r=[row,[.bool false]]
theorem a0W (l:dA) (k:dA) (r:List dA):(aJU l (k::r)).row=[.int l.op,.str l.name,.str l.to,nK l.nb (l.names.map fF),.int l.n,.int l.low,.int l.high,.int l.sep,.int l.v.k,.int l.v.n,.str l.v.s,l.v.fc,nK l.pb (l.pairs.map tA),.sl ((k::r).map dA.row)]:=by
 have e:=dA.aZX (aJU l (k::r))
 have e2:(aJU l (k::r)).kids=k::r:=rfl
 have e3:(aJU l (k::r)).kb=true:=rfl
 rw[e2,e3,aVx (by simp)]at e
 rw[dA.row,e]
 rfl
theorem a2P {α:Type} (l:List α) (i:Nat) (x:α) (h:i<l.length):l.take i++[x]++l.drop (i+1)=l.set i x:=by
 rw[List.set_eq_take_append_cons_drop,if_pos h];simp
theorem aVz (rule a:Int):∀(p:List Int) (l:dA),aF l→ArA l→∀c:C,c.rows=mB p→∃r,(eA T).pc iZ [l.row,[c],[.int rule],[.int a]]=some r∧bG7 r (rU rule a p l)
 |[],l,h,hA,c,hc=>by
  rw[aID];unfold aC3
  rw[if_pos (by rw[hc];rfl),a8h l h hA.kids,Option.bind_some]
  refine ⟨_,rfl, ?_⟩
  unfold rU
  cases xT l rule a with
  |some o=>rfl
  |none=>exact ⟨_,rfl⟩
 |i::p,l,h,hA,c,hc=>by
  rw[aID];unfold aC3
  have hl:c.rows.length=p.length+1:=by rw[hc,iP,List.length_cons]
  have h0:(at_ (aA c.rows 0) 0).uA=i:=by rw[hc];rfl
  have hix:(0:Int)≤0∧0<(c.rows.length:Int):=⟨by omega,by rw[hl];omega⟩
  rw[if_neg (by rw[hl];simp<;>omega),if_pos hix]
  simp only[h0,hix,and_self,if_true,vC,dA.gD,List.length_map]
  unfold rU
  by_cases hi:0≤i∧i<(l.kids.length:Int)
  ·rw[if_pos hi]
   obtain ⟨n,rfl⟩:=Int.eq_ofNat_of_zero_le hi.1
   have hn:n<l.kids.length:=by omega
   have d1:decide ((n:Int)<0)=false:=decide_eq_false (by omega)
   have d2:decide ((n:Int)≥(l.kids.length:Int))=false:=by simp;omega
   simp only[d1,d2,Bool.false_eq_true,if_false,Option.bind_some,cC,zB,eC,uB,wC,qC,oD,eD,h0,hix,and_self,if_true,vC,dA.gD,List.length_map,hi]
   rw[if_pos (show (0:Int)≤1∧1≤(c.rows.length:Int)∧(c.rows.length:Int)≤(c.rows.length:Int) by rw[hl];omega),←dA.gD l,gT hn,Int.toNat_natCast,lZ hn]
   have ht:(eR c 1 (c.rows.length:Int)).rows=mB p:=a0X c _ _ hc
   obtain ⟨r,e1,e2⟩:=aVz rule a p l.kids[n] (h.kid (List.getElem_mem hn)) (hA.kid (List.getElem_mem hn)) _ ht
   have hk:=h.kids
   rw[e1,Option.bind_some]
   obtain ⟨c',e3,e4⟩:=aRg (a0T l) (Sl.sl [aA r 0]) n 1 (by rw[List.length_map];omega) (by omega) (by rw[List.length_map];exact hk) (by unfold big;simp)
   have e3':(eA T).pc iD [[l.kc],[.int (n:Int)],[.int 1],[.sl [aA r 0]]]=some [[c']]:=e3
   rw[e3',Option.bind_some]
   refine ⟨_,rfl, ?_⟩
   cases hp:rU rule a p l.kids[n]with
   |none=>
    rw[hp]at e2
    obtain ⟨row,rfl⟩:=e2
    exact ⟨_,rfl⟩
   |some o=>
    rw[hp]at e2
    have e2:r=[o.row,[.bool true]]:=e2
    subst e2
    rw[cA]at e4
    have e5:(l.kids.map dA.row).take n++[o.row]++(l.kids.map dA.row).drop (n+1)=(l.kids.set n o).map dA.row:=by
     rw[a2P _ _ _ (by rw[List.length_map];exact hn),List.map_set]
    rw[e5]at e4
    obtain ⟨x,y,hxy⟩:∃x y,l.kids.set n o=x::y:=by
     cases hk2:l.kids.set n o with
     |nil=>
      have:=congrArg List.length hk2
      simp at this
      rw[this]at hn;simp at hn
     |cons x y=>exact ⟨x,y,rfl⟩
    rw[hxy]at e4
    have e6:=e4.ne (by simp)
    show _=[(aJU l (l.kids.set n o)).row,[.bool true]]
    rw[hxy,a0W,e6]
    rfl
  ·rw[if_neg hi]
   by_cases hneg:i<0
   ·rw[if_pos (decide_eq_true hneg)]
    exact ⟨_,rfl,_,rfl⟩
   ·have d2:decide (i≥(l.kids.length:Int))=true:=by simp;omega
    rw[if_neg (by simpa using hneg),d2]
    exact ⟨_,rfl,_,rfl⟩
end Go.Ev.dJ
