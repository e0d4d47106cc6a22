/-
  Steps of a simplification, as plain functions of lenses.
-/
import Derived.Test.YtjpfkfldiijgmaaGreatDoorZY
import Derived.Test.YtjpfkfldiijgmaaGreatDoorZzkUb
set_option linter.all false
set_option maxRecDepth 100000
namespace Go.Ev.jJ
@[simp] theorem aKV (l:dA):l.norm.op=l.op:=by cases l;rfl
@[simp] theorem aOt (l:dA):l.norm.name=l.name:=by cases l;rfl
@[simp] theorem a0Y (l:dA):l.norm.to=l.to:=by cases l;rfl
@[simp] theorem aVA (l:dA):l.norm.names=l.names:=by cases l;rfl
@[simp] theorem bEi (l:dA):l.norm.n=l.n:=by cases l;rfl
@[simp] theorem a2V (l:dA):l.norm.low=l.low:=by cases l;rfl
@[simp] theorem aZA (l:dA):l.norm.high=l.high:=by cases l;rfl
@[simp] theorem aZB (l:dA):l.norm.sep=l.sep:=by cases l;rfl
@[simp] theorem bAm (l:dA):l.norm.v=l.v:=by cases l;rfl
@[simp] theorem aVB (l:dA):l.norm.pairs=l.pairs:=by cases l;rfl
@[simp] theorem aA9 (l:dA):l.norm.kids=l.kids.map dA.norm:=by cases l;simp only[dA.norm,dA.kids,dA.aKf]
theorem aVC (l:dA):l.norm= .mk l.op l.name l.to true l.names l.n l.low l.high l.sep l.v true l.pairs true (l.kids.map dA.norm):=by
 cases l;simp only[dA.norm,dA.op,dA.name,dA.to,dA.names,dA.n,dA.low,dA.high,dA.sep,dA.v,dA.pairs,dA.kids,dA.aKf]
@[simp] theorem aSw (l:dA):l.norm.norm=l.norm:=by
  have h:∀k∈l.kids,k.norm.norm=k.norm:=fun k hk=>by
   have:=dA.lD hk
   exact aSw k
  rw[aVC l.norm,aVC l]
  simp only[dA.op,dA.name,dA.to,dA.names,dA.n,dA.low,dA.high,dA.sep,dA.v,dA.pairs,dA.kids,List.map_map]
  congr 1
  exact List.map_congr_left fun k hk=>h k hk
  termination_by SizeOf.sizeOf l
def mkL (op:Int) (name to:Bytes) (kids:List dA):dA:= .mk op name to true [] 0 0 0 0 zeroV true [] true kids
def xF:dA:=mkL 0 [] [] []
@[simp] theorem bEj:xF.norm=xF:=rfl
theorem aRj (op:Int) (name to:Bytes) (kids:List dA):(mkL op name to kids).norm=mkL op name to (kids.map dA.norm):=by
 rw[aVC];rfl
def thenS:List dA→dA
 |[]=>xF
 |[k]=>k
 |r=>mkL 1 [] [] r
def aFr (ks:List dA) (a n:Nat) (by':List dA):dA:=thenS (ks.take a++by'++ks.drop (a+n))
def merged (op:Int) (name:Bytes) (a b:dA):dA:=mkL op name [] [mkL 1 [] [] [a.kids.headD xF,b.kids.headD xF]]
def aG9 (a b:dA):Bool:=
 if a.op=9∧b.op=10 then a.name==b.name&&(a.to==b.to&&a.sep==b.sep)
 else if a.op=16∧b.op=17 then a.name==b.name
 else if a.op=5∧b.op=4 then a.name==b.name&&a.v.eqv b.v else false
def aDm (a b:dA) (rule:Int):Option (List dA):=
 if rule=3 then (if a.op=3∧b.op=3∧a.to=b.name then some (if a.name=b.to then []else [mkL 3 a.name b.to []])else none)
 else if rule=4 then (if a.op=2∧b.op=2∧a.name=b.name then some [merged 2 a.name a b]else none)
 else if rule=5 then (if aG9 a b=true then some []else none)
 else if rule=6 then (if a.op=8∧b.op=8∧a.name=b.name then some [b]else none)
 else if rule=7 then (if a.op=13∧b.op=13∧a.name=[]∧b.name=[]then some [merged 13 [] a b]else none)
 else none
def aO6 (l:dA) (a:Int):Bool:=(a==0&&(l.op==2 ||(l.op==14 ||(l.op==13&&l.name==[]))))&&l.kids.all (fun k=>k.op==0)
def jU (l:dA) (rule a:Int):Option dA:=
 if rule=2 then (if aO6 l a=true then some xF else none)
 else if l.op=1∧0≤a∧a<(l.kids.length:Int)then
  let k:=l.kids.getD a.toNat xF
  if rule=0 then (if k.op=1 then some (aFr l.kids a.toNat 1 k.kids)else none)
  else if rule=1 then (if k.op=0 then some (aFr l.kids a.toNat 1 [])else none)
  else if a+1<(l.kids.length:Int)then (aDm k (l.kids.getD (a.toNat+1) xF) rule).map fun by'=>aFr l.kids a.toNat 2 by'
  else none
 else none
def aJ6 (l:dA) (ks:List dA):dA:= .mk l.op l.name l.to l.nb l.names l.n l.low l.high l.sep l.v l.pb l.pairs true ks
def bV (rule a:Int):List Int→dA→Option dA
 |[],l=>jU l rule a
 |i::p,l=>if 0≤i∧i<(l.kids.length:Int)then (bV rule a p (l.kids.getD i.toNat xF)).map fun k=>aJ6 l (l.kids.set i.toNat k)else none
def aNZ (f:Nat→Bool):Nat→Nat→Option Nat
 |_,0=>none
 |i,j+1=>if f i=true then some i else aNZ f (i+1) j
def a8r (l:dA) (rule:Int):Option Nat:=aNZ (fun a=>(jU l rule (a:Int)).isSome) 0 (max 1 l.kids.length)
mutual
def aAB (rule:Int):dA→Option (List Int×Nat)
 | .mk op nm to nb ns n lo hi se v pb ps kb ks=>match a8r (.mk op nm to nb ns n lo hi se v pb ps kb ks) rule with
   |some a=>some ([],a)
   |none=>aM3 rule 0 ks
def aM3 (rule:Int):Nat→List dA→Option (List Int×Nat)
 |_,[]=>none
 |i,k::ks=>match aAB rule k with
  |some (p,a)=>some ((i:Int)::p,a)
  |none=>aM3 rule (i+1) ks
end
theorem aRk (rule:Int) (l:dA):aAB rule l=match a8r l rule with
 |some a=>some ([],a)
 |none=>aM3 rule 0 l.kids:=by cases l;simp only[aAB,dA.kids]
def aHY (l:dA):Nat→Nat→Option (List Int×Nat×Nat)
 |_,0=>none
 |i,j+1=>match aAB (i:Int) l with
  |some (p,a)=>some (p,i,a)
  |none=>aHY l (i+1) j
def aN0 (l:dA):Option (List Int×Nat×Nat):=aHY l 0 8
def atP:List Int→dA→dA
 |[],l=>l
 |i::p,l=>atP p (l.kids.getD i.toNat xF)
mutual
def bM:dA→List (List Int)
 | .mk _ _ _ _ _ _ _ _ _ _ _ _ _ ks=>[]::nR 0 ks
def nR:Nat→List dA→List (List Int)
 |_,[]=>[]
 |i,k::ks=>(bM k).map (fun p=>(i:Int)::p)++nR (i+1) ks
end
theorem aHj (l:dA):bM l=[]::nR 0 l.kids:=by cases l;simp only[bM,dA.kids]
theorem a2W (ks:List dA):(thenS ks).norm=thenS (ks.map dA.norm):=by
 match ks with
 |[]=>rfl
 |[k]=>rfl
 |a::b::r=>exact aRj _ _ _ _
theorem aPY (ks:List dA) (a n:Nat) (by':List dA):(aFr ks a n by').norm=aFr (ks.map dA.norm) a n (by'.map dA.norm):=by
 unfold aFr
 rw[a2W]
 simp only[List.map_append,List.map_take,List.map_drop]
theorem a2X (l:List dA):(l.map dA.norm).headD xF=(l.headD xF).norm:=by cases l<;>rfl
theorem aTg (op:Int) (name:Bytes) (a b:dA):(merged op name a b).norm=merged op name a.norm b.norm:=by
 unfold merged
 rw[aRj]
 simp only[List.map_cons,List.map_nil,aRj,aA9,a2X]
theorem aZC (a b:dA):aG9 a.norm b.norm=aG9 a b:=by
 unfold aG9
 simp only[aKV,aOt,a0Y,aZB,bAm]
theorem a2Y (a b:dA) (rule:Int):aDm a.norm b.norm rule=(aDm a b rule).map fun by'=>by'.map dA.norm:=by
 unfold aDm
 simp only[aKV,aOt,a0Y,aZC]
 by_cases h3:rule=3
 ·simp only[h3,if_true]
  by_cases c:a.op=3∧b.op=3∧a.to=b.name
  ·simp only[if_pos c,Option.map_some]
   by_cases c2:a.name=b.to
   ·simp only[if_pos c2,List.map_nil]
   ·simp only[if_neg c2,List.map_cons,List.map_nil,aRj]
  ·simp only[if_neg c,Option.map_none]
 by_cases h4:rule=4
 ·simp only[if_neg h3,if_pos h4]
  by_cases c:a.op=2∧b.op=2∧a.name=b.name
  ·simp only[if_pos c,Option.map_some,List.map_cons,List.map_nil,aTg]
  ·simp only[if_neg c,Option.map_none]
 by_cases h5:rule=5
 ·simp only[if_neg h3,if_neg h4,if_pos h5]
  by_cases c:aG9 a b=true
  ·simp only[if_pos c,Option.map_some,List.map_nil]
  ·simp only[if_neg c,Option.map_none]
 by_cases h6:rule=6
 ·simp only[if_neg h3,if_neg h4,if_neg h5,if_pos h6]
  by_cases c:a.op=8∧b.op=8∧a.name=b.name
  ·simp only[if_pos c,Option.map_some,List.map_cons,List.map_nil]
  ·simp only[if_neg c,Option.map_none]
 by_cases h7:rule=7
 ·simp only[if_neg h3,if_neg h4,if_neg h5,if_neg h6,if_pos h7]
  by_cases c:a.op=13∧b.op=13∧a.name=[]∧b.name=[]
  ·simp only[if_pos c,Option.map_some,List.map_cons,List.map_nil,aTg]
  ·simp only[if_neg c,Option.map_none]
 ·simp only[if_neg h3,if_neg h4,if_neg h5,if_neg h6,if_neg h7,Option.map_none]
theorem aX3 (l:List dA) (i:Nat):(l.map dA.norm).getD i xF=(l.getD i xF).norm:=by
 simp only[List.getD_eq_getElem?_getD,List.getElem?_map]
 cases l[i]? <;>rfl
theorem aVD (l:dA) (rule a:Int):jU l.norm rule a=(jU l rule a).map dA.norm:=by
 have hid:aO6 l.norm a=aO6 l a:=by
  unfold aO6
  simp only[aKV,aOt,aA9,List.all_map,Function.comp_def]
 unfold jU
 simp only[hid,aKV,aA9,List.length_map,aX3]
 by_cases h2:rule=2
 ·simp only[if_pos h2]
  cases aO6 l a<;>rfl
 simp only[if_neg h2]
 by_cases hc:l.op=1∧0≤a∧a<(l.kids.length:Int)
 ·simp only[if_pos hc]
  by_cases h0:rule=0
  ·simp only[if_pos h0]
   by_cases c:(l.kids.getD a.toNat xF).op=1
   ·simp only[if_pos c,Option.map_some,aPY]
   ·simp only[if_neg c,Option.map_none]
  simp only[if_neg h0]
  by_cases h1:rule=1
  ·simp only[if_pos h1]
   by_cases c:(l.kids.getD a.toNat xF).op=0
   ·simp only[if_pos c,Option.map_some,aPY,List.map_nil]
   ·simp only[if_neg c,Option.map_none]
  simp only[if_neg h1]
  by_cases h5:a+1<(l.kids.length:Int)
  ·simp only[if_pos h5,a2Y,Option.map_map,Function.comp_def,aPY]
  ·simp only[if_neg h5,Option.map_none]
 ·simp only[if_neg hc,Option.map_none]
theorem a2Z (l:dA) (rule a:Int):(jU l.norm rule a).isSome=(jU l rule a).isSome:=by rw[aVD,Option.isSome_map]
theorem a8s (l:List dA) (i:Nat) (k:dA):(l.set i k).map dA.norm=(l.map dA.norm).set i k.norm:=List.map_set
theorem a5E (l:dA) (ks:List dA):(aJ6 l ks).norm=aJ6 l.norm (ks.map dA.norm):=by
 rw[aVC]
 unfold aJ6
 simp only[aKV,aOt,a0Y,aVA,bEi,a2V,aZA,aZB,bAm,aVB]
 rw[aVC l]
 rfl
theorem aX4 (rule a:Int):∀(p:List Int) (l:dA),bV rule a p l.norm=(bV rule a p l).map dA.norm
 |[],l=>aVD l rule a
 |i::p,l=>by
  simp only[bV,aA9,List.length_map,aX3,aX4 rule a p]
  by_cases h:0≤i∧i<(l.kids.length:Int)
  ·simp only[if_pos h,Option.map_map,Function.comp_def,a5E,a8s]
  ·simp only[if_neg h,Option.map_none]
theorem a5F (l:dA) (rule:Int):a8r l.norm rule=a8r l rule:=by
 unfold a8r
 simp only[aA9,List.length_map,a2Z]
theorem aVE (rule:Int) (l:dA):aAB rule l.norm=aAB rule l:=by
 have h:∀k∈l.kids,aAB rule k.norm=aAB rule k:=fun k hk=>by
  have:=dA.lD hk
  exact aVE rule k
 rw[aRk,aRk rule l,a5F]
 have key:∀(ks:List dA) (i:Nat),(∀k∈ks,aAB rule k.norm=aAB rule k)→aM3 rule i (ks.map dA.norm)=aM3 rule i ks:=by
  intro ks
  induction ks with
  |nil=>intro i _;rfl
  |cons k r ih=>intro i hk;simp only[List.map_cons,aM3,hk k (by simp),ih (i+1) (fun x hx=>hk x (by simp[hx]))]
 rw[aA9,key l.kids 0 h]
 termination_by SizeOf.sizeOf l
theorem a00 (l:dA):aN0 l.norm=aN0 l:=by
 unfold aN0
 have:∀j i,aHY l.norm i j=aHY l i j:=by
  intro j
  induction j with
  |zero=>intro i;rfl
  |succ j ih=>intro i;simp only[aHY,aVE,ih]
 exact this _ _
end Go.Ev.jJ
namespace Go.Ev.jJ
theorem aKW {α:Type} [BEq α] [LawfulBEq α] {x y:α} (h:x=y):(x==y)=true:=by simp[h]
theorem cI {α:Type} [BEq α] [LawfulBEq α] {x y:α} (h:¬x=y):(x==y)=false:=by simp[h]
theorem aT5 {α:Type} [BEq α] [LawfulBEq α] {x y:α} (h:¬x=y):(x !=y)=true:=by simp[h]
theorem aXe {α:Type} [BEq α] [LawfulBEq α] {x y:α} (h:x=y):(x !=y)=false:=by simp[h]
def Sl (c:C) (rows:List Row):Prop:=c.rows=rows∧(c= .bA∨∃r,c= .sl r)
theorem Sl.iJ (b:Bool) (rows:List Row):Sl (Ev.iJ b rows) rows:=by
 refine ⟨jC b rows, ?_⟩
 cases b<;>cases rows<;>simp[Ev.iJ]
theorem Sl.bA:Sl .bA []:=⟨rfl,.inl rfl⟩
theorem Sl.sl (rows:List Row):Sl (.sl rows) rows:=⟨rfl,.inr ⟨_,rfl⟩⟩
theorem Sl.ne {c:C} {rows:List Row} (h:Sl c rows) (hn:rows≠[]):c= .sl rows:=by
 obtain ⟨rfl,h |⟨r,h⟩⟩:=h
 ·subst h;exact absurd rfl hn
 ·subst h;rfl
theorem aVF {b:Bool} {rows:List Row} (hn:rows≠[]):iJ b rows= .sl rows:=(Sl.iJ b rows).ne hn
theorem Sl.app {c:C} {a:List Row} (h:Sl c a) (new:List Row):Sl (uE c new) (a++new):=by
 obtain ⟨rfl,h |⟨r,h⟩⟩:=h
 ·subst h
  cases new with
  |nil=>exact ⟨rfl,.inl rfl⟩
  |cons x y=>exact ⟨rfl,.inr ⟨_,rfl⟩⟩
 ·subst h
  exact ⟨rfl,.inr ⟨_,rfl⟩⟩
theorem Sl.slc {c:C} {a:List Row} (h:Sl c a) (i j:Int):Sl (qR c i j) ((a.take j.toNat).drop i.toNat):=by
 obtain ⟨rfl,h |⟨r,h⟩⟩:=h
 ·subst h;exact ⟨by simp[qR,C.rows],.inl rfl⟩
 ·subst h;exact ⟨rfl,.inr ⟨_,rfl⟩⟩
theorem bAn {c:C} {rows:List Row} (h:Sl c rows) (hN:rows.length≤big):∃c',(cA T).ic tM [.r [c]]=some [.r [c']]∧Sl c' rows:=by
 rw[aF9];unfold sO
 obtain ⟨rfl,h |⟨r,h⟩⟩:=h
 ·subst h;exact ⟨.bA,rfl,Sl.bA⟩
 ·subst h
  refine ⟨.sl r, ?_,Sl.sl r⟩
  have hN':r.length≤big:=hN
  rw[if_neg (by simp[C.isNil]),if_pos (by simp[C.rows];unfold big at hN';omega)]
  rfl
theorem a01 (l:dA):Sl l.kc (l.kids.map dA.row):=by rw[dA.aZ6];exact Sl.iJ _ _
theorem aZD (op:Int) (name to:Bytes) (k:dA) (r:List dA):(mkL op name to (k::r)).row=[.int op,.str name,.str to,.bA,.int 0,.int 0,.int 0,.int 0,.int 0,.int 0,.str [],.bA,.bA,.sl ((k::r).map dA.row)]:=by
 simp only[dA.row,mkL,dA.op,dA.name,dA.to,dA.nb,dA.names,dA.n,dA.low,dA.high,dA.sep,dA.v,dA.pb,dA.pairs,dA.kc,zeroV,aB.k,aB.n,aB.s,aB.fc,dA.bS,aB.rowsOf]
 rfl
theorem a02 {c:C} {ks:List dA} (h:Sl c (ks.map dA.row)):(if (((c.rows).length:Int)==0)=true then some [iF]else
 if (((c.rows).length:Int)==1)=true then (if (0:Int)≤0∧0<((c.rows).length:Int)then some [aA c.rows 0]else none)else
 some [[.int 1,.str [],.str [],.bA,.int 0,.int 0,.int 0,.int 0,.int 0,.int 0,.str [],.bA,.bA,c]])=some [(thenS ks).row]:=by
 rw[h.1,List.length_map]
 match ks with
 |[]=>rfl
 |[k]=>rfl
 |a::b::r=>
  rw[if_neg (by simp;omega),if_neg (by simp;omega),h.ne (by simp)]
  show _=some [(mkL 1 [] [] (a::b::r)).row]
  rw[aZD]
theorem bCC {a n:Nat} (ha:a≤big) (hn:n≤2):IntKind.wrap .i64 ((a:Int)+(n:Int))=((a+n:Nat):Int):=by
 unfold big at ha
 rw[wrap_i64 ⟨by omega,by omega⟩];omega
theorem aMD (l:dA) (a n:Nat) (h:a+n≤l.kids.length) (hn:n≤2) (c:C) (by':List dA) (hc:Sl c (by'.map dA.row)) (hN:l.kids.length≤big) (hB:by'.length≤big):
 (cA T).pc mK [l.row,[.int (a:Int)],[.int (n:Int)],[c]]=some [(aFr l.kids a n by').row]:=by
 rw[aT1];unfold aMb
 have hk:=a01 l
 have hl:l.kc.rows.length=l.kids.length:=by rw[hk.1,List.length_map]
 have h1:=hk.slc 0 (a:Int)
 rw[Int.toNat_natCast,show (0:Int).toNat=0 from rfl,List.drop_zero]at h1
 obtain ⟨c',e1,h2⟩:=bAn h1 (by simp;omega)
 have hW:=bCC (show a≤big by omega) hn
 have h3:=h2.app c.rows
 rw[hc.1]at h3
 have h4:=hk.slc (IntKind.wrap .i64 ((a:Int)+(n:Int))) (l.kc.rows.length:Int)
 rw[hW,hl,Int.toNat_natCast,Int.toNat_natCast,List.take_of_length_le (by simp)]at h4
 have h5:=h3.app (qR l.kc ((a+n:Nat):Int) (l.kids.length:Int)).rows
 rw[h4.1]at h5
 have h6:Sl (uE (uE c' (by'.map dA.row)) ((l.kids.map dA.row).drop (a+n))) ((l.kids.take a++by'++l.kids.drop (a+n)).map dA.row):=by
  simpa only[List.map_append,List.map_take,List.map_drop]using h5
 have h7:=a02 h6
 rw[←h4.1,←hc.1,←hW,←hl]at h7
 have hb1:l.kids.length≤4294967296:=hN
 have hb2:by'.length≤4294967296:=hB
 refine cH.eq (.pos ⟨by omega,by omega,by show (a:Int)≤(l.kc.rows.length:Int);omega⟩ (.jB e1 (.pos ?_ (.pos ?_ (.pos ?_ ⟨_,h7,rfl⟩)))))
 ·show (c'.rows.length+c.rows.length)*200≤_
  rw[h2.1,hc.1];simp;omega
 ·rw[hW]
  exact ⟨by omega,by show _≤(l.kc.rows.length:Int);omega,by omega⟩
 ·show ((uE c' c.rows).rows.length+(qR l.kc (IntKind.wrap .i64 ((a:Int)+(n:Int))) (l.kc.rows.length:Int)).rows.length)*200≤_
  rw[hc.1,h3.1,hW,hl,h4.1];simp;omega
theorem a8t (l:dA) (hN:l.kids.length≤big):∀(j i:Nat),i+j=l.kids.length→
 aGW (cA T) (.dp l.row) l.kc (l.kids.length:Int) (i:Int) iF=some (if (l.kids.drop i).all (fun k=>k.op==0)=true then (0,[.r iF])else (1,[.r [.bool false],.r l.row]))
 |0,i,hh=>by
  rw[aM0];unfold aGX
  obtain rfl:i=l.kids.length:=by omega
  rw[List.drop_length]
  exact cH.eq (.ite (fun h=>absurd h aAg) fun _=> .some rfl)
 |j+1,i,hh=>by
  rw[aM0];unfold aGX
  have hi:i<l.kids.length:=by omega
  have ih:=a8t l hN j (i+1) (by omega)
  refine cH.eq (.pos (dec_lt hi) (.pos (aHZ hi) ?_))
  rw[tT hi,List.drop_eq_getElem_cons hi,List.all_cons,uB (show i≤big by omega),ih,vC,jA]
  by_cases h0:l.kids[i].op=0
  ·simp only[aXe h0,aKW h0,Bool.true_and,Bool.false_eq_true,if_false];exact .some rfl
  ·simp only[aT5 h0,cI h0,Bool.false_and,Bool.false_eq_true,if_false,if_true];exact .some rfl
theorem a5G (l:dA) (hN:l.kids.length≤big) (a:Int):(cA T).pc aNP [l.row,[.int a]]=some (if aO6 l a=true then [iF,[.bool true]]else [l.row,[.bool false]]):=by
 rw[aZy];unfold aSa aO6
 refine cH.eq ?_
 refine .bind (R:=fun r=>r=(0,[.r [.dp l.row],.r [.bool (!(a==0&&(l.op==2 ||(l.op==14 ||(l.op==13&&l.name==[])))))],.r iF])) ?_ ?_
 ·simp only[vC,sG,jA,rA,bne]
  rcases Bool.eq_false_or_eq_true (a==0)with x1 |x1<;>rcases Bool.eq_false_or_eq_true (l.op==2)with x2 |x2<;>rcases Bool.eq_false_or_eq_true (l.op==14)with x3 |x3<;>rcases Bool.eq_false_or_eq_true (l.op==13)with x4 |x4<;>rcases Bool.eq_false_or_eq_true (l.name==[])with x5 |x5<;>
   simp only[x1,x2,x3,x4,x5,Bool.not_true,Bool.not_false,Bool.and_true,Bool.and_false,Bool.true_and,Bool.false_and,Bool.or_true,Bool.or_false,Bool.true_or,Bool.false_or,Bool.false_eq_true,if_true,if_false]<;>exact .some rfl
 rintro r rfl
 simp only[cC,aC,xB,fB,if_true,wA,nD,jD,uC,dA.cD,List.length_map]
 cases (a==0&&(l.op==2 ||(l.op==14 ||(l.op==13&&l.name==[]))))with
 |false=>exact .some rfl
 |true=>
  have hl:=a8t l hN l.kids.length 0 (by omega)
  rw[List.drop_zero,show ((0:Nat):Int)=0 from rfl]at hl
  rw[hl]
  simp only[Bool.not_true,Bool.false_eq_true,if_false,Bool.true_and]
  cases (l.kids.all fun k=>k.op==0)with
  |true=>exact .some rfl
  |false=>exact .some rfl
theorem a03 (a b:dA) (ha:a.wf) (hb:b.wf) (hN:a.v.mB≤big):(cA T).pc aJI [a.row,b.row]=some [[.bool (aG9 a b)]]:=by
 have hs:=aSx a.v b.v (dA.bDz ha) (dA.bDz hb) hN
 rw[aZF a |>.symm,aZF b |>.symm]at hs
 rw[aVz];unfold aNO aG9
 simp only[vC,sG,dS,aLi,aIv,aQj,aNo,aNp,jA,rA]
 have n1:∀{x y:Int},a.op=x→x≠y→¬a.op=y:=fun h k e=>k (h.symm.trans e)
 by_cases a9:a.op=9
 ·have n16:¬a.op=16:=n1 a9 (by omega)
  have n5:¬a.op=5:=n1 a9 (by omega)
  by_cases b10:b.op=10
  ·rw[if_pos ⟨a9,b10⟩]
   simp only[aKW a9,aKW b10,if_true,Option.bind_some,cC,aC,iC,xB,fB,wA,vC,sG,dS,aLi,jA,rA]
   cases (a.name==b.name)<;>cases (a.to==b.to)<;>cases (a.sep==b.sep)<;>rfl
  ·rw[if_neg (fun h=>b10 h.2),if_neg (fun h=>n16 h.1),if_neg (fun h=>n5 h.1)]
   simp only[aKW a9,cI b10,cI n16,cI n5,if_true,Bool.false_eq_true,if_false,Option.bind_some,cC,aC,iC,xB,fB,wA,vC,jA]
 rw[if_neg (fun h=>a9 h.1)]
 by_cases a16:a.op=16
 ·have n5:¬a.op=5:=n1 a16 (by omega)
  by_cases b17:b.op=17
  ·rw[if_pos ⟨a16,b17⟩]
   simp only[cI a9,aKW a16,aKW b17,if_true,Bool.false_eq_true,if_false,Option.bind_some,cC,aC,iC,xB,fB,wA,vC,sG,jA,rA]
  ·rw[if_neg (fun h=>b17 h.2),if_neg (fun h=>n5 h.1)]
   simp only[cI a9,aKW a16,cI b17,cI n5,if_true,Bool.false_eq_true,if_false,Option.bind_some,cC,aC,iC,xB,fB,wA,vC,jA]
 rw[if_neg (fun h=>a16 h.1)]
 by_cases a5:a.op=5
 ·by_cases b4:b.op=4
  ·rw[if_pos ⟨a5,b4⟩]
   simp only[cI a9,cI a16,aKW a5,aKW b4,if_true,Bool.false_eq_true,if_false,Option.bind_some,cC,aC,iC,xB,fB,wA,vC,sG,aIv,aQj,aNo,aNp,jA,rA,hs,fA,gA,iA]
   cases (a.name==b.name)<;>rfl
  ·rw[if_neg (fun h=>b4 h.2)]
   simp only[cI a9,cI a16,aKW a5,cI b4,if_true,Bool.false_eq_true,if_false,Option.bind_some,cC,aC,iC,xB,fB,wA,vC,jA]
 ·rw[if_neg (fun h=>a5 h.1)]
  simp only[cI a9,cI a16,cI a5,Bool.false_eq_true,if_false,Option.bind_some,cC,aC,iC,xB,fB,wA,if_true,vC,jA]
def aSy (a b:dA) (rule:Int):List Row:=match aDm a b rule with
 |some by'=>[[if rule=6 then .sl [b.row]else iJ true (by'.map dA.row)],[.bool true]]
 |none=>[[if rule=6 then .sl [b.row]else .bA],[.bool false]]
theorem aHk {l:dA} (h:l.kids≠[]):((0:Int)≤0∧0<(((at_ l.row 13).rows).length:Int))∧aA ((at_ l.row 13).rows) 0=(l.kids.headD xF).row:=by
 rw[uC,dA.cD,List.length_map]
 cases hk:l.kids with
 |nil=>exact absurd hk h
 |cons k r=>exact ⟨⟨by omega,by simp<;>omega⟩,rfl⟩
theorem aPZ (op:Int) (name:Bytes) (a b:dA):(merged op name a b).row=[.int op,.str name,.str [],.bA,.int 0,.int 0,.int 0,.int 0,.int 0,.int 0,.str [],.bA,.bA,.sl [[.int 1,.str [],.str [],.bA,.int 0,.int 0,.int 0,.int 0,.int 0,.int 0,.str [],.bA,.bA,.sl [(a.kids.headD xF).row,(b.kids.headD xF).row]]]]:=by
 unfold merged
 rw[aZD,List.map_cons,List.map_nil,aZD]
 rfl
theorem a8u (a b:dA) (rule:Int) (ha:a.wf) (hb:b.wf) (hN:a.v.mB≤big) (hka:a.op=2∨a.op=13→a.kids≠[]) (hkb:b.op=2∨b.op=13→b.kids≠[]):(cA T).pc aPM [a.row,b.row,[.int rule]]=some (aSy a b rule):=by
 rw[a0X];unfold aVu aSy aDm
 simp only[vC,sG,dS,jA,rA]
 by_cases h3:rule=3
 ·subst h3
  simp only[beq_self_eq_true,if_true]
  by_cases x1:a.op=3
  ·by_cases x2:b.op=3
   ·by_cases x3:a.to=b.name
    ·by_cases x4:a.name=b.to
     ·simp only[x1,x2,x3,x4,bne_self_eq_false,beq_self_eq_true,Bool.not_true,Bool.false_eq_true,if_false,if_true,Option.bind_some,cC,aC,iC,xB,fB,wA,vC,sG,dS,jA,rA,and_self,List.map_nil,aYI]
      try rfl
     ·simp only[x1,x2,x3,cI x4,x4,bne_self_eq_false,beq_self_eq_true,Bool.not_true,Bool.false_eq_true,if_false,if_true,Option.bind_some,cC,aC,iC,xB,fB,wA,vC,sG,dS,jA,rA,and_self]
      try rfl
    ·simp only[x1,x2,x3,cI x3,bne_self_eq_false,Bool.not_false,Bool.false_eq_true,if_false,if_true,Option.bind_some,cC,aC,and_false]
     try rfl
   ·simp only[x1,x2,aT5 x2,bne_self_eq_false,Bool.false_eq_true,if_false,if_true,Option.bind_some,cC,aC,and_false,false_and]
    try rfl
  ·simp only[x1,aT5 x1,if_true,Option.bind_some,cC,aC,false_and,if_false]
   try rfl
 by_cases h4:rule=4
 ·subst h4
  have e3:((4:Int)==3)=false:=rfl
  simp only[e3,h3,Bool.false_eq_true,if_false,beq_self_eq_true,if_true]
  by_cases x1:a.op=2
  ·by_cases x2:b.op=2
   ·by_cases x3:a.name=b.name
    ·obtain ⟨p1,p2⟩:=aHk (hka (.inl x1))
     obtain ⟨p3,p4⟩:=aHk (hkb (.inl x2))
     simp only[x1,x2,x3,bne_self_eq_false,beq_self_eq_true,Bool.not_true,Bool.false_eq_true,if_false,if_true,Option.bind_some,cC,aC,iC,xB,fB,wA,sG,rA,and_self,p1,p2,p3,p4]
     have:=aPZ 2 b.name a b
     rw[aVF (by simp),List.map_cons,List.map_nil,this]
     try rfl
    ·simp only[x1,x2,x3,cI x3,bne_self_eq_false,Bool.not_false,Bool.false_eq_true,if_false,if_true,Option.bind_some,cC,aC,and_false]
     try rfl
   ·simp only[x1,x2,aT5 x2,bne_self_eq_false,Bool.false_eq_true,if_false,if_true,Option.bind_some,cC,aC,and_false,false_and]
    try rfl
  ·simp only[x1,aT5 x1,if_true,Option.bind_some,cC,aC,false_and,if_false]
   try rfl
 by_cases h6:rule=6
 ·subst h6
  have e3:((6:Int)==3)=false:=rfl
  have e4:((6:Int)==4)=false:=rfl
  have n5:¬(6:Int)=5:=by omega
  simp only[e3,e4,h3,h4,n5,Bool.false_eq_true,if_false,beq_self_eq_true,if_true]
  by_cases x1:a.op=8
  ·by_cases x2:b.op=8
   ·by_cases x3:a.name=b.name
    ·simp only[x1,x2,x3,beq_self_eq_true,if_true,and_self]
    ·simp only[x1,x2,x3,cI x3,beq_self_eq_true,if_true,and_false,if_false]
   ·simp only[x1,x2,cI x2,beq_self_eq_true,if_true,false_and,and_false,if_false,Bool.false_eq_true]
  ·simp only[x1,cI x1,false_and,if_false,Bool.false_eq_true]
 by_cases h7:rule=7
 ·subst h7
  have e3:((7:Int)==3)=false:=rfl
  have e4:((7:Int)==4)=false:=rfl
  have e6:((7:Int)==6)=false:=rfl
  have n5:¬(7:Int)=5:=by omega
  simp only[e3,e4,e6,h3,h4,h6,n5,Bool.false_eq_true,if_false,beq_self_eq_true,if_true]
  by_cases x1:a.op=13
  ·by_cases x2:b.op=13
   ·by_cases x3:a.name=[]
    ·by_cases x4:b.name=[]
     ·obtain ⟨p1,p2⟩:=aHk (hka (.inr x1))
      obtain ⟨p3,p4⟩:=aHk (hkb (.inr x2))
      simp only[x1,x2,x3,x4,bne_self_eq_false,beq_self_eq_true,Bool.not_true,Bool.false_eq_true,if_false,if_true,Option.bind_some,cC,aC,iC,xB,fB,wA,and_self,p1,p2,p3,p4]
      have:=aPZ 13 [] a b
      rw[aVF (by simp),List.map_cons,List.map_nil,this]
      try rfl
     ·simp only[x1,x2,x3,x4,cI x4,bne_self_eq_false,beq_self_eq_true,Bool.not_true,Bool.not_false,Bool.false_eq_true,if_false,if_true,Option.bind_some,cC,aC,and_false]
      try rfl
    ·simp only[x1,x2,x3,cI x3,bne_self_eq_false,Bool.not_false,Bool.false_eq_true,if_false,if_true,Option.bind_some,cC,aC,and_false,false_and]
     try rfl
   ·simp only[x1,x2,aT5 x2,bne_self_eq_false,Bool.false_eq_true,if_false,if_true,Option.bind_some,cC,aC,and_false,false_and]
    try rfl
  ·simp only[x1,aT5 x1,if_true,Option.bind_some,cC,aC,false_and,if_false]
   try rfl
 by_cases h5:rule=5
 ·subst h5
  have e3:((5:Int)==3)=false:=rfl
  have e4:((5:Int)==4)=false:=rfl
  have e6:((5:Int)==6)=false:=rfl
  have e7:((5:Int)==7)=false:=rfl
  simp only[e3,e4,e6,e7,h3,h4,h6,h7,Bool.false_eq_true,if_false,beq_self_eq_true,if_true,a03 a b ha hb hN,Option.bind_some,fA,gA,iA]
  cases aG9 a b<;>rfl
 ·simp only[cI h3,cI h4,cI h5,cI h6,cI h7,h3,h4,h5,h6,h7,Bool.false_eq_true,if_false]
end Go.Ev.jJ
namespace Go.Ev.jJ
def ArK (l:dA):Prop:=∀k∈l.kids,k.op=2∨k.op=13→k.kids≠[]
def aZH (l:dA):Option dA→List Row
 |some o=>[o.row,[.bool true]]
 |none=>[l.row,[.bool false]]
theorem uZ {l:List dA} {i:Nat} (h:i<l.length):l.getD i xF=l[i]:=by simp[List.getD_eq_getElem?_getD,h]
theorem aX5 {a b:dA} {rule:Int} {by':List dA} (h:aDm a b rule=some by'):by'.length≤1:=by
 unfold aDm at h
 split at h
 ·split at h
  ·injection h with h;subst h;split<;>simp
  ·cases h
 split at h
 ·split at h
  ·injection h with h;subst h;simp
  ·cases h
 split at h
 ·split at h
  ·injection h with h;subst h;simp
  ·cases h
 split at h
 ·split at h
  ·injection h with h;subst h;simp
  ·cases h
 split at h
 ·split at h
  ·injection h with h;subst h;simp
  ·cases h
 ·cases h
theorem aVG (l:dA) (h:nF l) (hA:ArK l) (rule a:Int):(cA T).pc aG2 [l.row,[.int rule],[.int a]]=some (aZH l (jU l rule a)):=by
 rw[aXc];unfold aPL jU
 by_cases h2:rule=2
 ·simp only[aKW h2,if_true,if_pos h2,a5G l h.kids a,Option.bind_some]
  cases aO6 l a<;>rfl
 simp only[cI h2,if_neg h2,Bool.false_eq_true,if_false]
 refine cH.eq (.bind (R:=fun r=>r=(0,[.r [.int rule],.r [.int a],.r [.dp l.row],.r [.bool (!decide (l.op=1∧0≤a∧a<(l.kids.length:Int)))],.r iF])) ?_ ?_)
 ·simp only[vC,jA,uC,dA.cD,List.length_map]
  by_cases x1:l.op=1
  ·by_cases x2:0≤a
   ·by_cases x3:a<(l.kids.length:Int)
    ·have e1:decide (a<0)=false:=by simp;omega
     have e2:decide (a≥(l.kids.length:Int))=false:=by simp;omega
     simp only[aXe x1,e1,e2,x1,x2,x3,and_self,decide_true,Bool.not_true,Bool.false_eq_true,if_false]
     exact .some rfl
    ·have e1:decide (a<0)=false:=by simp;omega
     have e2:decide (a≥(l.kids.length:Int))=true:=by simp;omega
     simp only[aXe x1,e1,e2,x1,x2,x3,and_false,decide_false,Bool.not_false,Bool.false_eq_true,if_false]
     exact .some rfl
   ·have e1:decide (a<0)=true:=by simp;omega
    simp only[aXe x1,e1,x1,x2,and_false,false_and,decide_false,Bool.not_false,Bool.false_eq_true,if_false]
    exact .some rfl
  ·simp only[aT5 x1,x1,false_and,decide_false,Bool.not_false,if_true]
   exact .some rfl
 rintro r rfl
 simp only[cC,aC,iC,xB,wC,rC,fB,wA,if_true]
 by_cases hc:l.op=1∧0≤a∧a<(l.kids.length:Int)
 ·simp only[decide_eq_true hc,Bool.not_true,Bool.false_eq_true,if_false,if_pos hc]
  obtain ⟨n,rfl⟩:=Int.eq_ofNat_of_zero_le hc.2.1
  have hn:n<l.kids.length:=by omega
  rw[uC,if_pos (aHZ hn),tT hn,vC,jA,Int.toNat_natCast,uZ hn]
  have hko:=h.kid (List.getElem_mem hn)
  by_cases h0:rule=0
  ·simp only[aKW h0,if_pos h0,if_true]
   by_cases x1:l.kids[n].op=1
   ·rw[if_pos x1,if_pos (aKW x1)]
    have e:(cA T).pc mK [l.row,[.int (n:Int)],[.int 1],[at_ l.kids[n].row 13]]=_:=aMD l n 1 (by omega) (by omega) l.kids[n].kc l.kids[n].kids (a01 _) h.kids hko.kids
    rw[e];exact .some rfl
   ·rw[if_neg x1,if_neg (by rw[cI x1];simp)];exact .some rfl
  simp only[cI h0,if_neg h0,Bool.false_eq_true,if_false]
  by_cases h1:rule=1
  ·simp only[aKW h1,if_pos h1,if_true]
   by_cases x1:l.kids[n].op=0
   ·rw[if_pos x1,if_pos (aKW x1)]
    have e:(cA T).pc mK [l.row,[.int (n:Int)],[.int 1],[.bA]]=_:=aMD l n 1 (by omega) (by omega) .bA [] Sl.bA h.kids (by simp)
    rw[e];exact .some rfl
   ·rw[if_neg x1,if_neg (by rw[cI x1];simp)];exact .some rfl
  simp only[cI h1,if_neg h1,Bool.false_eq_true,if_false]
  have hk:=h.kids
  rw[uB (show n≤big by omega),dA.cD,List.length_map]
  by_cases h5:n+1<l.kids.length
  ·have d1:decide (((n+1:Nat):Int)≥(l.kids.length:Int))=false:=by simp;omega
   rw[d1,if_neg (show ¬false=true by simp),if_pos (show (0:Int)≤((n+1:Nat):Int)∧((n+1:Nat):Int)<(l.kids.length:Int) by omega),if_pos (show (n:Int)+1<(l.kids.length:Int) by omega),uZ h5,←dA.cD l,tT h5]
   have hb:=(h.kid (List.getElem_mem h5))
   rw[a8u l.kids[n] l.kids[n+1] rule hko.wf hb.wf hko.v (hA _ (List.getElem_mem hn)) (hA _ (List.getElem_mem h5)),Option.bind_some]
   unfold aSy
   cases hp:aDm l.kids[n] l.kids[n+1] rule with
   |none=>exact .some rfl
   |some by'=>
    have hl:=aX5 hp
    simp only[fA,iD,gA,iA,Bool.not_true,Bool.false_eq_true,if_false,Option.map_some]
    have hsl:Sl (if rule=6 then C.sl [l.kids[n+1].row]else iJ true (by'.map dA.row)) (by'.map dA.row):=by
     by_cases h6:rule=6
     ·rw[if_pos h6]
      subst h6
      unfold aDm at hp
      rw[if_neg (by omega),if_neg (by omega),if_neg (by omega),if_pos rfl]at hp
      split at hp
      ·injection hp with hp;subst hp;exact Sl.sl _
      ·cases hp
     ·rw[if_neg h6];exact Sl.iJ _ _
    have e:(cA T).pc mK [l.row,[.int (n:Int)],[.int 2],[if rule=6 then C.sl [l.kids[n+1].row]else iJ true (by'.map dA.row)]]=_:=aMD l n 2 (by omega) (by omega) _ by' hsl h.kids (by unfold big;omega)
    rw[e];exact .some rfl
  ·have d1:decide (((n+1:Nat):Int)≥(l.kids.length:Int))=true:=by simp;omega
   rw[d1,if_pos (show true=true from rfl),if_neg (show ¬(n:Int)+1<(l.kids.length:Int) by omega)]
   exact .some rfl
 ·simp only[decide_eq_false hc,Bool.not_false,if_true,if_neg hc]
  exact .some rfl
theorem aHl (a new:List Row):uE (iJ true a) new=iJ true (a++new):=by
 cases a with
 |nil=>cases new<;>rfl
 |cons x r=>rfl
theorem aRl (p q:List Int):dB (p++q)=dB p++dB q:=List.map_append
theorem vJ (p:List Int):(dB p).length=p.length:=List.length_map _
theorem bEl (p:List Int) (hp:p.length≤big):(cA T).pc aBp [[iJ true (dB p)]]=some [[iJ true (dB p)]]:=by
 rw[aOL];unfold aDW
 cases p with
 |nil=>rfl
 |cons i r=>
  rw[if_neg (by show ¬(C.sl _).isNil=true;simp[C.isNil]),if_pos (by rw[jC,vJ];unfold big at hp;simp at hp⊢;omega)]
  rfl
theorem bAo (p:List Int) (hp:p.length≤big):(cA T).ic jT [.r [iJ true (dB p)]]=some [.r [iJ true (dB p)]]:=by
 rw[aKS];unfold qX
 cases p with
 |nil=>rfl
 |cons i r=>
  rw[if_neg (by show ¬(C.sl _).isNil=true;simp[C.isNil]),if_pos (by rw[jC,vJ];unfold big at hp;simp at hp⊢;omega)]
  rfl
def ArA (l:dA):Prop:=∀x∈nodes l,x.op=2∨x.op=13→x.kids≠[]
theorem aSz {l k x:dA} (hk:k∈l.kids) (hx:x∈nodes k):x∈nodes l:=by
 rw[nodes_eq]
 have:∀ks:List dA,k∈ks→x∈yB ks:=by
  intro ks
  induction ks with
  |nil=>intro h;cases h
  |cons a r ih=>
   intro h
   simp only[yB,List.mem_append]
   rcases List.mem_cons.1 h with rfl |h
   ·exact .inl hx
   ·exact .inr (ih h)
 exact List.mem_cons_of_mem _ (this _ hk)
theorem aP0 (l:dA):l∈nodes l:=by rw[nodes_eq];exact List.mem_cons_self
theorem ArA.kid {l k:dA} (h:ArA l) (hk:k∈l.kids):ArA k:=fun x hx=>h x (aSz hk hx)
theorem ArA.kids {l:dA} (h:ArA l):ArK l:=fun k hk=>h k (aSz hk (aP0 k))
def aDn (p:List Int):Option (List Int×Nat)→List Row
 |some (q,a)=>[[iJ true (dB (p++q))],[.int (a:Int)],[.bool true]]
 |none=>[[.bA],[.int 0],[.bool false]]
theorem a4j (l:dA) (h:nF l) (hA:ArK l) (rule:Int) (p:List Int) (hp:p.length≤big) (m:Nat) (hm:m≤big):∀(j i:Nat),i+j=m→
 aG0 (cA T) rule (iJ true (dB p)) (.dp l.row) (m:Int) (i:Int)=some (match aNZ (fun a=>(jU l rule (a:Int)).isSome) i j with
  |some a=>(1,[.r [iJ true (dB p)],.r [.int (a:Int)],.r [.bool true]])
  |none=>(0,[.r [.int rule],.r [iJ true (dB p)],.r [.dp l.row]]))
 |0,i,hh=>by
  rw[aM1];unfold aG1
  obtain rfl:i=m:=by omega
  rw[if_neg (by simp)];rfl
 |j+1,i,hh=>by
  rw[aM1];unfold aG1
  have ih:=a4j l h hA rule p hp m hm j (i+1) (by omega)
  rw[if_pos (decide_eq_true (show (i:Int)<(m:Int) by omega)),if_pos (fB l.row),wA,aVG l h hA,Option.bind_some,aNZ]
  cases jU l rule (i:Int)with
  |some o=>
   simp only[aZH,iD,fA,gA,iA,if_true,Option.isSome_some,bEl p hp,Option.bind_some]
  |none=>
   simp only[aZH,iD,fA,gA,iA,Bool.false_eq_true,if_false,Option.isSome_none,uB (show i≤big by omega),ih]
theorem a4k (l:dA) (h:nF l) (rule:Int) (p:List Int) (hp:p.length+1≤big) (hc:∀k∈l.kids,∀i:Int,(cA T).pc rX [k.row,[.int rule],[iJ true (dB (p++[i]))]]=some (aDn (p++[i]) (aAB rule k))):∀(j i:Nat),i+j=l.kids.length→
 aG4 (cA T) rule (iJ true (dB p)) l.kc (l.kids.length:Int) (i:Int)=some (match aM3 rule i (l.kids.drop i)with
  |some (q,a)=>(1,[.r [iJ true (dB (p++q))],.r [.int (a:Int)],.r [.bool true]])
  |none=>(0,[]))
 |0,i,hh=>by
  rw[aM2];unfold aG5
  obtain rfl:i=l.kids.length:=by omega
  rw[if_neg (by simp),List.drop_length];rfl
 |j+1,i,hh=>by
  rw[aM2];unfold aG5
  have hi:i<l.kids.length:=by omega
  have hk:=h.kids
  have ih:=a4k l h rule p hp hc j (i+1) (by omega)
  rw[if_pos (dec_lt hi),if_pos (aHZ hi),bAo p (by omega),Option.bind_some,xB,jC,vJ,if_pos (by simp;unfold big at hp;omega),aHl,tT hi,List.drop_eq_getElem_cons hi,aM3]
  have e:dB p++[[C.int (i:Int)]]=dB (p++[(i:Int)]):=by rw[aRl];rfl
  rw[e,hc _ (List.getElem_mem hi),Option.bind_some]
  cases aAB rule l.kids[i]with
  |some q=>
   obtain ⟨q,a⟩:=q
   simp only[aDn,iD,fA,gA,iA,jA,if_true,List.append_assoc,List.cons_append,List.nil_append]
  |none=>
   simp only[aDn,iD,fA,gA,iA,Bool.false_eq_true,if_false,uB (show i≤big by omega),ih]
theorem a4l (n:Nat):(if (n:Int)>1 then (n:Int)else 1)=((max 1 n:Nat):Int):=by
 split<;>omega
theorem find_spec (rule:Int) (l:dA) (h:nF l) (hA:ArA l) (p:List Int) (hp:p.length+l.mB≤big):(cA T).pc rX [l.row,[.int rule],[iJ true (dB p)]]=some (aDn p (aAB rule l)):=by
 have hbp:=l.aNm
 have aBw:∀k∈l.kids,∀i:Int,(cA T).pc rX [k.row,[.int rule],[iJ true (dB (p++[i]))]]=some (aDn (p++[i]) (aAB rule k)):=fun k hk i=>by
  have:=dA.lD hk
  have:=dA.aE4 hk
  exact find_spec rule k (h.kid hk) (hA.kid hk) (p++[i]) (by simp;omega)
 have hk:=h.kids
 rw[aZz];unfold aSb
 rw[uC,dA.cD,List.length_map,a4l]
 have e0:=a4j l h hA.kids rule p (by omega) (max 1 l.kids.length) (by unfold big at*;omega) (max 1 l.kids.length) 0 (by omega)
 have e1:=a4k l h rule p (by omega) aBw l.kids.length 0 (by omega)
 rw[List.drop_zero]at e1
 rw[show ((0:Nat):Int)=0 from rfl]at e0 e1
 rw[e0,aRk]
 show _=some (aDn p (match aNZ (fun a=>(jU l rule (a:Int)).isSome) 0 (max 1 l.kids.length)with |some a=>some ([],a)|none=>aM3 rule 0 l.kids))
 cases aNZ (fun a=>(jU l rule (a:Int)).isSome) 0 (max 1 l.kids.length)with
 |some a=>
  simp only[Option.bind_some,xB,wC,rC,cC,aC,aDn,List.append_nil]
 |none=>
  simp only[Option.bind_some,iC,xB,wC,rC,fB,wA,if_true,uC,dA.cD,List.length_map,e1]
  cases aM3 rule 0 l.kids with
  |some q=>
   obtain ⟨q,a⟩:=q
   simp only[Option.bind_some,xB,wC,rC,cC,aC,aDn]
  |none=>simp only[Option.bind_some,aDn]
 termination_by SizeOf.sizeOf l
def aAC (p:List Int) (r a:Nat):Row:=[iJ true (dB p),.int (r:Int),.int (a:Int)]
def aN2:Option (List Int×Nat×Nat)→List Row
 |some (p,r,a)=>[aAC p r a,[.bool true]]
 |none=>[[.bA,.int 0,.int 0],[.bool false]]
theorem a4m (l:dA) (h:nF l) (hA:ArA l):∀(j i:Nat),i+j=8→
 aEX (cA T) (.dp l.row) (i:Int) [.bA,.int 0,.int 0]=some (match aHY l i j with
  |some (p,r,a)=>(1,[.r [.bool true],.r (aAC p r a)])
  |none=>(0,[.r [.bA,.int 0,.int 0]]))
 |0,i,hh=>by
  rw[aKT];unfold aEY
  obtain rfl:i=8:=by omega
  rfl
 |j+1,i,hh=>by
  rw[aKT];unfold aEY
  have ih:=a4m l h hA j (i+1) (by omega)
  have e:(cA T).pc rX [l.row,[.int (i:Int)],[.bA]]=_:=find_spec (i:Int) l h hA [] (by have:=h.mB;simpa using this)
  rw[if_pos (decide_eq_true (show (i:Int)<8 by omega)),if_pos (fB l.row),wA,e,Option.bind_some,aHY]
  cases aAB (i:Int) l with
  |some q=>
   obtain ⟨q,a⟩:=q
   simp only[aDn,iD,fA,gA,iA,jA,if_true,List.nil_append,aAC]
  |none=>
   simp only[aDn,iD,fA,gA,iA,Bool.false_eq_true,if_false,uB (show i≤big by unfold big;omega),ih]
theorem a22 (l:dA) (h:nF l) (hA:ArA l):(cA T).pc kT [l.row]=some (aN2 (aN0 l)):=by
 rw[aXd];unfold aPN aN0
 have e:=a4m l h hA 8 0 (by omega)
 rw[show ((0:Nat):Int)=0 from rfl]at e
 rw[e]
 cases aHY l 0 8 with
 |some q=>
  obtain ⟨p,r,a⟩:=q
  simp only[Option.bind_some,nD,jD,aC,aN2]
 |none=>simp only[Option.bind_some,aN2]
end Go.Ev.jJ
namespace Go.Ev.jJ
theorem aRm {c0 c:C} {ks by':List Row} (h0:Sl c0 ks) (hc:Sl c by') (a n:Nat) (h:a+n≤ks.length) (hn:n≤2) (hN:ks.length≤big) (hB:by'.length≤big):
 ∃c',(cA T).pc dD [[c0],[.int (a:Int)],[.int (n:Int)],[c]]=some [[c']]∧Sl c' (ks.take a++by'++ks.drop (a+n)):=by
 rw[aGa];unfold tO
 have h1:=h0.slc 0 (a:Int)
 rw[Int.toNat_natCast,show (0:Int).toNat=0 from rfl,List.drop_zero]at h1
 have h2:=Sl.bA.app (qR c0 0 (a:Int)).rows
 rw[h1.1,List.nil_append]at h2
 have h3:=h2.app by'
 have h4:=h0.slc ((a+n:Nat):Int) (ks.length:Int)
 rw[Int.toNat_natCast,Int.toNat_natCast,List.take_of_length_le (by simp)]at h4
 have h5:=h3.app (ks.drop (a+n))
 rw[h0.1,if_pos ⟨by omega,by omega,by omega⟩,h1.1,if_pos (by simp;unfold big at hN;omega),h2.1,hc.1,if_pos (by simp;unfold big at hN hB;omega),bCC (by omega) hn,if_pos ⟨by omega,by omega,by omega⟩,h3.1,h4.1,if_pos (by simp;unfold big at hN hB;omega)]
 exact ⟨_,rfl,h5⟩
theorem aOu (k:Int) (a b:dA):(cA T).pc lE ([[.int k]]++[[.dp a.row],[.dp b.row]])=some [[.bool (a.op==k&&b.op==k)]]:=by
 refine (aJ4 k (.dp a.row) (.dp b.row)).trans ?_
 unfold yU
 simp only[fB,wA,if_true,vC,jA]
 cases (a.op==k)<;>rfl
theorem aTh (a b:dA) (ha:a.kids≠[]) (hb:b.kids≠[]):(cA T).pc qL ([]++[[.dp a.row],[.dp b.row]])=some [[.sl [(merged a.op a.name a b).row]]]:=by
 refine (aJ5 (.dp a.row) (.dp b.row)).trans ?_
 unfold zU
 obtain ⟨p1,p2⟩:=aHk ha
 obtain ⟨p3,p4⟩:=aHk hb
 simp only[fB,wA,if_true,p1,p2,p3,p4,vC,sG,jA,rA,and_self]
 rw[aPZ]
theorem bJT (a b x y:Int):ceq [.int .i64,.int .i64] [.int a,.int b] [.int x,.int y]=(a==x&&b==y):=by
 simp only[ceq,gA,jA,List.drop_succ_cons,List.drop_zero,Bool.and_true]
theorem aT6 (a b:dA) (rule:Int) (ha:a.wf) (hb:b.wf) (hN:a.v.mB≤big) (hka:a.op=2∨a.op=13→a.kids≠[]) (hkb:b.op=2∨b.op=13→b.kids≠[]):(cA T).pc aV [a.row,b.row,[.int rule]]=some (aSy a b rule):=by
 rw[aMC];unfold aAb aSy aDm
 by_cases h3:rule=3
 ·subst h3
  simp only[beq_self_eq_true,if_true,aOu,Option.bind_some,fA,gA,iA,vC,sG,dS,jA,rA]
  by_cases x1:a.op=3
  ·by_cases x2:b.op=3
   ·by_cases x3:a.to=b.name
    ·by_cases x4:a.name=b.to
     ·simp only[x1,x2,x3,x4,Bool.and_self,bne_self_eq_false,beq_self_eq_true,Bool.not_true,Bool.false_eq_true,if_false,if_true,Option.bind_some,cC,aC,iC,xB,fB,wA,vC,sG,dS,jA,rA,and_self,List.map_nil,aYI]
      try rfl
     ·have x5:¬b.to=a.name:=fun e=>x4 e.symm
      simp only[x1,x2,x3,cI x5,x4,Bool.and_self,bne_self_eq_false,beq_self_eq_true,Bool.not_true,Bool.false_eq_true,if_false,if_true,Option.bind_some,cC,aC,iC,xB,fB,wA,vC,sG,dS,jA,rA,and_self]
      try rfl
    ·simp only[x1,x2,x3,cI x3,Bool.and_self,beq_self_eq_true,Bool.not_true,Bool.not_false,Bool.false_eq_true,if_false,if_true,Option.bind_some,cC,aC,iC,xB,and_false]
     try rfl
   ·simp only[x1,x2,cI x2,Bool.and_false,Bool.not_false,if_false,if_true,Option.bind_some,cC,aC,iC,xB,and_false,false_and]
    try rfl
  ·simp only[x1,cI x1,Bool.false_and,Bool.not_false,if_true,Option.bind_some,cC,aC,iC,xB,false_and,if_false]
   try rfl
 by_cases h4:rule=4
 ·subst h4
  have e3:((4:Int)==3)=false:=rfl
  simp only[e3,h3,Bool.false_eq_true,if_false,beq_self_eq_true,if_true,aOu,Option.bind_some,fA,gA,iA,vC,sG,jA,rA]
  by_cases x1:a.op=2
  ·by_cases x2:b.op=2
   ·by_cases x3:a.name=b.name
    ·have hm:=aTh a b (hka (.inl x1)) (hkb (.inl x2))
     simp only[x1,x2,x3,Bool.and_self,beq_self_eq_true,if_true,hm,Option.bind_some,fA,gA,cC,aC,iC,xB,and_self]
     rw[aVF (by simp),List.map_cons,List.map_nil]
     try rfl
    ·simp only[x1,x2,x3,cI x3,Bool.and_self,beq_self_eq_true,Bool.false_eq_true,if_false,if_true,Option.bind_some,and_false]
     try rfl
   ·simp only[x1,x2,cI x2,Bool.and_false,Bool.false_eq_true,if_false,Option.bind_some,and_false,false_and]
    try rfl
  ·simp only[x1,cI x1,Bool.false_and,Bool.false_eq_true,if_false,Option.bind_some,false_and]
   try rfl
 by_cases h5:rule=5
 ·subst h5
  have e3:((5:Int)==3)=false:=rfl
  have e4:((5:Int)==4)=false:=rfl
  have n6:¬(5:Int)=6:=by omega
  have hs:=aEe a.v b.v hN
  rw[aZF a |>.symm,aZF b |>.symm]at hs
  simp only[e3,e4,h3,h4,n6,Bool.false_eq_true,if_false,beq_self_eq_true,if_true,vC,sG,dS,aLi,aIv,aQj,aNo,aNp,jA,rA,bJT,hs,Option.bind_some,fA,gA,iA]
  unfold aG9
  by_cases c1:a.op=9∧b.op=10
  ·simp only[c1.1,c1.2,beq_self_eq_true,Bool.and_self,if_true,and_self]
   rcases Bool.eq_false_or_eq_true (a.name==b.name)with y0 |y0<;>rcases Bool.eq_false_or_eq_true (a.to==b.to)with y1 |y1<;>rcases Bool.eq_false_or_eq_true (a.sep==b.sep)with y2 |y2<;>
    simp only[y0,y1,y2,Bool.not_true,Bool.not_false,Bool.and_true,Bool.and_false,Bool.true_and,Bool.false_and,Bool.false_eq_true,if_true,if_false,Option.bind_some,cC,aC,iC,xB]<;>try rfl
  have d1:(a.op==9&&b.op==10)=false:=by
   cases h:(a.op==9&&b.op==10)with
   |false=>rfl
   |true=>exact absurd (by simpa using h) c1
  by_cases c2:a.op=16∧b.op=17
  ·rw[if_neg c1]
   simp only[d1,c2.1,c2.2,beq_self_eq_true,Bool.and_self,if_true,Bool.false_eq_true,if_false,and_self]
   rcases Bool.eq_false_or_eq_true (a.name==b.name)with y0 |y0<;>
    simp only[y0,Bool.not_true,Bool.not_false,Bool.and_true,Bool.and_false,Bool.true_and,Bool.false_and,Bool.false_eq_true,if_true,if_false,Option.bind_some,cC,aC,iC,xB]<;>try rfl
  have d2:(a.op==16&&b.op==17)=false:=by
   cases h:(a.op==16&&b.op==17)with
   |false=>rfl
   |true=>exact absurd (by simpa using h) c2
  by_cases c3:a.op=5∧b.op=4
  ·rw[if_neg c1,if_neg c2]
   simp only[d1,d2,c3.1,c3.2,beq_self_eq_true,Bool.and_self,if_true,Bool.false_eq_true,if_false,and_self]
   rcases Bool.eq_false_or_eq_true (a.name==b.name)with y0 |y0<;>rcases Bool.eq_false_or_eq_true (a.v.eqv b.v)with y1 |y1<;>
    simp only[y0,y1,Bool.not_true,Bool.not_false,Bool.and_true,Bool.and_false,Bool.true_and,Bool.false_and,Bool.false_eq_true,if_true,if_false,Option.bind_some,cC,aC,iC,xB]<;>try rfl
  have d3:(a.op==5&&b.op==4)=false:=by
   cases h:(a.op==5&&b.op==4)with
   |false=>rfl
   |true=>exact absurd (by simpa using h) c3
  rw[if_neg c1,if_neg c2,if_neg c3]
  simp only[d1,d2,d3,Bool.false_eq_true,if_false]
  try rfl
 by_cases h6:rule=6
 ·subst h6
  have e3:((6:Int)==3)=false:=rfl
  have e4:((6:Int)==4)=false:=rfl
  have e5:((6:Int)==5)=false:=rfl
  simp only[e3,e4,e5,h3,h4,h5,Bool.false_eq_true,if_false,beq_self_eq_true,if_true,aOu,Option.bind_some,fA,gA,iA,sG,rA]
  by_cases x1:a.op=8
  ·by_cases x2:b.op=8
   ·by_cases x3:a.name=b.name
    ·simp only[x1,x2,x3,Bool.and_self,beq_self_eq_true,if_true,and_self,Option.bind_some]
     try rfl
    ·simp only[x1,x2,x3,cI x3,Bool.and_self,beq_self_eq_true,if_true,and_false,if_false,Option.bind_some]
     try rfl
   ·simp only[x1,x2,cI x2,Bool.and_false,false_and,and_false,if_false,Bool.false_eq_true,Option.bind_some]
    try rfl
  ·simp only[x1,cI x1,Bool.false_and,false_and,if_false,Bool.false_eq_true,Option.bind_some]
   try rfl
 by_cases h7:rule=7
 ·subst h7
  have e3:((7:Int)==3)=false:=rfl
  have e4:((7:Int)==4)=false:=rfl
  have e5:((7:Int)==5)=false:=rfl
  have e6:((7:Int)==6)=false:=rfl
  simp only[e3,e4,e5,e6,h3,h4,h5,h6,Bool.false_eq_true,if_false,beq_self_eq_true,if_true,aOu,Option.bind_some,fA,gA,iA,sG,rA]
  by_cases x1:a.op=13
  ·by_cases x2:b.op=13
   ·by_cases x3:a.name=[]
    ·by_cases x4:b.name=[]
     ·have hm:=aTh a b (hka (.inr x1)) (hkb (.inr x2))
      simp only[x1,x2,x3,x4,Bool.and_self,beq_self_eq_true,if_true,hm,Option.bind_some,fA,gA,cC,aC,iC,xB,and_self]
      rw[aVF (by simp),List.map_cons,List.map_nil]
      try rfl
     ·simp only[x1,x2,x3,x4,cI x4,Bool.and_self,beq_self_eq_true,Bool.false_eq_true,if_false,if_true,Option.bind_some,and_false]
      try rfl
    ·simp only[x1,x2,x3,cI x3,Bool.and_self,beq_self_eq_true,Bool.false_eq_true,if_false,if_true,Option.bind_some,and_false,false_and]
     try rfl
   ·simp only[x1,x2,cI x2,Bool.and_false,Bool.false_eq_true,if_false,Option.bind_some,and_false,false_and]
    try rfl
  ·simp only[x1,cI x1,Bool.false_and,Bool.false_eq_true,if_false,Option.bind_some,false_and]
   try rfl
 ·simp only[cI h3,cI h4,cI h5,cI h6,cI h7,h3,h4,h5,h6,h7,Bool.false_eq_true,if_false,Option.bind_some]
def aP1 (l:dA) (rule:Int):Option dA→List Row
 |some o=>[o.row,[.bool true]]
 |none=>[if rule=2 then iF else l.row,[.bool false]]
theorem a8v (l:dA) (hN:l.kids.length≤big):∀(j i:Nat) (b:Bool),i+j=l.kids.length→
 aAZ (cA T) b l.kc (l.kids.length:Int) (i:Int) iF=some (0,[.r [.bool (b&&(l.kids.drop i).all (fun k=>k.op==0))],.r iF])
 |0,i,b,hh=>by
  rw[aHU];unfold aA0
  obtain rfl:i=l.kids.length:=by omega
  rw[List.drop_length,if_neg (by simp)]
  simp
 |j+1,i,b,hh=>by
  rw[aHU];unfold aA0
  have hi:i<l.kids.length:=by omega
  rw[if_pos (dec_lt hi),if_pos (aHZ hi),tT hi,List.drop_eq_getElem_cons hi,List.all_cons,vC,jA,uB (show i≤big by omega)]
  cases b with
  |true=>
   have ih:=a8v l hN j (i+1) (l.kids[i].op==0) (by omega)
   simp only[if_true,ih,Bool.true_and]
  |false=>
   have ih:=a8v l hN j (i+1) false (by omega)
   simp only[Bool.false_eq_true,if_false,ih,Bool.false_and]
theorem a8w (l:dA) (h:nF l) (hA:ArK l) (rule a:Int):(cA T).pc aHP [l.row,[.int rule],[.int a]]=some (aP1 l rule (jU l rule a)):=by
 rw[aT3];unfold aMr jU
 by_cases h2:rule=2
 ·simp only[aKW h2,if_true,if_pos h2]
  unfold aO6
  refine cH.eq (.bind (R:=fun r=>r=(0,[.r [.dp l.row],.r [.bool (a==0&&(l.op==2 ||(l.op==14 ||(l.op==13&&l.name==[]))))],.r iF])) ?_ ?_)
  ·simp only[vC,sG,jA,rA]
   rcases Bool.eq_false_or_eq_true (a==0)with x1 |x1<;>rcases Bool.eq_false_or_eq_true (l.op==2)with x2 |x2<;>rcases Bool.eq_false_or_eq_true (l.op==14)with x3 |x3<;>rcases Bool.eq_false_or_eq_true (l.op==13)with x4 |x4<;>rcases Bool.eq_false_or_eq_true (l.name==[])with x5 |x5<;>
    simp only[x1,x2,x3,x4,x5,Bool.not_true,Bool.not_false,Bool.and_true,Bool.and_false,Bool.true_and,Bool.false_and,Bool.or_true,Bool.or_false,Bool.true_or,Bool.false_or,Bool.false_eq_true,if_true,if_false]<;>exact .some rfl
  rintro r rfl
  have hl:=a8v l h.kids l.kids.length 0 (a==0&&(l.op==2 ||(l.op==14 ||(l.op==13&&l.name==[])))) (by omega)
  rw[List.drop_zero,show ((0:Nat):Int)=0 from rfl]at hl
  simp only[cC,aC,xB,fB,if_true,wA,nD,jD,uC,dA.cD,List.length_map,hl,Option.bind_some]
  cases (a==0&&(l.op==2 ||(l.op==14 ||(l.op==13&&l.name==[]))))&&(l.kids.all fun k=>k.op==0)with
  |true=>exact .some rfl
  |false=>
   refine .some ?_
   simp only[Bool.false_eq_true,if_false,aP1,if_pos h2]
   rfl
 simp only[cI h2,if_neg h2,Bool.false_eq_true,if_false]
 refine cH.eq (.bind (R:=fun r=>r=(0,[.r [.int rule],.r [.int a],.r [.dp l.row],.r [.bool (!decide (l.op=1∧0≤a∧a<(l.kids.length:Int)))],.r iF])) ?_ ?_)
 ·simp only[vC,jA,uC,dA.cD,List.length_map]
  by_cases x1:l.op=1
  ·by_cases x2:0≤a
   ·by_cases x3:a<(l.kids.length:Int)
    ·have e1:decide (a<0)=false:=by simp;omega
     have e2:decide (a≥(l.kids.length:Int))=false:=by simp;omega
     simp only[aXe x1,e1,e2,x1,x2,x3,and_self,decide_true,Bool.not_true,Bool.false_eq_true,if_false]
     exact .some rfl
    ·have e1:decide (a<0)=false:=by simp;omega
     have e2:decide (a≥(l.kids.length:Int))=true:=by simp;omega
     simp only[aXe x1,e1,e2,x1,x2,x3,and_false,decide_false,Bool.not_false,Bool.false_eq_true,if_false]
     exact .some rfl
   ·have e1:decide (a<0)=true:=by simp;omega
    simp only[aXe x1,e1,x1,x2,and_false,false_and,decide_false,Bool.not_false,Bool.false_eq_true,if_false]
    exact .some rfl
  ·simp only[aT5 x1,x1,false_and,decide_false,Bool.not_false,if_true]
   exact .some rfl
 rintro r rfl
 simp only[cC,aC,iC,xB,wC,rC,nD,jD,fB,wA,if_true]
 by_cases hc:l.op=1∧0≤a∧a<(l.kids.length:Int)
 ·simp only[decide_eq_true hc,Bool.not_true,Bool.false_eq_true,if_false,if_pos hc]
  obtain ⟨n,rfl⟩:=Int.eq_ofNat_of_zero_le hc.2.1
  have hn:n<l.kids.length:=by omega
  rw[uC,if_pos (aHZ hn),tT hn,vC,jA,Int.toNat_natCast,uZ hn]
  have hko:=h.kid (List.getElem_mem hn)
  have hk:=h.kids
  have fin:∀(m:Nat) (c:C) (by':List dA),n+m≤l.kids.length→m≤2→Sl c (by'.map dA.row)→by'.length≤big→
   ((cA T).pc dD [[l.kc],[.int (n:Int)],[.int (m:Int)],[c]]).bind (fun y20=>
     if ((((at_ (aA y20 0) 0).rows).length:Int)==0)=true then some [iF,[.bool true]]
     else if ((((at_ (aA y20 0) 0).rows).length:Int)==1)=true then
      (if (0:Int)≤0∧0<(((at_ (aA y20 0) 0).rows).length:Int)then some [aA ((at_ (aA y20 0) 0).rows) 0,[.bool true]]else none)
     else some [[.int 1,.str [],.str [],.bA,.int 0,.int 0,.int 0,.int 0,.int 0,.int 0,.str [],.bA,.bA,at_ (aA y20 0) 0],[.bool true]])=some [(aFr l.kids n m by').row,[.bool true]]:=by
   intro m c by' hm hm2 hsl hb
   obtain ⟨c',e1,e2⟩:=aRm (a01 l) hsl n m (by rw[List.length_map];exact hm) hm2 (by rw[List.length_map];exact hk) (by rw[List.length_map];exact hb)
   rw[e1,Option.bind_some]
   have e3:Sl c' ((l.kids.take n++by'++l.kids.drop (n+m)).map dA.row):=by simpa only[List.map_append,List.map_take,List.map_drop]using e2
   have e4:=a02 e3
   simp only[fA,gA]
   rcases Bool.eq_false_or_eq_true ((c'.rows.length:Int)==0)with x1 |x1<;>rcases Bool.eq_false_or_eq_true ((c'.rows.length:Int)==1)with x2 |x2<;>simp only[x1,x2,if_true,Bool.false_eq_true,if_false]at e4⊢
   ·injection e4 with e4;injection e4 with e4
    rw[e4];rfl
   ·injection e4 with e4;injection e4 with e4
    rw[e4];rfl
   ·by_cases hh:(0:Int)≤0∧0<(c'.rows.length:Int)
    ·rw[if_pos hh]at e4
     refine (if_pos hh).trans ?_
     injection e4 with e4;injection e4 with e4
     rw[e4];rfl
    ·rw[if_neg hh]at e4;cases e4
   ·injection e4 with e4;injection e4 with e4
    rw[e4];rfl
  by_cases h0:rule=0
  ·simp only[aKW h0,if_pos h0,if_true,Option.bind_some,cC,aC,iC,xB,wC,rC,fB,wA,uC]
   by_cases x1:l.kids[n].op=1
   ·rw[if_pos x1,aKW x1]
    have e:=fin 1 l.kids[n].kc l.kids[n].kids (by omega) (by omega) (a01 _) hko.kids
    exact ⟨_,e,rfl⟩
   ·rw[if_neg x1,cI x1]
    refine .some ?_
    first |rfl |(simp only[Option.map_none,aP1,if_neg h2,iC,xB,wA]<;>try rfl)
  simp only[cI h0,if_neg h0,Bool.false_eq_true,if_false]
  by_cases h1:rule=1
  ·simp only[aKW h1,if_pos h1,if_true,Option.bind_some,cC,aC,iC,xB,wC,rC,fB,wA,uC]
   by_cases x1:l.kids[n].op=0
   ·rw[if_pos x1,aKW x1]
    have e:=fin 1 .bA [] (by omega) (by omega) Sl.bA (by simp)
    exact ⟨_,e,rfl⟩
   ·rw[if_neg x1,cI x1]
    refine .some ?_
    first |rfl |(simp only[Option.map_none,aP1,if_neg h2,iC,xB,wA]<;>try rfl)
  simp only[cI h1,if_neg h1,Bool.false_eq_true,if_false]
  rw[uB (show n≤big by omega),dA.cD,List.length_map]
  by_cases h5:n+1<l.kids.length
  ·have d1:decide (((n+1:Nat):Int)<(l.kids.length:Int))=true:=by simp;omega
   rw[d1,if_pos (show true=true from rfl),if_pos (show (0:Int)≤((n+1:Nat):Int)∧((n+1:Nat):Int)<(l.kids.length:Int) by omega),if_pos (show (n:Int)+1<(l.kids.length:Int) by omega),uZ h5,←dA.cD l,tT h5]
   have hb:=(h.kid (List.getElem_mem h5))
   rw[aT6 l.kids[n] l.kids[n+1] rule hko.wf hb.wf hko.v (hA _ (List.getElem_mem hn)) (hA _ (List.getElem_mem h5))]
   unfold aSy
   cases hp:aDm l.kids[n] l.kids[n+1] rule with
   |none=>
    refine .some ?_
    first |rfl |(simp only[Option.map_none,aP1,if_neg h2,iC,xB,wA]<;>try rfl)
   |some by'=>
    have hl:=aX5 hp
    simp only[fA,iD,gA,iA,Bool.not_true,Bool.false_eq_true,if_false,Option.map_some,Option.bind_some,cC,aC,iC,xB,wC,rC,fB,wA,if_true,uC]
    have hsl:Sl (if rule=6 then C.sl [l.kids[n+1].row]else iJ true (by'.map dA.row)) (by'.map dA.row):=by
     by_cases h6:rule=6
     ·rw[if_pos h6]
      subst h6
      unfold aDm at hp
      rw[if_neg (by omega),if_neg (by omega),if_neg (by omega),if_pos rfl]at hp
      split at hp
      ·injection hp with hp;subst hp;exact Sl.sl _
      ·cases hp
     ·rw[if_neg h6];exact Sl.iJ _ _
    have e:=fin 2 _ by' (by omega) (by omega) hsl (by unfold big;omega)
    exact ⟨_,e,rfl⟩
  ·have d1:decide (((n+1:Nat):Int)<(l.kids.length:Int))=false:=by simp;omega
   rw[d1,if_neg (show ¬false=true by simp),if_neg (show ¬(n:Int)+1<(l.kids.length:Int) by omega)]
   refine .some ?_
   first |rfl |(simp only[Option.map_none,aP1,if_neg h2,iC,xB,wA]<;>try rfl)
 ·simp only[decide_eq_false hc,Bool.not_false,if_true,if_neg hc]
  refine .some ?_
  first |rfl |(simp only[Option.map_none,aP1,if_neg h2,iC,xB,wA]<;>try rfl)
def bHg (r:List Row):Option dA→Prop
 |some o=>r=[o.row,[.bool true]]
 |none=>∃row,r=[row,[.bool false]]
theorem a04 (l:dA) (k:dA) (r:List dA):(aJ6 l (k::r)).row=[.int l.op,.str l.name,.str l.to,iJ l.nb (l.names.map cF),.int l.n,.int l.low,.int l.high,.int l.sep,.int l.v.k,.int l.v.n,.str l.v.s,l.v.fc,iJ l.pb (l.pairs.map sA),.sl ((k::r).map dA.row)]:=by
 have e:=dA.aZ6 (aJ6 l (k::r))
 have e2:(aJ6 l (k::r)).kids=k::r:=rfl
 have e3:(aJ6 l (k::r)).kb=true:=rfl
 rw[e2,e3,aVF (by simp)]at e
 rw[dA.row,e]
 rfl
theorem a23 {α:Type} (l:List α) (i:Nat) (x:α) (h:i<l.length):l.take i++[x]++l.drop (i+1)=l.set i x:=by
 rw[List.set_eq_take_append_cons_drop,if_pos h];simp
theorem aVH (rule a:Int):∀(p:List Int) (l:dA),nF l→ArA l→∀c:C,c.rows=dB p→∃r,(cA T).pc qZ [l.row,[c],[.int rule],[.int a]]=some r∧bHg r (bV rule a p l)
 |[],l,h,hA,c,hc=>by
  rw[aIP];unfold aC7
  rw[if_pos (by rw[hc];rfl),a8w l h hA.kids,Option.bind_some]
  refine ⟨_,rfl, ?_⟩
  unfold bV
  cases jU l rule a with
  |some o=>rfl
  |none=>exact ⟨_,rfl⟩
 |i::p,l,h,hA,c,hc=>by
  rw[aIP];unfold aC7
  have hl:c.rows.length=p.length+1:=by rw[hc,vJ,List.length_cons]
  have h0:(at_ (aA c.rows 0) 0).tA=i:=by rw[hc];rfl
  have hix:(0:Int)≤0∧0<(c.rows.length:Int):=⟨by omega,by rw[hl];omega⟩
  rw[if_neg (by rw[hl];simp<;>omega),if_pos hix]
  simp only[h0,hix,and_self,if_true,uC,dA.cD,List.length_map]
  unfold bV
  by_cases hi:0≤i∧i<(l.kids.length:Int)
  ·rw[if_pos hi]
   obtain ⟨n,rfl⟩:=Int.eq_ofNat_of_zero_le hi.1
   have hn:n<l.kids.length:=by omega
   have d1:decide ((n:Int)<0)=false:=decide_eq_false (by omega)
   have d2:decide ((n:Int)≥(l.kids.length:Int))=false:=by simp;omega
   simp only[d1,d2,Bool.false_eq_true,if_false,Option.bind_some,cC,aC,iC,xB,wC,rC,nD,jD,h0,hix,and_self,if_true,uC,dA.cD,List.length_map,hi]
   rw[if_pos (show (0:Int)≤1∧1≤(c.rows.length:Int)∧(c.rows.length:Int)≤(c.rows.length:Int) by rw[hl];omega),←dA.cD l,tT hn,Int.toNat_natCast,uZ hn]
   have ht:(qR c 1 (c.rows.length:Int)).rows=dB p:=a05 c _ _ hc
   obtain ⟨r,e1,e2⟩:=aVH rule a p l.kids[n] (h.kid (List.getElem_mem hn)) (hA.kid (List.getElem_mem hn)) _ ht
   have hk:=h.kids
   rw[e1,Option.bind_some]
   obtain ⟨c',e3,e4⟩:=aRm (a01 l) (Sl.sl [aA r 0]) n 1 (by rw[List.length_map];omega) (by omega) (by rw[List.length_map];exact hk) (by unfold big;simp)
   have e3':(cA T).pc dD [[l.kc],[.int (n:Int)],[.int 1],[.sl [aA r 0]]]=some [[c']]:=e3
   rw[e3',Option.bind_some]
   refine ⟨_,rfl, ?_⟩
   cases hp:bV rule a p l.kids[n]with
   |none=>
    rw[hp]at e2
    obtain ⟨row,rfl⟩:=e2
    exact ⟨_,rfl⟩
   |some o=>
    rw[hp]at e2
    have e2:r=[o.row,[.bool true]]:=e2
    subst e2
    rw[fA]at e4
    have e5:(l.kids.map dA.row).take n++[o.row]++(l.kids.map dA.row).drop (n+1)=(l.kids.set n o).map dA.row:=by
     rw[a23 _ _ _ (by rw[List.length_map];exact hn),List.map_set]
    rw[e5]at e4
    obtain ⟨x,y,hxy⟩:∃x y,l.kids.set n o=x::y:=by
     cases hk2:l.kids.set n o with
     |nil=>
      have:=congrArg List.length hk2
      simp at this
      rw[this]at hn;simp at hn
     |cons x y=>exact ⟨x,y,rfl⟩
    rw[hxy]at e4
    have e6:=e4.ne (by simp)
    show _=[(aJ6 l (l.kids.set n o)).row,[.bool true]]
    rw[hxy,a04,e6]
    rfl
  ·rw[if_neg hi]
   by_cases hneg:i<0
   ·rw[if_pos (decide_eq_true hneg)]
    exact ⟨_,rfl,_,rfl⟩
   ·have d2:decide (i≥(l.kids.length:Int))=true:=by simp;omega
    rw[if_neg (by simpa using hneg),d2]
    exact ⟨_,rfl,_,rfl⟩
end Go.Ev.jJ
