/-
  A part of the proof: what the functions of the program compute.
-/
import Derived.Test.YtdhebofenihjmaaGreatDoorZS
import Derived.Lib.ItoaLen
set_option linter.all false
set_option maxRecDepth 100000
namespace Go.Ev.dJ
def aBP:List Bytes:=[[115,97,109,101,58],[116,104,101,110,58,43],[97,116,58,110,49],[114,101,110,97,109,101,58,110,116],[100,114,111,112,58,110,118],[97,100,100,58,110,118],[110,101,115,116,58,116,115],[102,108,97,116,58,110],[109,111,118,101,58,110,105],[115,112,108,105,116,58,110,116,115,112],[103,108,117,101,58,110,116,112],[108,111,111,107,58,108],[110,117,109,98,101,114,58,98],[101,97,99,104,58,110,49],[99,97,115,101,58,115,43],[115,101,108,101,99,116,58,110,118],[116,97,103,58,110],[117,110,116,97,103,58,110],[102,105,108,108,58,118]]
theorem a1l:(eA T).pc aKr [[.str [115,97,109,101,58,32,116,104,101,110,58,43,32,97,116,58,110,49,32,114,101,110,97,109,101,58,110,116,32,100,114,111,112,58,110,118,32,97,100,100,58,110,118,32,110,101,115,116,58,116,115,32,102,108,97,116,58,110,32,109,111,118,101,58,110,105,32,115,112,108,105,116,58,110,116,115,112,32,103,108,117,101,58,110,116,112,32,108,111,111,107,58,108,32,110,117,109,98,101,114,58,98,32,101,97,99,104,58,110,49,32,99,97,115,101,58,115,43,32,115,101,108,101,99,116,58,110,118,32,116,97,103,58,110,32,117,110,116,97,103,58,110,32,102,105,108,108,58,118]]]=some [[.sl (aBP.map fF)]]:=(gQ T).2 ⟨300,by kernel_rfl⟩
def hasB (u:Bytes) (c:Int):Bool:=decide (aM8 u c.toNat.toUInt8≥0)
theorem aKQ (u:Bytes) (c:Int):(eA T).pc dG [[.str u],[.int c]]=some [[.bool (hasB u c)]]:=by
 rw[aTU];unfold aMh
 rw[aE0];unfold strings_IndexByte
 rw[fO];unfold jF
 rfl
theorem bAh {n:Nat} (h:n<19) {w u:Bytes} (hc:(eA T).pc aJF [[.str (aBP.getD n [])],[.str [58]]]=some [[.str w],[.str u],[.bool true]]):(eA T).pc aAK [[.int (n:Int)]]=some [[.str w],[.str u]]:=by
 rw[aSm];unfold aJE
 refine yH.eq (.jB a1l ?_)
 have hl:aBP.length=19:=rfl
 refine .pos ⟨by omega,by show (n:Int)<((aBP.map fF).length:Int);rw[List.length_map,hl];omega⟩ ?_
 have e:(at_ (aA (at_ (aA [[C.sl (aBP.map fF)]] 0) 0).rows (n:Int).toNat) 0).qE=aBP.getD n []:=by
  show (at_ (aA (aBP.map fF) (n:Int).toNat) 0).qE=_
  rw[Int.toNat_natCast,iC _ _ _ (by omega),List.getD_eq_getElem?_getD,List.getElem?_eq_getElem (by omega)];rfl
 rw[e]
 exact .jB hc (.some rfl)
structure Fl where (n t s i b p v l:Bool) (k:Int)
def Fl.row (f:Fl):Row:=[.bool f.n,.bool f.t,.bool f.s,.bool f.i,.bool f.b,.bool f.p,.bool f.v,.bool f.l,.int f.k]
structure aFW (op:Int) (f:Fl) (w u:Bytes):Prop where
 table:(eA T).pc aLN [[.int op]]=some [f.row]
 used:(eA T).pc aAK [[.int op]]=some [[.str w],[.str u]]
 n:hasB u 110=f.n
 t:hasB u 116=f.t
 s:hasB u 115=f.s
 i:hasB u 105=f.i
 b:hasB u 98=f.b
 p:hasB u 112=f.p
 v:hasB u 118=f.v
 l:hasB u 108=f.l
 k1:hasB u 49=(f.k==1)
 k2:hasB u 43=(f.k== -1)
 k:f.k=0∨f.k=1∨f.k= -1
 o5:op=5→f.v=true
 o15:op=15→f.v=true
theorem aMz {n:Nat} (h:n<19) {f:Fl} {w u:Bytes} (ht:(tC T 5).pc aLN [[.int (n:Int)]]=some [f.row]) (hc:(tC T 100).pc aJF [[.str (aBP.getD n [])],[.str [58]]]=some [[.str w],[.str u],[.bool true]])
 (hb:(hasB u 110==f.n&&hasB u 116==f.t&&hasB u 115==f.s&&hasB u 105==f.i&&hasB u 98==f.b&&hasB u 112==f.p&&hasB u 118==f.v&&hasB u 108==f.l&&hasB u 49==(f.k==1)&&hasB u 43==(f.k== -1)&&(f.k==0 ||f.k==1 ||f.k== -1)&&(!(n==5)||f.v)&&(!(n==15)||f.v))=true):aFW (n:Int) f w u:=by
 simp only[Bool.and_eq_true,Bool.or_eq_true,beq_iff_eq,Bool.not_eq_true',beq_eq_false_iff_ne]at hb
 obtain ⟨⟨⟨⟨⟨⟨⟨⟨⟨⟨⟨⟨b1,b2⟩,b3⟩,b4⟩,b5⟩,b6⟩,b7⟩,b8⟩,b9⟩,b10⟩,b11⟩,b12⟩,b13⟩:=hb
 refine ⟨(gQ T).2 ⟨5,ht⟩,bAh h ((gQ T).2 ⟨100,hc⟩),b1,b2,b3,b4,b5,b6,b7,b8,b9,b10,by omega,fun e=> ?_,fun e=> ?_⟩
 ·rcases b12 with x |x
  ·omega
  ·exact x
 ·rcases b13 with x |x
  ·omega
  ·exact x
theorem op0:aFW 0 ⟨false,false,false,false,false,false,false,false,0⟩ [115,97,109,101] []:=aMz (n:=0) (by omega) (by kernel_rfl) (by kernel_rfl) (by kernel_rfl)
theorem op1:aFW 1 ⟨false,false,false,false,false,false,false,false, -1⟩ [116,104,101,110] [43]:=aMz (n:=1) (by omega) (by kernel_rfl) (by kernel_rfl) (by kernel_rfl)
theorem op2:aFW 2 ⟨true,false,false,false,false,false,false,false,1⟩ [97,116] [110,49]:=aMz (n:=2) (by omega) (by kernel_rfl) (by kernel_rfl) (by kernel_rfl)
theorem op3:aFW 3 ⟨true,true,false,false,false,false,false,false,0⟩ [114,101,110,97,109,101] [110,116]:=aMz (n:=3) (by omega) (by kernel_rfl) (by kernel_rfl) (by kernel_rfl)
theorem op4:aFW 4 ⟨true,false,false,false,false,false,true,false,0⟩ [100,114,111,112] [110,118]:=aMz (n:=4) (by omega) (by kernel_rfl) (by kernel_rfl) (by kernel_rfl)
theorem op5:aFW 5 ⟨true,false,false,false,false,false,true,false,0⟩ [97,100,100] [110,118]:=aMz (n:=5) (by omega) (by kernel_rfl) (by kernel_rfl) (by kernel_rfl)
theorem op6:aFW 6 ⟨false,true,true,false,false,false,false,false,0⟩ [110,101,115,116] [116,115]:=aMz (n:=6) (by omega) (by kernel_rfl) (by kernel_rfl) (by kernel_rfl)
theorem op7:aFW 7 ⟨true,false,false,false,false,false,false,false,0⟩ [102,108,97,116] [110]:=aMz (n:=7) (by omega) (by kernel_rfl) (by kernel_rfl) (by kernel_rfl)
theorem op8:aFW 8 ⟨true,false,false,true,false,false,false,false,0⟩ [109,111,118,101] [110,105]:=aMz (n:=8) (by omega) (by kernel_rfl) (by kernel_rfl) (by kernel_rfl)
theorem op9:aFW 9 ⟨true,true,true,false,false,true,false,false,0⟩ [115,112,108,105,116] [110,116,115,112]:=aMz (n:=9) (by omega) (by kernel_rfl) (by kernel_rfl) (by kernel_rfl)
theorem bJ0:aFW 10 ⟨true,true,false,false,false,true,false,false,0⟩ [103,108,117,101] [110,116,112]:=aMz (n:=10) (by omega) (by kernel_rfl) (by kernel_rfl) (by kernel_rfl)
theorem bJ1:aFW 11 ⟨false,false,false,false,false,false,false,true,0⟩ [108,111,111,107] [108]:=aMz (n:=11) (by omega) (by kernel_rfl) (by kernel_rfl) (by kernel_rfl)
theorem bJ2:aFW 12 ⟨false,false,false,false,true,false,false,false,0⟩ [110,117,109,98,101,114] [98]:=aMz (n:=12) (by omega) (by kernel_rfl) (by kernel_rfl) (by kernel_rfl)
theorem bHa:aFW 13 ⟨true,false,false,false,false,false,false,false,1⟩ [101,97,99,104] [110,49]:=aMz (n:=13) (by omega) (by kernel_rfl) (by kernel_rfl) (by kernel_rfl)
theorem bHb:aFW 14 ⟨false,false,true,false,false,false,false,false, -1⟩ [99,97,115,101] [115,43]:=aMz (n:=14) (by omega) (by kernel_rfl) (by kernel_rfl) (by kernel_rfl)
theorem bJ3:aFW 15 ⟨true,false,false,false,false,false,true,false,0⟩ [115,101,108,101,99,116] [110,118]:=aMz (n:=15) (by omega) (by kernel_rfl) (by kernel_rfl) (by kernel_rfl)
theorem bJ4:aFW 16 ⟨true,false,false,false,false,false,false,false,0⟩ [116,97,103] [110]:=aMz (n:=16) (by omega) (by kernel_rfl) (by kernel_rfl) (by kernel_rfl)
theorem bJ5:aFW 17 ⟨true,false,false,false,false,false,false,false,0⟩ [117,110,116,97,103] [110]:=aMz (n:=17) (by omega) (by kernel_rfl) (by kernel_rfl) (by kernel_rfl)
theorem bJ6:aFW 18 ⟨false,false,false,false,false,false,true,false,0⟩ [102,105,108,108] [118]:=aMz (n:=18) (by omega) (by kernel_rfl) (by kernel_rfl) (by kernel_rfl)
theorem a4i {op:Int} (h0:0≤op) (h1:op<19):∃f w u,aFW op f w u:=by
 have:op=0∨op=1∨op=2∨op=3∨op=4∨op=5∨op=6∨op=7∨op=8∨op=9∨op=10∨op=11∨op=12∨op=13∨op=14∨op=15∨op=16∨op=17∨op=18:=by omega
 rcases this with rfl |rfl |rfl |rfl |rfl |rfl |rfl |rfl |rfl |rfl |rfl |rfl |rfl |rfl |rfl |rfl |rfl |rfl |rfl
 ·exact ⟨_,_,_,op0⟩
 ·exact ⟨_,_,_,op1⟩
 ·exact ⟨_,_,_,op2⟩
 ·exact ⟨_,_,_,op3⟩
 ·exact ⟨_,_,_,op4⟩
 ·exact ⟨_,_,_,op5⟩
 ·exact ⟨_,_,_,op6⟩
 ·exact ⟨_,_,_,op7⟩
 ·exact ⟨_,_,_,op8⟩
 ·exact ⟨_,_,_,op9⟩
 ·exact ⟨_,_,_,bJ0⟩
 ·exact ⟨_,_,_,bJ1⟩
 ·exact ⟨_,_,_,bJ2⟩
 ·exact ⟨_,_,_,bHa⟩
 ·exact ⟨_,_,_,bHb⟩
 ·exact ⟨_,_,_,bJ3⟩
 ·exact ⟨_,_,_,bJ4⟩
 ·exact ⟨_,_,_,bJ5⟩
 ·exact ⟨_,_,_,bJ6⟩
end Go.Ev.dJ
namespace Go.Ev.dJ
noncomputable def aAY:List Bytes→List Bytes→Int
 |_,[]=>0
 |pre,s::r=>if nm s=false then 15 else if s∈pre then 5 else aAY (pre++[s]) r
noncomputable def aSA (l:List Bytes):Int:=if l=[]then 3 else aAY [] l
theorem a3d (s:Bytes):at_ (fF s) 0= .str s:=rfl
theorem a4q (s:Bytes) (c:C) (l:List Bytes) (hc:c.rows=l.map fF) (hN:l.length≤big):∀(j i:Nat),i+j=l.length→
 yH (fun r=>(r=(0,[])∧s∉l.drop i)∨∃n:Nat,r=(1,[.r [.int (n:Int)]])∧s∈l.drop i) (kM (eA T) c s (l.length:Int) (i:Int))
 |0,i,h=>by
  rw[j5];unfold lM
  obtain rfl:i=l.length:=by omega
  exact .ite (fun h=>absurd h aC8) fun _=> .some (.inl ⟨rfl,by simp⟩)
 |j+1,i,h=>by
  rw[j5];unfold lM
  have hi:i<l.length:=by omega
  refine .pos (dec_lt hi) (.pos (aFc (by rw[hc];simpa using hi)) ?_)
  rw[hc,Int.toNat_natCast,iC _ _ _ hi,a3d,rA,xB (show i≤big by omega)]
  have hd:=List.drop_eq_getElem_cons hi
  refine .ite (fun h=> .some (.inr ⟨i,rfl, ?_⟩)) fun h=>(a4q s c l hc hN j (i+1) (by omega)).mono ?_
  ·simp only[beq_iff_eq]at h;rw[hd,h];exact List.mem_cons_self
  ·simp only[beq_iff_eq]at h
   rintro r (⟨e,h1⟩|⟨n,e,h1⟩)
   ·refine .inl ⟨e, ?_⟩
    rw[hd]
    exact fun hm=>(List.mem_cons.1 hm).elim h h1
   ·exact .inr ⟨n,e,by rw[hd];exact List.mem_cons.2 (.inr h1)⟩
theorem aW9 (s:Bytes) (c:C) (l:List Bytes) (hc:c.rows=l.map fF) (hN:l.length≤big):(eA T).pc pP [[c],[.str s]]=some [[.bool (decide (s∈l))]]:=by
 refine yH.eq ?_
 rw[aIc];unfold xS
 have:yH (fun r=>∃n:Int,r=[[.int n]]∧(decide (n≥0)=decide (s∈l))) ((eA T).pc hU [[c],[.str s]]):=by
  rw[aMs];unfold n8
  rw[hc,List.length_map]
  refine .bind (a4q s c l hc hN l.length 0 (by omega)) ?_
  rw[List.drop_zero]
  rintro r (⟨rfl,h1⟩|⟨n,rfl,h1⟩)
  ·exact .some ⟨-1,rfl,by simp[h1]⟩
  ·exact .some ⟨n,rfl,by simp[h1]⟩
 refine .bind this ?_
 rintro r ⟨n,rfl,e⟩
 refine .some ?_
 rw[←e];rfl
theorem a8L {c:C} {l:List Bytes} (hc:c.rows=l.map fF) (i:Nat):(eR c 0 (i:Int)).rows=(l.take i).map fF:=by
 cases c<;>simp[eR,C.rows]at hc⊢<;>simp[←List.map_take,hc]
theorem a4r (c:C) (l:List Bytes) (hc:c.rows=l.map fF) (hN:l.length≤big):∀(j i:Nat),i+j=l.length→
 aAj (eA T) c c (l.length:Int) (i:Int)=some (if aAY (l.take i) (l.drop i)=0 then (0,[])else (1,[.r [.int (aAY (l.take i) (l.drop i))]]))
 |0,i,h=>by
  rw[aKE];unfold aEu
  obtain rfl:i=l.length:=by omega
  simp[aAY]
 |j+1,i,h=>by
  rw[aKE];unfold aEu
  have hi:i<l.length:=by omega
  have ih:=a4r c l hc hN j (i+1) (by omega)
  refine yH.eq ?_
  refine .pos (dec_lt hi) (.pos (aFc (by rw[hc];simpa using hi)) ?_)
  rw[hc,Int.toNat_natCast,iC _ _ _ hi,a3d,rA,List.drop_eq_getElem_cons hi,xB (show i≤big by omega),aAY]
  refine .jB (aG8 _) ?_
  simp only[cA,gA,jA]
  cases hn:nm l[i]with
  |false=>simp only[Bool.not_false,if_true];exact .some rfl
  |true=>
   simp only[Bool.not_true,Bool.false_eq_true,if_false,if_true]
   refine .pos ⟨by omega,by omega,by rw[List.length_map];omega⟩ ?_
   refine .jB (aW9 _ _ (l.take i) (a8L hc i) (by simp;omega)) ?_
   simp only[cA,gA,jA,ih,List.take_add_one,List.getElem?_eq_getElem hi,Option.toList_some]
   by_cases hm:l[i]∈l.take i
   ·simp only[hm,decide_true,if_true];exact .some rfl
   ·simp only[hm,decide_false,Bool.false_eq_true,if_false];exact .some rfl
theorem aVR (c:C) (l:List Bytes) (hc:c.rows=l.map fF) (hN:l.length≤big):(eA T).pc aGu [[c]]=some [[.int (aSA l)]]:=by
 rw[aW1];unfold aPz aSA
 have:=a4r c l hc hN l.length 0 (by omega)
 rw[List.take_zero,List.drop_zero]at this
 rw[hc,List.length_map]
 by_cases h:l=[]
 ·subst h;rfl
 ·have hl:¬((l.length:Int)==0)=true:=by
   have:l.length≠0:=by simpa using h
   simp;exact h
  simp only[hl,Bool.false_eq_true,if_false,h]
  show (aAj (eA T) c c (l.length:Int) ((0:Nat):Int)).bind _=_
  rw[this]
  by_cases h0:aAY [] l=0<;>simp[h0]
theorem a4s (a b:Bytes):ceq lS.ks [.str a] [.str b]=(a==b):=by simp[L.ks,ceq]
theorem aVS (a b:Bytes) (v:Row):∀m:List (Row×Row),(∀p∈m,∃s,p.1=[C.str s])→sJ lS [.str b] (aQ lS [.str a] v m)=if b=a then some v else sJ lS [.str b] m
 |[],_=>by
  simp only[aQ,sJ,a4s,beq_iff_eq]
 |(k,u)::r,h=>by
  obtain ⟨s,hs⟩:=h (k,u) (by simp)
  simp only at hs
  subst hs
  have ih:=aVS a b v r fun p hp=>h p (by simp[hp])
  simp only[aQ,a4s,beq_iff_eq]
  by_cases e:a=s
  ·subst e
   simp only[if_true,sJ,a4s,beq_iff_eq]
   by_cases e2:b=a<;>simp[e2]
  ·simp only[e,if_false,sJ,a4s,beq_iff_eq,ih]
   by_cases e2:b=s
   ·subst e2;simp[Ne.symm e]
   ·simp[e2]
theorem a1m (a:Bytes) (v:Row):∀m:List (Row×Row),(∀p∈m,∃s,p.1=[C.str s])→∀p∈aQ lS [.str a] v m,∃s,p.1=[C.str s]
 |[],_,p,hp=>by simp only[aQ,List.mem_singleton]at hp;subst hp;exact ⟨a,rfl⟩
 |(k,u)::r,h,p,hp=>by
  simp only[aQ]at hp
  split at hp
  ·rcases List.mem_cons.1 hp with e |e
   ·subst e;exact h (k,u) (by simp)
   ·exact h p (by simp[e])
  ·rcases List.mem_cons.1 hp with e |e
   ·subst e;exact h (k,u) (by simp)
   ·exact a1m a v r (fun p hp=>h p (by simp[hp])) p e
structure aT0 (zero one:C) (pre:List Bytes) (m:List (Row×Row)):Prop where
 keys:∀p∈m,∃s,p.1=[C.str s]
 look:∀s,(sJ lS [.str s] m).getD [zero]=[if s∈pre then one else zero]
theorem aT0.nil {zero one:C}:aT0 zero one [] []:=⟨fun p h=>absurd h (by simp),fun s=>by simp[sJ]⟩
theorem aT0.add {zero one:C} {pre:List Bytes} {m:List (Row×Row)} (h:aT0 zero one pre m) (s:Bytes):aT0 zero one (pre++[s]) (aQ lS [.str s] [one] m):=by
 refine ⟨a1m s _ m h.keys,fun b=> ?_⟩
 rw[aVS s b _ m h.keys]
 by_cases e:b=s
 ·subst e;simp
 ·simp only[e,if_false,h.look b,List.mem_append,List.mem_singleton,or_false]
theorem distinct_l (c:C) (l:List Bytes) (hc:c.rows=l.map fF) (hN:l.length≤big):∀(j i:Nat) (m:List (Row×Row)),i+j=l.length→aT0 (.int 0) (.int 1) (l.take i) m→
 gK (eA T) c (l.length:Int) (i:Int) m=some (if aAY (l.take i) (l.drop i)=0 then (0,[])else (1,[.r [.int (aAY (l.take i) (l.drop i))]]))
 |0,i,m,h,hm=>by
  rw[aBN];unfold cP
  obtain rfl:i=l.length:=by omega
  simp[aAY]
 |j+1,i,m,h,hm=>by
  rw[aBN];unfold cP
  have hi:i<l.length:=by omega
  refine yH.eq ?_
  refine .pos (dec_lt hi) (.pos (aFc (by rw[hc];simpa using hi)) ?_)
  rw[hc,Int.toNat_natCast,iC _ _ _ hi,a3d,rA,List.drop_eq_getElem_cons hi,xB (show i≤big by omega),aAY]
  refine .jB (aG8 _) ?_
  simp only[cA,gA,jA]
  cases hn:nm l[i]with
  |false=>simp only[Bool.not_false,if_true];exact .some rfl
  |true=>
   simp only[Bool.not_true,Bool.false_eq_true,if_false,if_true]
   rw[aVS _ _ _ m hm.keys,if_pos rfl,hm.look]
   by_cases hmm:l[i]∈l.take i
   ·simp only[hmm,if_true,gA,iA,Option.getD_some]
    exact .some rfl
   ·simp only[hmm,if_false,gA,iA,Option.getD_some]
    have ih:=distinct_l c l hc hN j (i+1) (aQ lS [.str l[i]] [.int 1] m) (by omega) (by rw[List.take_add_one,List.getElem?_eq_getElem hi];exact hm.add _)
    rw[List.take_add_one,List.getElem?_eq_getElem hi]at ih
    exact ⟨_,ih,rfl⟩
theorem aO1 (c:C) (l:List Bytes) (hc:c.rows=l.map fF) (hN:l.length≤big):(eA T).pc zP [[c]]=some [[.int (aSA l)]]:=by
 rw[aNP];unfold aCF aSA
 have:=distinct_l c l hc hN l.length 0 [] (by omega) .nil
 rw[List.take_zero,List.drop_zero]at this
 rw[hc,List.length_map]
 by_cases h:l=[]
 ·subst h;rfl
 ·have hl:¬((l.length:Int)==0)=true:=by
   simp;exact h
  simp only[hl,Bool.false_eq_true,if_false,h]
  show (gK (eA T) c (l.length:Int) ((0:Nat):Int) []).bind _=_
  rw[this]
  by_cases h0:aAY [] l=0<;>simp[h0]
def bEr (l:List UInt8):Nat:=l.foldl (fun a d=>10*a+(d.toNat - 48)) 0
theorem a4t {k:Nat} (h:k<10):(UInt8.ofNat (48+k)).toNat=48+k:=by simp;omega
theorem aVT (u:Nat):bEr (Lib.decDigits u)=u:=by
 rw[Lib.decDigits]
 split
 ·rename_i h;simp only[bEr,List.foldl_cons,List.foldl_nil,a4t h];omega
 ·rename_i h
  have ih:=aVT (u/10)
  unfold bEr at ih⊢
  rw[List.foldl_append,ih,List.foldl_cons,List.foldl_nil,a4t (by omega)]
  omega
 termination_by u
 decreasing_by omega
theorem aZK (u:Nat):∀d∈Lib.decDigits u,48≤d.toNat:=by
 rw[Lib.decDigits]
 split
 ·rename_i h;intro d hd;simp only[List.mem_singleton]at hd;rw[hd,a4t h];omega
 ·rename_i h
  intro d hd
  rcases List.mem_append.1 hd with e |e
  ·exact aZK (u/10) d e
  ·simp only[List.mem_singleton]at e;rw[e,a4t (by omega)];omega
 termination_by u
 decreasing_by omega
theorem a4u {u v:Nat} (h:Lib.decDigits u=Lib.decDigits v):u=v:=by rw[←aVT u,h,aVT]
theorem a8M {a b:Int} (h:Lib.itoa a=Lib.itoa b):a=b:=by
 unfold Lib.itoa at h
 split at h<;>split at h
 ·have:=a4u (List.cons.inj h).2;omega
 ·have:=aZK b.toNat 45 (by rw[←h];simp)
  exact absurd this (by decide)
 ·have:=aZK a.toNat 45 (by rw[h];simp)
  exact absurd this (by decide)
 ·have:=a4u h;omega
end Go.Ev.dJ
namespace Go.Ev.dJ
noncomputable def aGW (v:aB):Int:=match (eA T).pc oJ [v.row]with
 |some [[.int n]]=>n
 |_=>0
theorem aFd (v:aB) (hN:v.fB≤big):(eA T).pc oJ [v.row]=some [[.int (aGW v)]]∧(aGW v=0→aO v=false):=by
 obtain ⟨n,h,h2⟩:=a3c v hN
 have e:aGW v=n:=by unfold aGW;rw[h]
 rw[e];exact ⟨h,h2⟩
noncomputable def aT1 (s:Bytes):Int:=match (eA T).pc bI [[.str s]]with
 |some [[.int n]]=>n
 |_=>0
theorem aRj (s:Bytes):(eA T).pc bI [[.str s]]=some [[.int (aT1 s)]]:=by
 obtain ⟨n,h⟩:=aZG s
 have e:aT1 s=n:=by unfold aT1;rw[h]
 rw[e];exact h
def sU (k:Int):Bool:=k==1 ||k==2 ||k==4 ||k==5
theorem aPX (k:Int):(eA T).pc aCu [[.int k]]=some [[.bool (sU k)]]:=by
 rw[aW0];unfold aPy sU
 cases (k==1)<;>cases (k==2)<;>cases (k==4)<;>rfl
theorem aN4 (k:Int):(eA T).pc zQ [[.int k]]=some [[.bool (sU k)]]:=by
 rw[aQ7];unfold aHv sU
 cases (k==1)<;>cases (k==2)<;>cases (k==4)<;>cases (k==5)<;>rfl
noncomputable def yT (k0:Int) (seen:List aB) (v:aB):Int:=if aGW v≠0 then aGW v else if (!sU v.k ||v.k !=k0)=true then 8 else if seen.any (fun q=>v.eqv q)=true then 5 else 0
noncomputable def mZ (k0 k1:Int):List (aB×aB)→List (aB×aB)→Int
 |_,[]=>0
 |pre,p::r=>if yT k0 (pre.map Prod.fst) p.1≠0 then yT k0 (pre.map Prod.fst) p.1 else if yT k1 (pre.map Prod.snd) p.2≠0 then yT k1 (pre.map Prod.snd) p.2 else mZ k0 k1 (pre++[p]) r
noncomputable def aVU:List (aB×aB)→Int
 |[]=>3
 |p::r=>if r.length≥40 then 2 else mZ p.1.k p.2.k [] (p::r)
def pk (p:aB×aB):Nat→aB
 |0=>p.1
 |_=>p.2
theorem a3e (p:aB×aB) {k:Nat} (hk:k<2):([at_ (tA p) ((k:Int).toNat*4),at_ (tA p) ((k:Int).toNat*4+1),at_ (tA p) ((k:Int).toNat*4+2),at_ (tA p) ((k:Int).toNat*4+3)]:Row)=(pk p k).row:=by
 match k,hk with
 |0,_=>rfl
 |1,_=>rfl
theorem bHp (p:aB×aB) {k:Nat} (hk:k<2):(at_ (tA p) ((k:Int).toNat*4)).uA=(pk p k).k:=by
 match k,hk with
 |0,_=>rfl
 |1,_=>rfl
structure aIG (l:List (aB×aB)):Prop where
 wf:∀p∈l,∀k,(pk p k).wf
 fB:∀p∈l,∀k,(pk p k).fB≤big
 len:l.length≤big
theorem aYh {c:C} {l:List (aB×aB)} (hc:c.rows=l.map tA) (i:Nat):(eR c 0 (i:Int)).rows=(l.take i).map tA:=by
 cases c<;>simp[eR,C.rows]at hc⊢<;>simp[←List.map_take,hc]
theorem aYi (v0 v4:C) (v1 v5 v6 v7:Int) (p:aB×aB) (k:Nat) (hk:k<2) (c:C) (l:List (aB×aB)) (hc:c.rows=l.map tA) (hp:(pk p k).wf∧(pk p k).fB≤big) (hl:aIG l):∀(j i:Nat),i+j=l.length→
 aEw (eA T) v0 v1 (.dp (tA p)) (k:Int) v4 v5 v6 v7 c (l.length:Int) (i:Int)=some (if (l.drop i).any (fun q=>(pk p k).eqv (pk q k))=true then (1,[.r [.int 5]])else (0,[.r [v0],.r [.int v1],.r [.dp (tA p)],.r [v4],.r [.int v5],.r [.int v6],.r [.int v7]]))
 |0,i,h=>by
  rw[aKF];unfold aEx
  obtain rfl:i=l.length:=by omega
  simp
 |j+1,i,h=>by
  rw[aKF];unfold aEx
  have hi:i<l.length:=by omega
  have ih:=aYi v0 v4 v1 v5 v6 v7 p k hk c l hc hp hl j (i+1) (by omega)
  refine yH.eq ?_
  refine .pos (dec_lt hi) (.pos (aFc (by rw[hc];simpa using hi)) ?_)
  refine .pos ⟨by omega,by omega,rfl⟩ (.pos ⟨by omega,by omega,rfl⟩ ?_)
  rw[show aA c.rows (i:Int).toNat=tA l[i]from (by rw[hc,Int.toNat_natCast];exact iC _ _ _ hi),xB (show i≤big by have:=hl.len;omega)]
  have e:(eA T).pc mY [(pk p k).row,(pk l[i] k).row]=some [[.bool ((pk p k).eqv (pk l[i] k))]]:=aSr _ _ hp.1 (hl.wf _ (List.getElem_mem hi) k) hp.2
  rw[←a3e p hk,←a3e l[i] hk]at e
  refine .jB e ?_
  rw[ih,List.drop_eq_getElem_cons hi,List.any_cons]
  simp only[cA,gA,jA]
  cases (pk p k).eqv (pk l[i] k)with
  |true=>simp only[if_true,Bool.true_or];exact .some rfl
  |false=>simp only[Bool.false_eq_true,if_false,Bool.false_or];exact .some rfl
theorem bAi {α β:Type} (f:α→β) (g:β→Bool) (l:List α):(l.map f).any g=l.any (fun a=>g (f a)):=by simp[List.any_map,Function.comp_def]
theorem aYj (c:C) (l:List (aB×aB)) (hc:c.rows=l.map tA) (hl:aIG l) (i:Nat) (hi:i<l.length) (k:Nat) (hk:k<2):
 aU (eA T) c (i:Int) (.dp (tA l[i])) c (l.length:Int) (i:Int) (k:Int)=
  if yT (pk (l[0]'(by omega)) k).k ((l.take i).map (fun p=>pk p k)) (pk l[i] k)≠0 then some (1,[.r [.int (yT (pk (l[0]'(by omega)) k).k ((l.take i).map (fun p=>pk p k)) (pk l[i] k))]])
  else aU (eA T) c (i:Int) (.dp (tA l[i])) c (l.length:Int) (i:Int) ((k+1:Nat):Int):=by
 conv=>lhs;rw[aKG]
 unfold aEz
 have hmem:=List.getElem_mem hi
 have hb:=hl.fB _ hmem k
 obtain ⟨hcs, -⟩:=aFd _ hb
 rw[←a3e _ hk]at hcs
 have hgu:(0:Int)≤(k:Int)∧(k:Int)<2∧(C.dp (tA l[i])).xA=true:=⟨by omega,by omega,rfl⟩
 rw[if_pos (show decide ((k:Int)<2)=true by simp;omega),if_pos hgu]
 simp only[sA]
 rw[hcs]
 simp only[Option.bind_some,cA,gA,iA]
 by_cases h0:aGW (pk l[i] k)=0
 ·have hne:¬(aGW (pk l[i] k) !=0)=true:=by simp[h0]
  simp only[hne,if_false,if_pos hgu,bHp _ hk,aPX,Option.bind_some,cA,gA,jA]
  have hr0:aA c.rows 0=tA (l[0]'(by omega)):=by rw[hc];exact iC _ _ _ (by omega)
  have hlen:(0:Int)≤0∧(0:Int)<(c.rows.length:Int):=⟨by omega,by rw[hc,List.length_map];omega⟩
  have bJ7:(0:Int)≤(k:Int)∧(k:Int)<2∧(C.dp (tA (l[0]'(by omega)))).xA=true:=⟨by omega,by omega,rfl⟩
  simp only[if_pos hlen,if_pos bJ7,hr0,bHp _ hk]
  have bJ8:(0:Int)≤0∧(0:Int)≤(i:Int)∧(i:Int)≤(c.rows.length:Int):=⟨by omega,by omega,by rw[hc,List.length_map];omega⟩
  have h2:=aYi c c (i:Int) (l.length:Int) (i:Int) (k:Int) l[i] k hk (eR c 0 (i:Int)) (l.take i) (aYh hc i) ⟨hl.wf _ hmem k,hb⟩ ⟨fun p hp=>hl.wf p (List.mem_of_mem_take hp),fun p hp=>hl.fB p (List.mem_of_mem_take hp),by have:=hl.len;simp;omega⟩ (l.take i).length 0 (by omega)
  rw[List.drop_zero,show ((0:Nat):Int)=0 from rfl]at h2
  have hsl:((eR c 0 (i:Int)).rows.length:Int)=((l.take i).length:Int):=by rw[aYh hc i,List.length_map]
  unfold yT
  simp only[h0,ne_eq,not_true_eq_false,if_false]
  rw[bAi]
  cases hpl:sU (pk l[i] k).k with
  |false=>simp
  |true=>
   cases hkk:(pk l[i] k).k !=(pk (l[0]'(by omega)) k).k with
   |true=>rfl
   |false=>
    simp only[Bool.not_true,Bool.false_eq_true,if_false,Option.bind_some,cC,zB,wC,qC,eC,uB,Bool.false_or,if_pos bJ8,hsl]
    rw[h2]
    cases (l.take i).any fun q=>(pk l[i] k).eqv (pk q k)with
    |true=>simp
    |false=>
     simp only[Bool.false_eq_true,if_false,Option.bind_some,wC,qC,eC,uB,xB (show k≤big by unfold big;omega)]
     simp
 ·have hne:(aGW (pk l[i] k) !=0)=true:=by simp[h0]
  unfold yT
  simp[hne,h0]
theorem a3f (c:C) (l:List (aB×aB)) (hc:c.rows=l.map tA) (hl:aIG l) (i:Nat) (hi:i<l.length):
 aU (eA T) c (i:Int) (.dp (tA l[i])) c (l.length:Int) (i:Int) 2=some (0,[.r [c],.r [c],.r [.int (l.length:Int)],.r [.int (i:Int)]]):=by
 conv=>lhs;rw[aKG]
 unfold aEz
 rfl
theorem aYk (c:C) (p0:aB×aB) (r0:List (aB×aB)) (hc:c.rows=(p0::r0).map tA) (hl:aIG (p0::r0)):∀(j i:Nat),i+j=(p0::r0).length→
 aEB (eA T) c c ((p0::r0).length:Int) (i:Int)=some (if mZ p0.1.k p0.2.k ((p0::r0).take i) ((p0::r0).drop i)=0 then (0,[])else (1,[.r [.int (mZ p0.1.k p0.2.k ((p0::r0).take i) ((p0::r0).drop i))]]))
 |0,i,h=>by
  rw[aKH];unfold aEC
  obtain rfl:i=(p0::r0).length:=by omega
  rw[List.drop_length]
  simp[mZ]
 |j+1,i,h=>by
  rw[aKH];unfold aEC
  generalize hL:p0::r0=L at hc hl h⊢
  have hi:i<L.length:=by omega
  have ih:=aYk c p0 r0 (by rw[hL];exact hc) (by rw[hL];exact hl) j (i+1) (by rw[hL];omega)
  rw[hL,List.take_add_one,List.getElem?_eq_getElem hi,Option.toList_some]at ih
  have e0:L[0]'(by omega)=p0:=by subst hL;rfl
  have l1:=aYj c L hc hl i hi 0 (by omega)
  have l2:=aYj c L hc hl i hi 1 (by omega)
  rw[e0]at l1 l2
  refine yH.eq ?_
  refine .pos (dec_lt hi) (.pos (aFc (by rw[hc];simpa using hi)) ?_)
  rw[show aA c.rows (i:Int).toNat=tA L[i]from (by rw[hc,Int.toNat_natCast];exact iC _ _ _ hi),List.drop_eq_getElem_cons hi,mZ]
  rw[show ((0:Nat):Int)=0 from rfl]at l1
  rw[l1,l2]
  simp only[show (((1+1:Nat)):Int)=2 from rfl,a3f c L hc hl i hi]
  show yH (fun r=>r=(if (if yT p0.1.k ((L.take i).map Prod.fst) L[i].1≠0 then yT p0.1.k ((L.take i).map Prod.fst) L[i].1 else if yT p0.2.k ((L.take i).map Prod.snd) L[i].2≠0 then yT p0.2.k ((L.take i).map Prod.snd) L[i].2 else mZ p0.1.k p0.2.k (L.take i++[L[i]]) (L.drop (i+1)))=0 then (0,[])else _)) (Option.bind (if yT p0.1.k ((L.take i).map Prod.fst) L[i].1≠0 then some (1,[PV.r [C.int (yT p0.1.k ((L.take i).map Prod.fst) L[i].1)]])else if yT p0.2.k ((L.take i).map Prod.snd) L[i].2≠0 then some (1,[PV.r [C.int (yT p0.2.k ((L.take i).map Prod.snd) L[i].2)]])else _) _)
  by_cases h1:yT p0.1.k ((L.take i).map Prod.fst) L[i].1=0
  ·by_cases h2:yT p0.2.k ((L.take i).map Prod.snd) L[i].2=0
   ·simp only[h1,h2,ne_eq,not_true_eq_false,if_false,Option.bind_some,wC,qC,eC,uB,xB (show i≤big by have:=hl.len;omega),ih]
    exact .some rfl
   ·simp only[h1,h2,ne_eq,not_true_eq_false,not_false_eq_true,if_false,if_true,Option.bind_some,qC]
    exact .some rfl
  ·simp only[h1,ne_eq,not_false_eq_true,if_false,if_true,Option.bind_some,qC]
   exact .some rfl
theorem a1n (c:C) (l:List (aB×aB)) (hc:c.rows=l.map tA) (hl:aIG l):(eA T).pc aLM [[c]]=some [[.int (aVU l)]]:=by
 rw[aW2];unfold aPA
 rw[hc,List.length_map]
 cases l with
 |nil=>rfl
 |cons p r=>
  rw[aVU]
  have h0:¬(((p::r).length:Int)==0)=true:=by simp;omega
  rw[if_neg h0]
  by_cases h1:r.length≥40
  ·rw[if_pos (show decide (((p::r).length:Int)>40)=true by simp;omega),if_pos h1]
  ·rw[if_neg (show ¬decide (((p::r).length:Int)>40)=true by simp;omega),if_neg h1]
   have:=aYk c p r hc hl (p::r).length 0 (by omega)
   rw[List.take_zero,List.drop_zero,show ((0:Nat):Int)=0 from rfl]at this
   rw[this]
   by_cases h2:mZ p.1.k p.2.k [] (p::r)=0<;>simp[h2]
end Go.Ev.dJ
namespace Go.Ev.dJ
def idB (v:aB):Bytes:=Lib.itoa v.n++[32]++v.s
structure aN5 (k0:Int) (v:aB):Prop where
 u:aO v=false
 p:sU v.k=true
 k:v.k=k0
theorem bEs {k0:Int} {v q:aB} (hv:aN5 k0 v) (hq:aN5 k0 q):idB v=idB q↔v.eqv q=true:=by
 have hk:=hv.k.trans hq.k.symm
 have hp:=hv.p
 have fs0:∀{x:aB},aO x=false→sU x.k=true→x.fs=[]:=by
  intro x hu hp
  unfold aO at hu
  have hs:a29 x.k=true:=by
   unfold sU at hp;unfold a29
   simp at hp⊢;omega
  simp[hs]at hu
  exact hu.2
 have s0:∀{x:aB},aO x=false→x.k≠5→x.s=[]:=by
  intro x hu h5
  unfold aO at hu
  simp[h5]at hu
  exact hu.1.2
 have n0:∀{x:aB},aO x=false→x.k=5→x.n=0:=by
  intro x hu h5
  unfold aO at hu
  have:a8I x.k=false:=by rw[h5];rfl
  simp[this]at hu
  exact hu.1.1
 rw[aB.aPc,fs0 hv.u hv.p,fs0 hq.u hq.p]
 have hkk:(v.k==q.k)=true:=by simp[hk]
 simp only[hkk,nL,Bool.true_and,Bool.and_true,Bool.and_eq_true,beq_iff_eq]
 unfold idB
 by_cases h5:v.k=5
 ·rw[n0 hv.u h5,n0 hq.u (hk▸h5)]
  constructor
  ·intro h;exact ⟨rfl,List.append_cancel_left h⟩
  ·intro h;rw[h.2]
 ·rw[s0 hv.u h5,s0 hq.u (hk▸h5)]
  constructor
  ·intro h
   rw[List.append_nil,List.append_nil]at h
   exact ⟨a8M (List.append_cancel_right h),rfl⟩
  ·intro h;rw[h.1]
theorem a3g {k0:Int} {v:aB} (hv:aN5 k0 v):∀{pre:List aB},(∀q∈pre,aN5 k0 q)→decide (idB v∈pre.map idB)=pre.any (fun q=>v.eqv q)
 |[],_=>by simp
 |q::r,h=>by
  have ih:=a3g hv (pre:=r) fun x hx=>h x (by simp[hx])
  have e:=bEs hv (h q (by simp))
  rw[List.any_cons,←ih,List.map_cons]
  cases he:v.eqv q with
  |true=>simp[e.2 he]
  |false=>
   have:¬idB v=idB q:=fun h=>by rw[e.1 h]at he;cases he
   simp[this]
theorem a1o {k0:Int} {seen:List aB} {v:aB} (hb:v.fB≤big) (h:yT k0 seen v=0):aN5 k0 v:=by
 unfold yT at h
 by_cases h0:aGW v=0
 ·simp only[h0,ne_eq,not_true_eq_false,if_false]at h
  split at h
  ·omega
  ·rename_i hn
   refine ⟨(aFd v hb).2 h0, ?_, ?_⟩
   ·cases hp:sU v.k
    ·simp[hp]at hn
    ·rfl
   ·simp at hn;exact hn.2
 ·simp only[ne_eq,h0,not_false_eq_true,if_true]at h
theorem aYl {n:Int} (h:aB5 n):(eA T).pc aHw [[.int n]]=some [[.str (Lib.itoa n)]]:=by
 refine (aXM T (rfl:T aHw= .given _ _ aXQ) _).trans ?_
 obtain ⟨h1,h2⟩:=h
 exact if_pos ⟨by omega,by omega⟩
theorem a1p (c:C) (len i:Int) (p p0:aB×aB) (hc:aA c.rows 0=tA p0) (hc0:0<c.rows.length) (m0 m1:List (Row×Row)) (pre:List aB) (hm:aT0 (.bool false) (.bool true) (pre.map idB) m0) (hpre:∀q∈pre,aN5 p0.1.k q) (hb:p.1.fB≤big) (hw:p.1.wf):
 xF (eA T) c c len i (tA p) 0 m0 m1=if yT p0.1.k pre p.1≠0 then some (1,[PV.r [C.int (yT p0.1.k pre p.1)]])else xF (eA T) c c len i (tA p) 1 (aQ lS [.str (idB p.1)] [.bool true] m0) m1:=by
 conv=>lhs;rw[sX]
 unfold dP
 obtain ⟨hcs, -⟩:=aFd _ hb
 have hrow:([at_ (tA p) ((0:Int).toNat*4),at_ (tA p) ((0:Int).toNat*4+1),at_ (tA p) ((0:Int).toNat*4+2),at_ (tA p) ((0:Int).toNat*4+3)]:Row)=p.1.row:=rfl
 have hkk:(at_ (tA p) ((0:Int).toNat*4)).uA=p.1.k:=rfl
 have bEt:(at_ (tA p0) ((0:Int).toNat*4)).uA=p0.1.k:=rfl
 rw[if_pos (show decide ((0:Int)<2)=true from rfl),if_pos (show (0:Int)≤0∧(0:Int)<2 by omega)]
 have hlen:(0:Int)≤0∧(0:Int)<(c.rows.length:Int):=⟨by omega,by omega⟩
 have hg2:(0:Int)≤0∧(0:Int)<2∧(C.dp (tA p0)).xA=true:=⟨by omega,by omega,rfl⟩
 simp only[hrow,hcs,Option.bind_some,cA,gA,iA,hkk,aN4,jA,if_pos hlen,hc,if_pos hg2,bEt]
 by_cases h0:aGW p.1=0
 ·have hne:¬(aGW p.1 !=0)=true:=by simp[h0]
  simp only[hne,if_false]
  cases hp:sU p.1.k with
  |false=>
   unfold yT
   simp[h0,hp]
  |true=>
   cases hk:(p.1.k !=p0.1.k)with
   |true=>
    have hone:yT p0.1.k pre p.1=8:=by unfold yT;simp only[h0,ne_eq,not_true_eq_false,if_false,hp,hk,Bool.not_true,Bool.false_or,if_true]
    rw[hone]
    rfl
   |false=>
    have a8N:aN5 p0.1.k p.1:=⟨(aFd _ hb).2 h0,hp,by simpa using hk⟩
    have hl1:=Lib.itoa_length_le p.1.n (aB.aWd hw).1 (by have:=(aB.aWd hw).2;omega)
    have hl2:p.1.s.length≤big:=by have:=p.1.eG;omega
    have g1:(Lib.itoa p.1.n).length+([32]:List UInt8).length≤1099511627776:=by simp;omega
    have g2:(Lib.itoa p.1.n++([32]:List UInt8)).length+p.1.s.length≤1099511627776:=by unfold big at hl2;simp;omega
    have a1:at_ p.1.row 1= .int p.1.n:=rfl
    have a2:at_ p.1.row 2= .str p.1.s:=rfl
    have hid:Lib.itoa p.1.n++([32]:List UInt8)++p.1.s=idB p.1:=rfl
    have hone:yT p0.1.k pre p.1=if pre.any (fun q=>p.1.eqv q)=true then 5 else 0:=by unfold yT;simp only[h0,ne_eq,not_true_eq_false,if_false,hp,hk,Bool.not_true,Bool.false_or,Bool.false_eq_true]
    have hw1:IntKind.wrap .i64 ((0:Int)+1)=1:=rfl
    rw[hone,←a3g a8N hpre]
    simp only[Bool.not_true,Bool.false_eq_true,if_false,Option.bind_some,oD,eD,cC,zB,wC,qC,eC,uB,aH,bH,a1,a2,iA,rA,aYl (aB.aWd hw),cA,gA,if_pos g1,if_pos g2,hid,hm.look,jA,if_true,hw1,(by decide:¬(1:Int)=0)]
    by_cases hmem:idB p.1∈pre.map idB
    ·simp[hmem]
    ·simp[hmem]
 ·have hne:(aGW p.1 !=0)=true:=by simp[h0]
  unfold yT
  simp[hne,h0]
theorem a1q (c:C) (len i:Int) (p p0:aB×aB) (hc:aA c.rows 0=tA p0) (hc0:0<c.rows.length) (m0 m1:List (Row×Row)) (pre:List aB) (hm:aT0 (.bool false) (.bool true) (pre.map idB) m1) (hpre:∀q∈pre,aN5 p0.2.k q) (hb:p.2.fB≤big) (hw:p.2.wf):
 xF (eA T) c c len i (tA p) 1 m0 m1=if yT p0.2.k pre p.2≠0 then some (1,[PV.r [C.int (yT p0.2.k pre p.2)]])else xF (eA T) c c len i (tA p) 2 m0 (aQ lS [.str (idB p.2)] [.bool true] m1):=by
 conv=>lhs;rw[sX]
 unfold dP
 obtain ⟨hcs, -⟩:=aFd _ hb
 have hrow:([at_ (tA p) ((1:Int).toNat*4),at_ (tA p) ((1:Int).toNat*4+1),at_ (tA p) ((1:Int).toNat*4+2),at_ (tA p) ((1:Int).toNat*4+3)]:Row)=p.2.row:=rfl
 have hkk:(at_ (tA p) ((1:Int).toNat*4)).uA=p.2.k:=rfl
 have bEt:(at_ (tA p0) ((1:Int).toNat*4)).uA=p0.2.k:=rfl
 rw[if_pos (show decide ((1:Int)<2)=true from rfl),if_pos (show (0:Int)≤1∧(1:Int)<2 by omega)]
 have hlen:(0:Int)≤0∧(0:Int)<(c.rows.length:Int):=⟨by omega,by omega⟩
 have hg2:(0:Int)≤1∧(1:Int)<2∧(C.dp (tA p0)).xA=true:=⟨by omega,by omega,rfl⟩
 simp only[hrow,hcs,Option.bind_some,cA,gA,iA,hkk,aN4,jA,if_pos hlen,hc,if_pos hg2,bEt]
 by_cases h0:aGW p.2=0
 ·have hne:¬(aGW p.2 !=0)=true:=by simp[h0]
  simp only[hne,if_false]
  cases hp:sU p.2.k with
  |false=>
   unfold yT
   simp[h0,hp]
  |true=>
   cases hk:(p.2.k !=p0.2.k)with
   |true=>
    have hone:yT p0.2.k pre p.2=8:=by unfold yT;simp only[h0,ne_eq,not_true_eq_false,if_false,hp,hk,Bool.not_true,Bool.false_or,if_true]
    rw[hone]
    rfl
   |false=>
    have a8N:aN5 p0.2.k p.2:=⟨(aFd _ hb).2 h0,hp,by simpa using hk⟩
    have hl1:=Lib.itoa_length_le p.2.n (aB.aWd hw).1 (by have:=(aB.aWd hw).2;omega)
    have hl2:p.2.s.length≤big:=by have:=p.2.eG;omega
    have g1:(Lib.itoa p.2.n).length+([32]:List UInt8).length≤1099511627776:=by simp;omega
    have g2:(Lib.itoa p.2.n++([32]:List UInt8)).length+p.2.s.length≤1099511627776:=by unfold big at hl2;simp;omega
    have a1:at_ p.2.row 1= .int p.2.n:=rfl
    have a2:at_ p.2.row 2= .str p.2.s:=rfl
    have hid:Lib.itoa p.2.n++([32]:List UInt8)++p.2.s=idB p.2:=rfl
    have hone:yT p0.2.k pre p.2=if pre.any (fun q=>p.2.eqv q)=true then 5 else 0:=by unfold yT;simp only[h0,ne_eq,not_true_eq_false,if_false,hp,hk,Bool.not_true,Bool.false_or,Bool.false_eq_true]
    have hw1:IntKind.wrap .i64 ((1:Int)+1)=2:=rfl
    rw[hone,←a3g a8N hpre]
    simp only[Bool.not_true,Bool.false_eq_true,if_false,Option.bind_some,oD,eD,cC,zB,wC,qC,eC,uB,aH,bH,a1,a2,iA,rA,aYl (aB.aWd hw),cA,gA,if_pos g1,if_pos g2,hid,hm.look,jA,if_true,hw1,(by decide:¬(1:Int)=0)]
    by_cases hmem:idB p.2∈pre.map idB
    ·simp[hmem]
    ·simp[hmem]
 ·have hne:(aGW p.2 !=0)=true:=by simp[h0]
  unfold yT
  simp[hne,h0]
theorem aYm (c:C) (p0:aB×aB) (r0:List (aB×aB)) (hc:c.rows=(p0::r0).map tA) (hl:aIG (p0::r0)):∀(j i:Nat) (m0 m1:List (Row×Row)),i+j=(p0::r0).length→
 aT0 (.bool false) (.bool true) (((p0::r0).take i).map fun p=>idB p.1) m0→aT0 (.bool false) (.bool true) (((p0::r0).take i).map fun p=>idB p.2) m1→(∀p∈(p0::r0).take i,aN5 p0.1.k p.1∧aN5 p0.2.k p.2)→
 rV (eA T) c c ((p0::r0).length:Int) (i:Int) m0 m1=some (if mZ p0.1.k p0.2.k ((p0::r0).take i) ((p0::r0).drop i)=0 then (0,[])else (1,[.r [.int (mZ p0.1.k p0.2.k ((p0::r0).take i) ((p0::r0).drop i))]]))
 |0,i,m0,m1,h,_,_,_=>by
  rw[aE5];unfold sV
  obtain rfl:i=(p0::r0).length:=by omega
  rw[List.drop_length]
  simp[mZ]
 |j+1,i,m0,m1,h,hm0,hm1,hg=>by
  rw[aE5];unfold sV
  have ih:=fun m0 m1=>aYm c p0 r0 hc hl j (i+1) m0 m1 (by omega)
  generalize hL:p0::r0=L at hc hl h hm0 hm1 hg ih⊢
  have hi:i<L.length:=by omega
  rw[List.take_add_one,List.getElem?_eq_getElem hi,Option.toList_some]at ih
  have hc0:aA c.rows 0=tA p0:=by rw[hc,←hL];rfl
  have hcl:0<c.rows.length:=by rw[hc,List.length_map];omega
  have hmem:=List.getElem_mem hi
  have e1:((L.take i).map Prod.fst).map idB=(L.take i).map fun p=>idB p.1:=by rw[List.map_map];rfl
  have e2:((L.take i).map Prod.snd).map idB=(L.take i).map fun p=>idB p.2:=by rw[List.map_map];rfl
  have l1:=a1p c (L.length:Int) (i:Int) L[i] p0 hc0 hcl m0 m1 ((L.take i).map Prod.fst) (e1▸hm0) (fun q hq=>by obtain ⟨p,hp,rfl⟩:=List.mem_map.1 hq;exact (hg p hp).1) (hl.fB _ hmem 0) (hl.wf _ hmem 0)
  have l2:=a1q c (L.length:Int) (i:Int) L[i] p0 hc0 hcl (aQ lS [.str (idB L[i].1)] [.bool true] m0) m1 ((L.take i).map Prod.snd) (e2▸hm1) (fun q hq=>by obtain ⟨p,hp,rfl⟩:=List.mem_map.1 hq;exact (hg p hp).2) (hl.fB _ hmem 1) (hl.wf _ hmem 1)
  have l3:xF (eA T) c c (L.length:Int) (i:Int) (tA L[i]) 2 (aQ lS [.str (idB L[i].1)] [.bool true] m0) (aQ lS [.str (idB L[i].2)] [.bool true] m1)=some (0,[.r [c],.r [c],.r [.int (L.length:Int)],.r [.int (i:Int)],.m (aQ lS [.str (idB L[i].1)] [.bool true] m0),.m (aQ lS [.str (idB L[i].2)] [.bool true] m1)]):=by
   conv=>lhs;rw[sX]
   unfold dP;rfl
  refine yH.eq ?_
  refine .pos (dec_lt hi) (.pos (aFc (by rw[hc];simpa using hi)) ?_)
  rw[show aA c.rows (i:Int).toNat=tA L[i]from (by rw[hc,Int.toNat_natCast];exact iC _ _ _ hi),List.drop_eq_getElem_cons hi,mZ]
  rw[l1,l2,l3]
  by_cases h1:yT p0.1.k ((L.take i).map Prod.fst) L[i].1=0
  ·by_cases h2:yT p0.2.k ((L.take i).map Prod.snd) L[i].2=0
   ·simp only[h1,h2,ne_eq,not_true_eq_false,if_false,Option.bind_some,wC,qC,eC,uB,aH,bH,xB (show i≤big by have:=hl.len;omega)]
    have:=ih (aQ lS [.str (idB L[i].1)] [.bool true] m0) (aQ lS [.str (idB L[i].2)] [.bool true] m1) (by rw[List.map_append,List.map_cons,List.map_nil];exact hm0.add _) (by rw[List.map_append,List.map_cons,List.map_nil];exact hm1.add _) (by
     intro p hp
     rcases List.mem_append.1 hp with e |e
     ·exact hg p e
     ·simp only[List.mem_singleton]at e
      subst e
      exact ⟨a1o (hl.fB _ hmem 0) h1,a1o (hl.fB _ hmem 1) h2⟩)
    exact ⟨_,this,rfl⟩
   ·simp only[h1,h2,ne_eq,not_true_eq_false,not_false_eq_true,if_false,if_true,Option.bind_some,qC]
    exact .some rfl
  ·simp only[h1,ne_eq,not_false_eq_true,if_false,if_true,Option.bind_some,qC]
   exact .some rfl
theorem a1r (c:C) (l:List (aB×aB)) (hc:c.rows=l.map tA) (hl:aIG l):(eA T).pc aDM [[c]]=some [[.int (aVU l)]]:=by
 rw[aQ8];unfold aHx
 rw[hc,List.length_map]
 cases l with
 |nil=>rfl
 |cons p r=>
  rw[aVU]
  have h0:¬(((p::r).length:Int)==0)=true:=by simp;omega
  rw[if_neg h0]
  by_cases h1:r.length≥40
  ·rw[if_pos (show decide (((p::r).length:Int)>40)=true by simp;omega),if_pos h1]
  ·rw[if_neg (show ¬decide (((p::r).length:Int)>40)=true by simp;omega),if_neg h1]
   have:=aYm c p r hc hl (p::r).length 0 [] [] (by omega) (by simpa using aT0.nil) (by simpa using aT0.nil) (by simp)
   rw[List.take_zero,List.drop_zero,show ((0:Nat):Int)=0 from rfl]at this
   rw[this]
   by_cases h2:mZ p.1.k p.2.k [] (p::r)=0<;>simp[h2]
end Go.Ev.dJ
