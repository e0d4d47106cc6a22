/-
  A part of the proof: what the functions of the program compute.
-/
import Derived.Test.YtfonaepdedbhhaaGreatDoorZS
import Derived.Lib.ItoaLen
set_option linter.all false
set_option maxRecDepth 100000
namespace Go.Ev.oO
def aCQ:List Bytes:=[[115,97,109,101,58],[116,104,101,110,58,43],[97,116,58,110,49],[114,101,110,97,109,101,58,110,116],[100,114,111,112,58,110,118],[97,100,100,58,110,118],[110,101,115,116,58,116,115],[102,108,97,116,58,110],[109,111,118,101,58,110,105],[115,112,108,105,116,58,110,116,115,112],[103,108,117,101,58,110,116,112],[108,111,111,107,58,108],[110,117,109,98,101,114,58,98],[101,97,99,104,58,110,49],[99,97,115,101,58,115,43],[115,101,108,101,99,116,58,110,118],[116,97,103,58,110],[117,110,116,97,103,58,110],[102,105,108,108,58,118]]
theorem aUL:(bA T).pc hY [[.str [115,97,109,101,58,32,116,104,101,110,58,43,32,97,116,58,110,49,32,114,101,110,97,109,101,58,110,116,32,100,114,111,112,58,110,118,32,97,100,100,58,110,118,32,110,101,115,116,58,116,115,32,102,108,97,116,58,110,32,109,111,118,101,58,110,105,32,115,112,108,105,116,58,110,116,115,112,32,103,108,117,101,58,110,116,112,32,108,111,111,107,58,108,32,110,117,109,98,101,114,58,98,32,101,97,99,104,58,110,49,32,99,97,115,101,58,115,43,32,115,101,108,101,99,116,58,110,118,32,116,97,103,58,110,32,117,110,116,97,103,58,110,32,102,105,108,108,58,118]]]=some [[.sl (aCQ.map iB)]]:=(rC T).2 ⟨300,by kernel_rfl⟩
def hasB (u:Bytes) (c:Int):Bool:=decide (aJa u c.toNat.toUInt8≥0)
theorem kK (u:Bytes) (c:Int):(bA T).pc xB [[.str u],[.int c]]=some [[.bool (hasB u c)]]:=by
 rw[aOM];unfold aIw
 rw[aDu];unfold strings_IndexByte
 rw[sO];unfold nF
 rfl
theorem eN {n:Nat} (h:n<19) {w u:Bytes} (hc:(bA T).pc aKB [[.str (aCQ.getD n [])],[.str [58]]]=some [[.str w],[.str u],[.bool true]]):(bA T).pc pU [[.int (n:Int)]]=some [[.str w],[.str u]]:=by
 rw[aNJ];unfold aGE
 refine jF.eq (.lA aUL ?_)
 have hl:aCQ.length=19:=rfl
 refine .pos ⟨by omega,by show (n:Int)<((aCQ.map iB).length:Int);rw[List.length_map,hl];omega⟩ ?_
 have e:(at_ (aA (at_ (aA [[C.sl (aCQ.map iB)]] 0) 0).rows (n:Int).toNat) 0).mD=aCQ.getD n []:=by
  show (at_ (aA (aCQ.map iB) (n:Int).toNat) 0).mD=_
  rw[Int.toNat_natCast,fC _ _ _ (by omega),List.getD_eq_getElem?_getD,List.getElem?_eq_getElem (by omega)];rfl
 rw[e]
 exact .lA hc (.some rfl)
structure Fl where (n t s i b p v l:Bool) (k:Int)
def Fl.row (f:Fl):Row:=[.bool f.n, .bool f.t, .bool f.s, .bool f.i, .bool f.b, .bool f.p, .bool f.v, .bool f.l, .int f.k]
structure aFd (op:Int) (f:Fl) (w u:Bytes):Prop where
 table:(bA T).pc aIp [[.int op]]=some [f.row]
 used:(bA T).pc pU [[.int op]]=some [[.str w],[.str u]]
 n:hasB u 110=f.n
 t:hasB u 116=f.t
 s:hasB u 115=f.s
 i:hasB u 105=f.i
 b:hasB u 98=f.b
 p:hasB u 112=f.p
 v:hasB u 118=f.v
 l:hasB u 108=f.l
 k1:hasB u 49=(f.k==1)
 k2:hasB u 43=(f.k== -1)
 k:f.k=0∨f.k=1∨f.k= -1
 o5:op=5→f.v=true
 o15:op=15→f.v=true
theorem op0:aFd 0 ⟨false,false,false,false,false,false,false,false,0⟩ [115,97,109,101] []:=⟨(rC T).2 ⟨5,by kernel_rfl⟩,eN (n:=0) (by omega) ((rC T).2 ⟨100,by kernel_rfl⟩),by kernel_rfl,by kernel_rfl,by kernel_rfl,by kernel_rfl,by kernel_rfl,by kernel_rfl,by kernel_rfl,by kernel_rfl,by kernel_rfl,by kernel_rfl,by decide,by decide,by decide⟩
theorem op1:aFd 1 ⟨false,false,false,false,false,false,false,false, -1⟩ [116,104,101,110] [43]:=⟨(rC T).2 ⟨5,by kernel_rfl⟩,eN (n:=1) (by omega) ((rC T).2 ⟨100,by kernel_rfl⟩),by kernel_rfl,by kernel_rfl,by kernel_rfl,by kernel_rfl,by kernel_rfl,by kernel_rfl,by kernel_rfl,by kernel_rfl,by kernel_rfl,by kernel_rfl,by decide,by decide,by decide⟩
theorem op2:aFd 2 ⟨true,false,false,false,false,false,false,false,1⟩ [97,116] [110,49]:=⟨(rC T).2 ⟨5,by kernel_rfl⟩,eN (n:=2) (by omega) ((rC T).2 ⟨100,by kernel_rfl⟩),by kernel_rfl,by kernel_rfl,by kernel_rfl,by kernel_rfl,by kernel_rfl,by kernel_rfl,by kernel_rfl,by kernel_rfl,by kernel_rfl,by kernel_rfl,by decide,by decide,by decide⟩
theorem op3:aFd 3 ⟨true,true,false,false,false,false,false,false,0⟩ [114,101,110,97,109,101] [110,116]:=⟨(rC T).2 ⟨5,by kernel_rfl⟩,eN (n:=3) (by omega) ((rC T).2 ⟨100,by kernel_rfl⟩),by kernel_rfl,by kernel_rfl,by kernel_rfl,by kernel_rfl,by kernel_rfl,by kernel_rfl,by kernel_rfl,by kernel_rfl,by kernel_rfl,by kernel_rfl,by decide,by decide,by decide⟩
theorem op4:aFd 4 ⟨true,false,false,false,false,false,true,false,0⟩ [100,114,111,112] [110,118]:=⟨(rC T).2 ⟨5,by kernel_rfl⟩,eN (n:=4) (by omega) ((rC T).2 ⟨100,by kernel_rfl⟩),by kernel_rfl,by kernel_rfl,by kernel_rfl,by kernel_rfl,by kernel_rfl,by kernel_rfl,by kernel_rfl,by kernel_rfl,by kernel_rfl,by kernel_rfl,by decide,by decide,by decide⟩
theorem op5:aFd 5 ⟨true,false,false,false,false,false,true,false,0⟩ [97,100,100] [110,118]:=⟨(rC T).2 ⟨5,by kernel_rfl⟩,eN (n:=5) (by omega) ((rC T).2 ⟨100,by kernel_rfl⟩),by kernel_rfl,by kernel_rfl,by kernel_rfl,by kernel_rfl,by kernel_rfl,by kernel_rfl,by kernel_rfl,by kernel_rfl,by kernel_rfl,by kernel_rfl,by decide,by decide,by decide⟩
theorem op6:aFd 6 ⟨false,true,true,false,false,false,false,false,0⟩ [110,101,115,116] [116,115]:=⟨(rC T).2 ⟨5,by kernel_rfl⟩,eN (n:=6) (by omega) ((rC T).2 ⟨100,by kernel_rfl⟩),by kernel_rfl,by kernel_rfl,by kernel_rfl,by kernel_rfl,by kernel_rfl,by kernel_rfl,by kernel_rfl,by kernel_rfl,by kernel_rfl,by kernel_rfl,by decide,by decide,by decide⟩
theorem op7:aFd 7 ⟨true,false,false,false,false,false,false,false,0⟩ [102,108,97,116] [110]:=⟨(rC T).2 ⟨5,by kernel_rfl⟩,eN (n:=7) (by omega) ((rC T).2 ⟨100,by kernel_rfl⟩),by kernel_rfl,by kernel_rfl,by kernel_rfl,by kernel_rfl,by kernel_rfl,by kernel_rfl,by kernel_rfl,by kernel_rfl,by kernel_rfl,by kernel_rfl,by decide,by decide,by decide⟩
theorem op8:aFd 8 ⟨true,false,false,true,false,false,false,false,0⟩ [109,111,118,101] [110,105]:=⟨(rC T).2 ⟨5,by kernel_rfl⟩,eN (n:=8) (by omega) ((rC T).2 ⟨100,by kernel_rfl⟩),by kernel_rfl,by kernel_rfl,by kernel_rfl,by kernel_rfl,by kernel_rfl,by kernel_rfl,by kernel_rfl,by kernel_rfl,by kernel_rfl,by kernel_rfl,by decide,by decide,by decide⟩
theorem op9:aFd 9 ⟨true,true,true,false,false,true,false,false,0⟩ [115,112,108,105,116] [110,116,115,112]:=⟨(rC T).2 ⟨5,by kernel_rfl⟩,eN (n:=9) (by omega) ((rC T).2 ⟨100,by kernel_rfl⟩),by kernel_rfl,by kernel_rfl,by kernel_rfl,by kernel_rfl,by kernel_rfl,by kernel_rfl,by kernel_rfl,by kernel_rfl,by kernel_rfl,by kernel_rfl,by decide,by decide,by decide⟩
theorem a7k:aFd 10 ⟨true,true,false,false,false,true,false,false,0⟩ [103,108,117,101] [110,116,112]:=⟨(rC T).2 ⟨5,by kernel_rfl⟩,eN (n:=10) (by omega) ((rC T).2 ⟨100,by kernel_rfl⟩),by kernel_rfl,by kernel_rfl,by kernel_rfl,by kernel_rfl,by kernel_rfl,by kernel_rfl,by kernel_rfl,by kernel_rfl,by kernel_rfl,by kernel_rfl,by decide,by decide,by decide⟩
theorem a7l:aFd 11 ⟨false,false,false,false,false,false,false,true,0⟩ [108,111,111,107] [108]:=⟨(rC T).2 ⟨5,by kernel_rfl⟩,eN (n:=11) (by omega) ((rC T).2 ⟨100,by kernel_rfl⟩),by kernel_rfl,by kernel_rfl,by kernel_rfl,by kernel_rfl,by kernel_rfl,by kernel_rfl,by kernel_rfl,by kernel_rfl,by kernel_rfl,by kernel_rfl,by decide,by decide,by decide⟩
theorem a7m:aFd 12 ⟨false,false,false,false,true,false,false,false,0⟩ [110,117,109,98,101,114] [98]:=⟨(rC T).2 ⟨5,by kernel_rfl⟩,eN (n:=12) (by omega) ((rC T).2 ⟨100,by kernel_rfl⟩),by kernel_rfl,by kernel_rfl,by kernel_rfl,by kernel_rfl,by kernel_rfl,by kernel_rfl,by kernel_rfl,by kernel_rfl,by kernel_rfl,by kernel_rfl,by decide,by decide,by decide⟩
theorem a7n:aFd 13 ⟨true,false,false,false,false,false,false,false,1⟩ [101,97,99,104] [110,49]:=⟨(rC T).2 ⟨5,by kernel_rfl⟩,eN (n:=13) (by omega) ((rC T).2 ⟨100,by kernel_rfl⟩),by kernel_rfl,by kernel_rfl,by kernel_rfl,by kernel_rfl,by kernel_rfl,by kernel_rfl,by kernel_rfl,by kernel_rfl,by kernel_rfl,by kernel_rfl,by decide,by decide,by decide⟩
theorem a7o:aFd 14 ⟨false,false,true,false,false,false,false,false, -1⟩ [99,97,115,101] [115,43]:=⟨(rC T).2 ⟨5,by kernel_rfl⟩,eN (n:=14) (by omega) ((rC T).2 ⟨100,by kernel_rfl⟩),by kernel_rfl,by kernel_rfl,by kernel_rfl,by kernel_rfl,by kernel_rfl,by kernel_rfl,by kernel_rfl,by kernel_rfl,by kernel_rfl,by kernel_rfl,by decide,by decide,by decide⟩
theorem a7p:aFd 15 ⟨true,false,false,false,false,false,true,false,0⟩ [115,101,108,101,99,116] [110,118]:=⟨(rC T).2 ⟨5,by kernel_rfl⟩,eN (n:=15) (by omega) ((rC T).2 ⟨100,by kernel_rfl⟩),by kernel_rfl,by kernel_rfl,by kernel_rfl,by kernel_rfl,by kernel_rfl,by kernel_rfl,by kernel_rfl,by kernel_rfl,by kernel_rfl,by kernel_rfl,by decide,by decide,by decide⟩
theorem a7q:aFd 16 ⟨true,false,false,false,false,false,false,false,0⟩ [116,97,103] [110]:=⟨(rC T).2 ⟨5,by kernel_rfl⟩,eN (n:=16) (by omega) ((rC T).2 ⟨100,by kernel_rfl⟩),by kernel_rfl,by kernel_rfl,by kernel_rfl,by kernel_rfl,by kernel_rfl,by kernel_rfl,by kernel_rfl,by kernel_rfl,by kernel_rfl,by kernel_rfl,by decide,by decide,by decide⟩
theorem a7r:aFd 17 ⟨true,false,false,false,false,false,false,false,0⟩ [117,110,116,97,103] [110]:=⟨(rC T).2 ⟨5,by kernel_rfl⟩,eN (n:=17) (by omega) ((rC T).2 ⟨100,by kernel_rfl⟩),by kernel_rfl,by kernel_rfl,by kernel_rfl,by kernel_rfl,by kernel_rfl,by kernel_rfl,by kernel_rfl,by kernel_rfl,by kernel_rfl,by kernel_rfl,by decide,by decide,by decide⟩
theorem a7s:aFd 18 ⟨false,false,false,false,false,false,true,false,0⟩ [102,105,108,108] [118]:=⟨(rC T).2 ⟨5,by kernel_rfl⟩,eN (n:=18) (by omega) ((rC T).2 ⟨100,by kernel_rfl⟩),by kernel_rfl,by kernel_rfl,by kernel_rfl,by kernel_rfl,by kernel_rfl,by kernel_rfl,by kernel_rfl,by kernel_rfl,by kernel_rfl,by kernel_rfl,by decide,by decide,by decide⟩
theorem a1k {op:Int} (h0:0≤op) (h1:op<19):∃f w u,aFd op f w u:=by
 have:op=0∨op=1∨op=2∨op=3∨op=4∨op=5∨op=6∨op=7∨op=8∨op=9∨op=10∨op=11∨op=12∨op=13∨op=14∨op=15∨op=16∨op=17∨op=18:=by omega
 rcases this with rfl |rfl |rfl |rfl |rfl |rfl |rfl |rfl |rfl |rfl |rfl |rfl |rfl |rfl |rfl |rfl |rfl |rfl |rfl
 ·exact ⟨_,_,_,op0⟩
 ·exact ⟨_,_,_,op1⟩
 ·exact ⟨_,_,_,op2⟩
 ·exact ⟨_,_,_,op3⟩
 ·exact ⟨_,_,_,op4⟩
 ·exact ⟨_,_,_,op5⟩
 ·exact ⟨_,_,_,op6⟩
 ·exact ⟨_,_,_,op7⟩
 ·exact ⟨_,_,_,op8⟩
 ·exact ⟨_,_,_,op9⟩
 ·exact ⟨_,_,_,a7k⟩
 ·exact ⟨_,_,_,a7l⟩
 ·exact ⟨_,_,_,a7m⟩
 ·exact ⟨_,_,_,a7n⟩
 ·exact ⟨_,_,_,a7o⟩
 ·exact ⟨_,_,_,a7p⟩
 ·exact ⟨_,_,_,a7q⟩
 ·exact ⟨_,_,_,a7r⟩
 ·exact ⟨_,_,_,a7s⟩
end Go.Ev.oO
namespace Go.Ev.oO
noncomputable def c9:List Bytes→List Bytes→Int
 |_,[]=>0
 |pre,s::r=>if nm s=false then 15 else if s∈pre then 5 else c9 (pre++[s]) r
noncomputable def aNQ (l:List Bytes):Int:=if l=[]then 3 else c9 [] l
theorem aVX (s:Bytes):at_ (iB s) 0= .str s:=rfl
theorem aW1 (s:Bytes) (c:C) (l:List Bytes) (hc:c.rows=l.map iB) (hN:l.length≤big):∀(j i:Nat),i+j=l.length→
 jF (fun r=>(r=(0,[])∧s∉l.drop i)∨∃n:Nat,r=(1,[.r [.int (n:Int)]])∧s∈l.drop i) (sM (bA T) c s (l.length:Int) (i:Int))
 |0,i,h=>by
  rw[aZ];unfold tM
  obtain rfl:i=l.length:=by omega
  exact .ite (fun h=>absurd h rQ) fun _=> .some (.inl ⟨rfl,by simp⟩)
 |j+1,i,h=>by
  rw[aZ];unfold tM
  have hi:i<l.length:=by omega
  refine .pos (dec_lt hi) (.pos (vX (by rw[hc];simpa using hi)) ?_)
  rw[hc,Int.toNat_natCast,fC _ _ _ hi,aVX,zA,lC (show i≤big by omega)]
  have hd:=List.drop_eq_getElem_cons hi
  refine .ite (fun h=> .some (.inr ⟨i,rfl, ?_⟩)) fun h=>(aW1 s c l hc hN j (i+1) (by omega)).mono ?_
  ·simp only[beq_iff_eq]at h;rw[hd,h];exact List.mem_cons_self
  ·simp only[beq_iff_eq]at h
   rintro r (⟨e,h1⟩|⟨n,e,h1⟩)
   ·refine .inl ⟨e, ?_⟩
    rw[hd]
    exact fun hm=>(List.mem_cons.1 hm).elim h h1
   ·exact .inr ⟨n,e,by rw[hd];exact List.mem_cons.2 (.inr h1)⟩
theorem aRp (s:Bytes) (c:C) (l:List Bytes) (hc:c.rows=l.map iB) (hN:l.length≤big):(bA T).pc jQ [[c],[.str s]]=some [[.bool (decide (s∈l))]]:=by
 refine jF.eq ?_
 rw[aFu];unfold uT
 have:jF (fun r=>∃n:Int,r=[[.int n]]∧(decide (n≥0)=decide (s∈l))) ((bA T).pc cV [[c],[.str s]]):=by
  rw[aID];unfold nZ
  rw[hc,List.length_map]
  refine .bind (aW1 s c l hc hN l.length 0 (by omega)) ?_
  rw[List.drop_zero]
  rintro r (⟨rfl,h1⟩|⟨n,rfl,h1⟩)
  ·exact .some ⟨-1,rfl,by simp[h1]⟩
  ·exact .some ⟨n,rfl,by simp[h1]⟩
 refine .bind this ?_
 rintro r ⟨n,rfl,e⟩
 refine .some ?_
 rw[←e];rfl
theorem aZ5 {c:C} {l:List Bytes} (hc:c.rows=l.map iB) (i:Nat):(aKG c 0 (i:Int)).rows=(l.take i).map iB:=by
 cases c<;>simp[aKG,C.rows]at hc⊢<;>simp[←List.map_take,hc]
theorem aW2 (c:C) (l:List Bytes) (hc:c.rows=l.map iB) (hN:l.length≤big):∀(j i:Nat),i+j=l.length→
 j3 (bA T) c c (l.length:Int) (i:Int)=some (if c9 (l.take i) (l.drop i)=0 then (0,[])else (1,[.r [.int (c9 (l.take i) (l.drop i))]]))
 |0,i,h=>by
  rw[aHn];unfold aDc
  obtain rfl:i=l.length:=by omega
  simp[c9]
 |j+1,i,h=>by
  rw[aHn];unfold aDc
  have hi:i<l.length:=by omega
  have ih:=aW2 c l hc hN j (i+1) (by omega)
  refine jF.eq ?_
  refine .pos (dec_lt hi) (.pos (vX (by rw[hc];simpa using hi)) ?_)
  rw[hc,Int.toNat_natCast,fC _ _ _ hi,aVX,zA,List.drop_eq_getElem_cons hi,lC (show i≤big by omega),c9]
  refine .lA (aEJ _) ?_
  simp only[yA,oA,eA]
  cases hn:nm l[i]with
  |false=>simp only[Bool.not_false,if_true];exact .some rfl
  |true=>
   simp only[Bool.not_true,Bool.false_eq_true,if_false,if_true]
   refine .pos ⟨by omega,by omega,by rw[List.length_map];omega⟩ ?_
   refine .lA (aRp _ _ (l.take i) (aZ5 hc i) (by simp;omega)) ?_
   simp only[yA,oA,eA,ih,List.take_add_one,List.getElem?_eq_getElem hi,Option.toList_some]
   by_cases hm:l[i]∈l.take i
   ·simp only[hm,decide_true,if_true];exact .some rfl
   ·simp only[hm,decide_false,Bool.false_eq_true,if_false];exact .some rfl
theorem aQr (c:C) (l:List Bytes) (hc:c.rows=l.map iB) (hN:l.length≤big):(bA T).pc aEt [[c]]=some [[.int (aNQ l)]]:=by
 rw[aRl];unfold aLd aNQ
 have:=aW2 c l hc hN l.length 0 (by omega)
 rw[List.take_zero,List.drop_zero]at this
 rw[hc,List.length_map]
 by_cases h:l=[]
 ·subst h;rfl
 ·have hl:¬((l.length:Int)==0)=true:=by
   have:l.length≠0:=by simpa using h
   simp;exact h
  simp only[hl,Bool.false_eq_true,if_false,h]
  show (j3 (bA T) c c (l.length:Int) ((0:Nat):Int)).bind _=_
  rw[this]
  by_cases h0:c9 [] l=0<;>simp[h0]
theorem aW3 (a b:Bytes):ceq lS.ks [.str a] [.str b]=(a==b):=by simp[L.ks,ceq]
theorem aQs (a b:Bytes) (v:Row):∀m:List (Row×Row),(∀p∈m,∃s,p.1=[C.str s])→sI lS [.str b] (tQ lS [.str a] v m)=if b=a then some v else sI lS [.str b] m
 |[],_=>by
  simp only[tQ,sI,aW3,beq_iff_eq]
 |(k,u)::r,h=>by
  obtain ⟨s,hs⟩:=h (k,u) (by simp)
  simp only at hs
  subst hs
  have ih:=aQs a b v r fun p hp=>h p (by simp[hp])
  simp only[tQ,aW3,beq_iff_eq]
  by_cases e:a=s
  ·subst e
   simp only[if_true,sI,aW3,beq_iff_eq]
   by_cases e2:b=a<;>simp[e2]
  ·simp only[e,if_false,sI,aW3,beq_iff_eq,ih]
   by_cases e2:b=s
   ·subst e2;simp[Ne.symm e]
   ·simp[e2]
theorem aUM (a:Bytes) (v:Row):∀m:List (Row×Row),(∀p∈m,∃s,p.1=[C.str s])→∀p∈tQ lS [.str a] v m,∃s,p.1=[C.str s]
 |[],_,p,hp=>by simp only[tQ,List.mem_singleton]at hp;subst hp;exact ⟨a,rfl⟩
 |(k,u)::r,h,p,hp=>by
  simp only[tQ]at hp
  split at hp
  ·rcases List.mem_cons.1 hp with e |e
   ·subst e;exact h (k,u) (by simp)
   ·exact h p (by simp[e])
  ·rcases List.mem_cons.1 hp with e |e
   ·subst e;exact h (k,u) (by simp)
   ·exact aUM a v r (fun p hp=>h p (by simp[hp])) p e
structure aOP (zero one:C) (pre:List Bytes) (m:List (Row×Row)):Prop where
 keys:∀p∈m,∃s,p.1=[C.str s]
 look:∀s,(sI lS [.str s] m).getD [zero]=[if s∈pre then one else zero]
theorem aOP.nil {zero one:C}:aOP zero one [] []:=⟨fun p h=>absurd h (by simp),fun s=>by simp[sI]⟩
theorem aOP.add {zero one:C} {pre:List Bytes} {m:List (Row×Row)} (h:aOP zero one pre m) (s:Bytes):aOP zero one (pre++[s]) (tQ lS [.str s] [one] m):=by
 refine ⟨aUM s _ m h.keys,fun b=> ?_⟩
 rw[aQs s b _ m h.keys]
 by_cases e:b=s
 ·subst e;simp
 ·simp only[e,if_false,h.look b,List.mem_append,List.mem_singleton,or_false]
theorem distinct_l (c:C) (l:List Bytes) (hc:c.rows=l.map iB) (hN:l.length≤big):∀(j i:Nat) (m:List (Row×Row)),i+j=l.length→aOP (.int 0) (.int 1) (l.take i) m→
 gK (bA T) c (l.length:Int) (i:Int) m=some (if c9 (l.take i) (l.drop i)=0 then (0,[])else (1,[.r [.int (c9 (l.take i) (l.drop i))]]))
 |0,i,m,h,hm=>by
  rw[aAL];unfold wP
  obtain rfl:i=l.length:=by omega
  simp[c9]
 |j+1,i,m,h,hm=>by
  rw[aAL];unfold wP
  have hi:i<l.length:=by omega
  refine jF.eq ?_
  refine .pos (dec_lt hi) (.pos (vX (by rw[hc];simpa using hi)) ?_)
  rw[hc,Int.toNat_natCast,fC _ _ _ hi,aVX,zA,List.drop_eq_getElem_cons hi,lC (show i≤big by omega),c9]
  refine .lA (aEJ _) ?_
  simp only[yA,oA,eA]
  cases hn:nm l[i]with
  |false=>simp only[Bool.not_false,if_true];exact .some rfl
  |true=>
   simp only[Bool.not_true,Bool.false_eq_true,if_false,if_true]
   rw[aQs _ _ _ m hm.keys,if_pos rfl,hm.look]
   by_cases hmm:l[i]∈l.take i
   ·simp only[hmm,if_true,oA,rA,Option.getD_some]
    exact .some rfl
   ·simp only[hmm,if_false,oA,rA,Option.getD_some]
    have ih:=distinct_l c l hc hN j (i+1) (tQ lS [.str l[i]] [.int 1] m) (by omega) (by rw[List.take_add_one,List.getElem?_eq_getElem hi];exact hm.add _)
    rw[List.take_add_one,List.getElem?_eq_getElem hi]at ih
    exact ⟨_,ih,rfl⟩
theorem aKE (c:C) (l:List Bytes) (hc:c.rows=l.map iB) (hN:l.length≤big):(bA T).pc dR [[c]]=some [[.int (aNQ l)]]:=by
 rw[aJH];unfold aBE aNQ
 have:=distinct_l c l hc hN l.length 0 [] (by omega) .nil
 rw[List.take_zero,List.drop_zero]at this
 rw[hc,List.length_map]
 by_cases h:l=[]
 ·subst h;rfl
 ·have hl:¬((l.length:Int)==0)=true:=by
   simp;exact h
  simp only[hl,Bool.false_eq_true,if_false,h]
  show (gK (bA T) c (l.length:Int) ((0:Nat):Int) []).bind _=_
  rw[this]
  by_cases h0:c9 [] l=0<;>simp[h0]
def a4b (l:List UInt8):Nat:=l.foldl (fun a d=>10*a+(d.toNat - 48)) 0
theorem aW4 {k:Nat} (h:k<10):(UInt8.ofNat (48+k)).toNat=48+k:=by simp;omega
theorem aQt (u:Nat):a4b (Lib.decDigits u)=u:=by
 rw[Lib.decDigits]
 split
 ·rename_i h;simp only[a4b,List.foldl_cons,List.foldl_nil,aW4 h];omega
 ·rename_i h
  have ih:=aQt (u/10)
  unfold a4b at ih⊢
  rw[List.foldl_append,ih,List.foldl_cons,List.foldl_nil,aW4 (by omega)]
  omega
 termination_by u
 decreasing_by omega
theorem aTq (u:Nat):∀d∈Lib.decDigits u,48≤d.toNat:=by
 rw[Lib.decDigits]
 split
 ·rename_i h;intro d hd;simp only[List.mem_singleton]at hd;rw[hd,aW4 h];omega
 ·rename_i h
  intro d hd
  rcases List.mem_append.1 hd with e |e
  ·exact aTq (u/10) d e
  ·simp only[List.mem_singleton]at e;rw[e,aW4 (by omega)];omega
 termination_by u
 decreasing_by omega
theorem aW5 {u v:Nat} (h:Lib.decDigits u=Lib.decDigits v):u=v:=by rw[←aQt u,h,aQt]
theorem aZ6 {a b:Int} (h:Lib.itoa a=Lib.itoa b):a=b:=by
 unfold Lib.itoa at h
 split at h<;>split at h
 ·have:=aW5 (List.cons.inj h).2;omega
 ·have:=aTq b.toNat 45 (by rw[←h];simp)
  exact absurd this (by decide)
 ·have:=aTq a.toNat 45 (by rw[h];simp)
  exact absurd this (by decide)
 ·have:=aW5 h;omega
end Go.Ev.oO
namespace Go.Ev.oO
noncomputable def aB0 (v:wA):Int:=match (bA T).pc mH [v.row]with
 |some [[.int n]]=>n
 |_=>0
theorem aDC (v:wA) (hN:v.xC≤big):(bA T).pc mH [v.row]=some [[.int (aB0 v)]]∧(aB0 v=0→dQ v=false):=by
 obtain ⟨n,h,h2⟩:=aVW v hN
 have e:aB0 v=n:=by unfold aB0;rw[h]
 rw[e];exact ⟨h,h2⟩
theorem aZI {v:wA} (hN:v.xC≤big) (h0:aB0 v=0):VOk v:=by
 obtain ⟨n,h,h2⟩:=aSf v hN
 have e:aB0 v=n:=by unfold aB0;rw[h]
 exact h2 (e▸h0)
noncomputable def aOQ (s:Bytes):Int:=match (bA T).pc cI [[.str s]]with
 |some [[.int n]]=>n
 |_=>0
theorem aMP (s:Bytes):(bA T).pc cI [[.str s]]=some [[.int (aOQ s)]]:=by
 obtain ⟨n,h⟩:=aTk s
 have e:aOQ s=n:=by unfold aOQ;rw[h]
 rw[e];exact h
def fV (k:Int):Bool:=k==1 ||k==2 ||k==4 ||k==5
theorem aLw (k:Int):(bA T).pc aBw [[.int k]]=some [[.bool (fV k)]]:=by
 rw[aRk];unfold aLc fV
 cases (k==1)<;>cases (k==2)<;>cases (k==4)<;>rfl
theorem aJS (k:Int):(bA T).pc rS [[.int k]]=some [[.bool (fV k)]]:=by
 rw[aMD];unfold aE4 fV
 cases (k==1)<;>cases (k==2)<;>cases (k==4)<;>cases (k==5)<;>rfl
noncomputable def vQ (k0:Int) (seen:List wA) (v:wA):Int:=if aB0 v≠0 then aB0 v else if (!fV v.k ||v.k !=k0)=true then 8 else if seen.any (fun q=>v.eqv q)=true then 5 else 0
noncomputable def dU (k0 k1:Int):List (wA×wA)→List (wA×wA)→Int
 |_,[]=>0
 |pre,p::r=>if vQ k0 (pre.map Prod.fst) p.1≠0 then vQ k0 (pre.map Prod.fst) p.1 else if vQ k1 (pre.map Prod.snd) p.2≠0 then vQ k1 (pre.map Prod.snd) p.2 else dU k0 k1 (pre++[p]) r
noncomputable def aLt:List (wA×wA)→Int
 |[]=>3
 |p::r=>if r.length≥40 then 2 else dU p.1.k p.2.k [] (p::r)
def pk (p:wA×wA):Nat→wA
 |0=>p.1
 |_=>p.2
theorem aVY (p:wA×wA) {k:Nat} (hk:k<2):([at_ (tA p) ((k:Int).toNat*4),at_ (tA p) ((k:Int).toNat*4+1),at_ (tA p) ((k:Int).toNat*4+2),at_ (tA p) ((k:Int).toNat*4+3)]:Row)=(pk p k).row:=by
 match k,hk with
 |0,_=>rfl
 |1,_=>rfl
theorem a7J (p:wA×wA) {k:Nat} (hk:k<2):(at_ (tA p) ((k:Int).toNat*4)).vA=(pk p k).k:=by
 match k,hk with
 |0,_=>rfl
 |1,_=>rfl
structure aEC (l:List (wA×wA)):Prop where
 wf:∀p∈l,∀k,(pk p k).wf
 xC:∀p∈l,∀k,(pk p k).xC≤big
 len:l.length≤big
theorem aSg {c:C} {l:List (wA×wA)} (hc:c.rows=l.map tA) (i:Nat):(aKG c 0 (i:Int)).rows=(l.take i).map tA:=by
 cases c<;>simp[aKG,C.rows]at hc⊢<;>simp[←List.map_take,hc]
theorem aSh (v0 v4:C) (v1 v5 v6 v7:Int) (p:wA×wA) (k:Nat) (hk:k<2) (c:C) (l:List (wA×wA)) (hc:c.rows=l.map tA) (hp:(pk p k).wf∧(pk p k).xC≤big) (hl:aEC l):∀(j i:Nat),i+j=l.length→
 aDd (bA T) v0 v1 (.dp (tA p)) (k:Int) v4 v5 v6 v7 c (l.length:Int) (i:Int)=some (if (l.drop i).any (fun q=>(pk p k).eqv (pk q k))=true then (1,[.r [.int 5]])else (0,[.r [v0], .r [.int v1], .r [.dp (tA p)], .r [v4], .r [.int v5], .r [.int v6], .r [.int v7]]))
 |0,i,h=>by
  rw[aHo];unfold aDe
  obtain rfl:i=l.length:=by omega
  simp
 |j+1,i,h=>by
  rw[aHo];unfold aDe
  have hi:i<l.length:=by omega
  have ih:=aSh v0 v4 v1 v5 v6 v7 p k hk c l hc hp hl j (i+1) (by omega)
  refine jF.eq ?_
  refine .pos (dec_lt hi) (.pos (vX (by rw[hc];simpa using hi)) ?_)
  refine .pos ⟨by omega,by omega,rfl⟩ (.pos ⟨by omega,by omega,rfl⟩ ?_)
  rw[show aA c.rows (i:Int).toNat=tA l[i]from (by rw[hc,Int.toNat_natCast];exact fC _ _ _ hi),lC (show i≤big by have:=hl.len;omega)]
  have e:(bA T).pc aBv [(pk p k).row,(pk l[i] k).row]=some [[.bool ((pk p k).eqv (pk l[i] k))]]:=aSb _ _ hp.1 (hl.wf _ (List.getElem_mem hi) k) hp.2
  rw[←aVY p hk,←aVY l[i] hk]at e
  refine .lA e ?_
  rw[ih,List.drop_eq_getElem_cons hi,List.any_cons]
  simp only[yA,oA,eA]
  cases (pk p k).eqv (pk l[i] k)with
  |true=>simp only[if_true,Bool.true_or];exact .some rfl
  |false=>simp only[Bool.false_eq_true,if_false,Bool.false_or];exact .some rfl
theorem a1l {α β:Type} (f:α→β) (g:β→Bool) (l:List α):(l.map f).any g=l.any (fun a=>g (f a)):=by simp[List.any_map,Function.comp_def]
theorem aSi (c:C) (l:List (wA×wA)) (hc:c.rows=l.map tA) (hl:aEC l) (i:Nat) (hi:i<l.length) (k:Nat) (hk:k<2):
 vU (bA T) c (i:Int) (.dp (tA l[i])) c (l.length:Int) (i:Int) (k:Int)=
  if vQ (pk (l[0]'(by omega)) k).k ((l.take i).map (fun p=>pk p k)) (pk l[i] k)≠0 then some (1,[.r [.int (vQ (pk (l[0]'(by omega)) k).k ((l.take i).map (fun p=>pk p k)) (pk l[i] k))]])
  else vU (bA T) c (i:Int) (.dp (tA l[i])) c (l.length:Int) (i:Int) ((k+1:Nat):Int):=by
 rw[aHp];unfold aDf
 have hmem:=List.getElem_mem hi
 have hb:=hl.xC _ hmem k
 obtain ⟨hcs, -⟩:=aDC _ hb
 rw[←aVY _ hk]at hcs
 have hgu:(0:Int)≤(k:Int)∧(k:Int)<2∧(C.dp (tA l[i])).jB=true:=⟨by omega,by omega,rfl⟩
 rw[if_pos (show decide ((k:Int)<2)=true by simp;omega),if_pos hgu]
 simp only[vC]
 rw[hcs]
 simp only[Option.bind_some,yA,oA,rA]
 by_cases h0:aB0 (pk l[i] k)=0
 ·have hne:¬(aB0 (pk l[i] k) !=0)=true:=by simp[h0]
  simp only[hne,if_false,if_pos hgu,a7J _ hk,aLw,Option.bind_some,yA,oA,eA]
  have hr0:aA c.rows 0=tA (l[0]'(by omega)):=by rw[hc];exact fC _ _ _ (by omega)
  have hlen:(0:Int)≤0∧(0:Int)<(c.rows.length:Int):=⟨by omega,by rw[hc,List.length_map];omega⟩
  have a99:(0:Int)≤(k:Int)∧(k:Int)<2∧(C.dp (tA (l[0]'(by omega)))).jB=true:=⟨by omega,by omega,rfl⟩
  simp only[if_pos hlen,if_pos a99,hr0,a7J _ hk]
  have bAa:(0:Int)≤0∧(0:Int)≤(i:Int)∧(i:Int)≤(c.rows.length:Int):=⟨by omega,by omega,by rw[hc,List.length_map];omega⟩
  have h2:=aSh c c (i:Int) (l.length:Int) (i:Int) (k:Int) l[i] k hk (aKG c 0 (i:Int)) (l.take i) (aSg hc i) ⟨hl.wf _ hmem k,hb⟩ ⟨fun p hp=>hl.wf p (List.mem_of_mem_take hp),fun p hp=>hl.xC p (List.mem_of_mem_take hp),by have:=hl.len;simp;omega⟩ (l.take i).length 0 (by omega)
  rw[List.drop_zero,show ((0:Nat):Int)=0 from rfl]at h2
  have hsl:((aKG c 0 (i:Int)).rows.length:Int)=((l.take i).length:Int):=by rw[aSg hc i,List.length_map]
  unfold vQ
  simp only[h0,ne_eq,not_true_eq_false,if_false]
  rw[a1l]
  cases hpl:fV (pk l[i] k).k with
  |false=>simp
  |true=>
   cases hkk:(pk l[i] k).k !=(pk (l[0]'(by omega)) k).k with
   |true=>rfl
   |false=>
    simp only[Bool.not_true,Bool.false_eq_true,if_false,Option.bind_some,tC,uC,wC,oC,sC,kC,Bool.false_or,if_pos bAa,hsl]
    rw[h2]
    cases (l.take i).any fun q=>(pk l[i] k).eqv (pk q k)with
    |true=>simp
    |false=>
     simp only[Bool.false_eq_true,if_false,Option.bind_some,wC,oC,sC,kC,lC (show k≤big by unfold big;omega)]
     simp
 ·have hne:(aB0 (pk l[i] k) !=0)=true:=by simp[h0]
  unfold vQ
  simp[hne,h0]
theorem aVZ (c:C) (l:List (wA×wA)) (hc:c.rows=l.map tA) (hl:aEC l) (i:Nat) (hi:i<l.length):
 vU (bA T) c (i:Int) (.dp (tA l[i])) c (l.length:Int) (i:Int) 2=some (0,[.r [c], .r [c], .r [.int (l.length:Int)], .r [.int (i:Int)]]):=by
 rw[aHp];unfold aDf
 rfl
theorem aSj (c:C) (p0:wA×wA) (r0:List (wA×wA)) (hc:c.rows=(p0::r0).map tA) (hl:aEC (p0::r0)):∀(j i:Nat),i+j=(p0::r0).length→
 aDg (bA T) c c ((p0::r0).length:Int) (i:Int)=some (if dU p0.1.k p0.2.k ((p0::r0).take i) ((p0::r0).drop i)=0 then (0,[])else (1,[.r [.int (dU p0.1.k p0.2.k ((p0::r0).take i) ((p0::r0).drop i))]]))
 |0,i,h=>by
  rw[aHq];unfold aDh
  obtain rfl:i=(p0::r0).length:=by omega
  rw[List.drop_length]
  simp[dU]
 |j+1,i,h=>by
  rw[aHq];unfold aDh
  generalize hL:p0::r0=L at hc hl h⊢
  have hi:i<L.length:=by omega
  have ih:=aSj c p0 r0 (by rw[hL];exact hc) (by rw[hL];exact hl) j (i+1) (by rw[hL];omega)
  rw[hL,List.take_add_one,List.getElem?_eq_getElem hi,Option.toList_some]at ih
  have e0:L[0]'(by omega)=p0:=by subst hL;rfl
  have l1:=aSi c L hc hl i hi 0 (by omega)
  have l2:=aSi c L hc hl i hi 1 (by omega)
  rw[e0]at l1 l2
  refine jF.eq ?_
  refine .pos (dec_lt hi) (.pos (vX (by rw[hc];simpa using hi)) ?_)
  rw[show aA c.rows (i:Int).toNat=tA L[i]from (by rw[hc,Int.toNat_natCast];exact fC _ _ _ hi),List.drop_eq_getElem_cons hi,dU]
  rw[show ((0:Nat):Int)=0 from rfl]at l1
  rw[l1,l2]
  simp only[show (((1+1:Nat)):Int)=2 from rfl,aVZ c L hc hl i hi]
  show jF (fun r=>r=(if (if vQ p0.1.k ((L.take i).map Prod.fst) L[i].1≠0 then vQ p0.1.k ((L.take i).map Prod.fst) L[i].1 else if vQ p0.2.k ((L.take i).map Prod.snd) L[i].2≠0 then vQ p0.2.k ((L.take i).map Prod.snd) L[i].2 else dU p0.1.k p0.2.k (L.take i++[L[i]]) (L.drop (i+1)))=0 then (0,[])else _)) (Option.bind (if vQ p0.1.k ((L.take i).map Prod.fst) L[i].1≠0 then some (1,[PV.r [C.int (vQ p0.1.k ((L.take i).map Prod.fst) L[i].1)]])else if vQ p0.2.k ((L.take i).map Prod.snd) L[i].2≠0 then some (1,[PV.r [C.int (vQ p0.2.k ((L.take i).map Prod.snd) L[i].2)]])else _) _)
  by_cases h1:vQ p0.1.k ((L.take i).map Prod.fst) L[i].1=0
  ·by_cases h2:vQ p0.2.k ((L.take i).map Prod.snd) L[i].2=0
   ·simp only[h1,h2,ne_eq,not_true_eq_false,if_false,Option.bind_some,wC,oC,sC,kC,lC (show i≤big by have:=hl.len;omega),ih]
    exact .some rfl
   ·simp only[h1,h2,ne_eq,not_true_eq_false,not_false_eq_true,if_false,if_true,Option.bind_some,oC]
    exact .some rfl
  ·simp only[h1,ne_eq,not_false_eq_true,if_false,if_true,Option.bind_some,oC]
   exact .some rfl
theorem aUN (c:C) (l:List (wA×wA)) (hc:c.rows=l.map tA) (hl:aEC l):(bA T).pc aIo [[c]]=some [[.int (aLt l)]]:=by
 rw[aRm];unfold aLe
 rw[hc,List.length_map]
 cases l with
 |nil=>rfl
 |cons p r=>
  rw[aLt]
  have h0:¬(((p::r).length:Int)==0)=true:=by simp;omega
  rw[if_neg h0]
  by_cases h1:r.length≥40
  ·rw[if_pos (show decide (((p::r).length:Int)>40)=true by simp;omega),if_pos h1]
  ·rw[if_neg (show ¬decide (((p::r).length:Int)>40)=true by simp;omega),if_neg h1]
   have:=aSj c p r hc hl (p::r).length 0 (by omega)
   rw[List.take_zero,List.drop_zero,show ((0:Nat):Int)=0 from rfl]at this
   rw[this]
   by_cases h2:dU p.1.k p.2.k [] (p::r)=0<;>simp[h2]
end Go.Ev.oO
namespace Go.Ev.oO
def idB (v:wA):Bytes:=Lib.itoa v.n++[32]++v.s
structure aJT (k0:Int) (v:wA):Prop where
 u:dQ v=false
 p:fV v.k=true
 k:v.k=k0
theorem a4c {k0:Int} {v q:wA} (hv:aJT k0 v) (hq:aJT k0 q):idB v=idB q↔v.eqv q=true:=by
 have hk:=hv.k.trans hq.k.symm
 have hp:=hv.p
 have fs0:∀{x:wA},dQ x=false→fV x.k=true→x.fs=[]:=by
  intro x hu hp
  unfold dQ at hu
  have hs:aVT x.k=true:=by
   unfold fV at hp;unfold aVT
   simp at hp⊢;omega
  simp[hs]at hu
  exact hu.2
 have s0:∀{x:wA},dQ x=false→x.k≠5→x.s=[]:=by
  intro x hu h5
  unfold dQ at hu
  simp[h5]at hu
  exact hu.1.2
 have n0:∀{x:wA},dQ x=false→x.k=5→x.n=0:=by
  intro x hu h5
  unfold dQ at hu
  have:aZ2 x.k=false:=by rw[h5];rfl
  simp[this]at hu
  exact hu.1.1
 rw[wA.aSC,fs0 hv.u hv.p,fs0 hq.u hq.p]
 have hkk:(v.k==q.k)=true:=by simp[hk]
 simp only[hkk,vZ,Bool.true_and,Bool.and_true,Bool.and_eq_true,beq_iff_eq]
 unfold idB
 by_cases h5:v.k=5
 ·rw[n0 hv.u h5,n0 hq.u (hk▸h5)]
  constructor
  ·intro h;exact ⟨rfl,List.append_cancel_left h⟩
  ·intro h;rw[h.2]
 ·rw[s0 hv.u h5,s0 hq.u (hk▸h5)]
  constructor
  ·intro h
   rw[List.append_nil,List.append_nil]at h
   exact ⟨aZ6 (List.append_cancel_right h),rfl⟩
  ·intro h;rw[h.1]
theorem aV0 {k0:Int} {v:wA} (hv:aJT k0 v):∀{pre:List wA},(∀q∈pre,aJT k0 q)→decide (idB v∈pre.map idB)=pre.any (fun q=>v.eqv q)
 |[],_=>by simp
 |q::r,h=>by
  have ih:=aV0 hv (pre:=r) fun x hx=>h x (by simp[hx])
  have e:=a4c hv (h q (by simp))
  rw[List.any_cons,←ih,List.map_cons]
  cases he:v.eqv q with
  |true=>simp[e.2 he]
  |false=>
   have:¬idB v=idB q:=fun h=>by rw[e.1 h]at he;cases he
   simp[this]
theorem aUO {k0:Int} {seen:List wA} {v:wA} (hb:v.xC≤big) (h:vQ k0 seen v=0):aJT k0 v:=by
 unfold vQ at h
 by_cases h0:aB0 v=0
 ·simp only[h0,ne_eq,not_true_eq_false,if_false]at h
  split at h
  ·omega
  ·rename_i hn
   refine ⟨(aDC v hb).2 h0, ?_, ?_⟩
   ·cases hp:fV v.k
    ·simp[hp]at hn
    ·rfl
   ·simp at hn;exact hn.2
 ·simp only[ne_eq,h0,not_false_eq_true,if_true]at h
theorem lP {n:Int} (h:tZ n):(bA T).pc qD [[.int n]]=some [[.str (Lib.itoa n)]]:=by
 refine (aJ7 T (rfl:T qD= .given _ _ aUh) _).trans ?_
 obtain ⟨h1,h2⟩:=h
 exact if_pos ⟨by omega,by omega⟩
theorem aUP (c:C) (len i:Int) (p p0:wA×wA) (hc:aA c.rows 0=tA p0) (hc0:0<c.rows.length) (m0 m1:List (Row×Row)) (pre:List wA) (hm:aOP (.bool false) (.bool true) (pre.map idB) m0) (hpre:∀q∈pre,aJT p0.1.k q) (hb:p.1.xC≤big) (hw:p.1.wf):
 wF (bA T) c c len i (tA p) 0 m0 m1=if vQ p0.1.k pre p.1≠0 then some (1,[PV.r [C.int (vQ p0.1.k pre p.1)]])else wF (bA T) c c len i (tA p) 1 (tQ lS [.str (idB p.1)] [.bool true] m0) m1:=by
 rw[tX];unfold xP
 obtain ⟨hcs, -⟩:=aDC _ hb
 have hrow:([at_ (tA p) ((0:Int).toNat*4),at_ (tA p) ((0:Int).toNat*4+1),at_ (tA p) ((0:Int).toNat*4+2),at_ (tA p) ((0:Int).toNat*4+3)]:Row)=p.1.row:=rfl
 have hkk:(at_ (tA p) ((0:Int).toNat*4)).vA=p.1.k:=rfl
 have a4d:(at_ (tA p0) ((0:Int).toNat*4)).vA=p0.1.k:=rfl
 rw[if_pos (show decide ((0:Int)<2)=true from rfl),if_pos (show (0:Int)≤0∧(0:Int)<2 by omega)]
 have hlen:(0:Int)≤0∧(0:Int)<(c.rows.length:Int):=⟨by omega,by omega⟩
 have hg2:(0:Int)≤0∧(0:Int)<2∧(C.dp (tA p0)).jB=true:=⟨by omega,by omega,rfl⟩
 simp only[hrow,hcs,Option.bind_some,yA,oA,rA,hkk,aJS,eA,if_pos hlen,hc,if_pos hg2,a4d]
 by_cases h0:aB0 p.1=0
 ·have hne:¬(aB0 p.1 !=0)=true:=by simp[h0]
  simp only[hne,if_false]
  cases hp:fV p.1.k with
  |false=>
   unfold vQ
   simp[h0,hp]
  |true=>
   cases hk:(p.1.k !=p0.1.k)with
   |true=>
    have hone:vQ p0.1.k pre p.1=8:=by unfold vQ;simp only[h0,ne_eq,not_true_eq_false,if_false,hp,hk,Bool.not_true,Bool.false_or,if_true]
    rw[hone]
    rfl
   |false=>
    have aZ7:aJT p0.1.k p.1:=⟨(aDC _ hb).2 h0,hp,by simpa using hk⟩
    have hl1:=Lib.itoa_length_le p.1.n (wA.aOv hw).1 (by have:=(wA.aOv hw).2;omega)
    have hl2:p.1.s.length≤big:=by have:=p.1.aM;omega
    have g1:(Lib.itoa p.1.n).length+([32]:List UInt8).length≤1099511627776:=by simp;omega
    have g2:(Lib.itoa p.1.n++([32]:List UInt8)).length+p.1.s.length≤1099511627776:=by unfold big at hl2;simp;omega
    have a1:at_ p.1.row 1= .int p.1.n:=rfl
    have a2:at_ p.1.row 2= .str p.1.s:=rfl
    have hid:Lib.itoa p.1.n++([32]:List UInt8)++p.1.s=idB p.1:=rfl
    have hone:vQ p0.1.k pre p.1=if pre.any (fun q=>p.1.eqv q)=true then 5 else 0:=by unfold vQ;simp only[h0,ne_eq,not_true_eq_false,if_false,hp,hk,Bool.not_true,Bool.false_or,Bool.false_eq_true]
    have hw1:IntKind.wrap .i64 ((0:Int)+1)=1:=rfl
    rw[hone,←aV0 aZ7 hpre]
    simp only[Bool.not_true,Bool.false_eq_true,if_false,Option.bind_some,oD,cD,tC,uC,wC,oC,sC,kC,pH,qH,a1,a2,rA,zA,lP (wA.aOv hw),yA,oA,if_pos g1,if_pos g2,hid,hm.look,eA,if_true,hw1,(by decide:¬(1:Int)=0)]
    by_cases hmem:idB p.1∈pre.map idB
    ·simp[hmem]
    ·simp[hmem]
 ·have hne:(aB0 p.1 !=0)=true:=by simp[h0]
  unfold vQ
  simp[hne,h0]
theorem aUQ (c:C) (len i:Int) (p p0:wA×wA) (hc:aA c.rows 0=tA p0) (hc0:0<c.rows.length) (m0 m1:List (Row×Row)) (pre:List wA) (hm:aOP (.bool false) (.bool true) (pre.map idB) m1) (hpre:∀q∈pre,aJT p0.2.k q) (hb:p.2.xC≤big) (hw:p.2.wf):
 wF (bA T) c c len i (tA p) 1 m0 m1=if vQ p0.2.k pre p.2≠0 then some (1,[PV.r [C.int (vQ p0.2.k pre p.2)]])else wF (bA T) c c len i (tA p) 2 m0 (tQ lS [.str (idB p.2)] [.bool true] m1):=by
 rw[tX];unfold xP
 obtain ⟨hcs, -⟩:=aDC _ hb
 have hrow:([at_ (tA p) ((1:Int).toNat*4),at_ (tA p) ((1:Int).toNat*4+1),at_ (tA p) ((1:Int).toNat*4+2),at_ (tA p) ((1:Int).toNat*4+3)]:Row)=p.2.row:=rfl
 have hkk:(at_ (tA p) ((1:Int).toNat*4)).vA=p.2.k:=rfl
 have a4d:(at_ (tA p0) ((1:Int).toNat*4)).vA=p0.2.k:=rfl
 rw[if_pos (show decide ((1:Int)<2)=true from rfl),if_pos (show (0:Int)≤1∧(1:Int)<2 by omega)]
 have hlen:(0:Int)≤0∧(0:Int)<(c.rows.length:Int):=⟨by omega,by omega⟩
 have hg2:(0:Int)≤1∧(1:Int)<2∧(C.dp (tA p0)).jB=true:=⟨by omega,by omega,rfl⟩
 simp only[hrow,hcs,Option.bind_some,yA,oA,rA,hkk,aJS,eA,if_pos hlen,hc,if_pos hg2,a4d]
 by_cases h0:aB0 p.2=0
 ·have hne:¬(aB0 p.2 !=0)=true:=by simp[h0]
  simp only[hne,if_false]
  cases hp:fV p.2.k with
  |false=>
   unfold vQ
   simp[h0,hp]
  |true=>
   cases hk:(p.2.k !=p0.2.k)with
   |true=>
    have hone:vQ p0.2.k pre p.2=8:=by unfold vQ;simp only[h0,ne_eq,not_true_eq_false,if_false,hp,hk,Bool.not_true,Bool.false_or,if_true]
    rw[hone]
    rfl
   |false=>
    have aZ7:aJT p0.2.k p.2:=⟨(aDC _ hb).2 h0,hp,by simpa using hk⟩
    have hl1:=Lib.itoa_length_le p.2.n (wA.aOv hw).1 (by have:=(wA.aOv hw).2;omega)
    have hl2:p.2.s.length≤big:=by have:=p.2.aM;omega
    have g1:(Lib.itoa p.2.n).length+([32]:List UInt8).length≤1099511627776:=by simp;omega
    have g2:(Lib.itoa p.2.n++([32]:List UInt8)).length+p.2.s.length≤1099511627776:=by unfold big at hl2;simp;omega
    have a1:at_ p.2.row 1= .int p.2.n:=rfl
    have a2:at_ p.2.row 2= .str p.2.s:=rfl
    have hid:Lib.itoa p.2.n++([32]:List UInt8)++p.2.s=idB p.2:=rfl
    have hone:vQ p0.2.k pre p.2=if pre.any (fun q=>p.2.eqv q)=true then 5 else 0:=by unfold vQ;simp only[h0,ne_eq,not_true_eq_false,if_false,hp,hk,Bool.not_true,Bool.false_or,Bool.false_eq_true]
    have hw1:IntKind.wrap .i64 ((1:Int)+1)=2:=rfl
    rw[hone,←aV0 aZ7 hpre]
    simp only[Bool.not_true,Bool.false_eq_true,if_false,Option.bind_some,oD,cD,tC,uC,wC,oC,sC,kC,pH,qH,a1,a2,rA,zA,lP (wA.aOv hw),yA,oA,if_pos g1,if_pos g2,hid,hm.look,eA,if_true,hw1,(by decide:¬(1:Int)=0)]
    by_cases hmem:idB p.2∈pre.map idB
    ·simp[hmem]
    ·simp[hmem]
 ·have hne:(aB0 p.2 !=0)=true:=by simp[h0]
  unfold vQ
  simp[hne,h0]
theorem aSk (c:C) (p0:wA×wA) (r0:List (wA×wA)) (hc:c.rows=(p0::r0).map tA) (hl:aEC (p0::r0)):∀(j i:Nat) (m0 m1:List (Row×Row)),i+j=(p0::r0).length→
 aOP (.bool false) (.bool true) (((p0::r0).take i).map fun p=>idB p.1) m0→aOP (.bool false) (.bool true) (((p0::r0).take i).map fun p=>idB p.2) m1→(∀p∈(p0::r0).take i,aJT p0.1.k p.1∧aJT p0.2.k p.2)→
 xV (bA T) c c ((p0::r0).length:Int) (i:Int) m0 m1=some (if dU p0.1.k p0.2.k ((p0::r0).take i) ((p0::r0).drop i)=0 then (0,[])else (1,[.r [.int (dU p0.1.k p0.2.k ((p0::r0).take i) ((p0::r0).drop i))]]))
 |0,i,m0,m1,h,_,_,_=>by
  rw[aDx];unfold yV
  obtain rfl:i=(p0::r0).length:=by omega
  rw[List.drop_length]
  simp[dU]
 |j+1,i,m0,m1,h,hm0,hm1,hg=>by
  rw[aDx];unfold yV
  have ih:=fun m0 m1=>aSk c p0 r0 hc hl j (i+1) m0 m1 (by omega)
  generalize hL:p0::r0=L at hc hl h hm0 hm1 hg ih⊢
  have hi:i<L.length:=by omega
  rw[List.take_add_one,List.getElem?_eq_getElem hi,Option.toList_some]at ih
  have hc0:aA c.rows 0=tA p0:=by rw[hc,←hL];rfl
  have hcl:0<c.rows.length:=by rw[hc,List.length_map];omega
  have hmem:=List.getElem_mem hi
  have e1:((L.take i).map Prod.fst).map idB=(L.take i).map fun p=>idB p.1:=by rw[List.map_map];rfl
  have e2:((L.take i).map Prod.snd).map idB=(L.take i).map fun p=>idB p.2:=by rw[List.map_map];rfl
  have l1:=aUP c (L.length:Int) (i:Int) L[i] p0 hc0 hcl m0 m1 ((L.take i).map Prod.fst) (e1▸hm0) (fun q hq=>by obtain ⟨p,hp,rfl⟩:=List.mem_map.1 hq;exact (hg p hp).1) (hl.xC _ hmem 0) (hl.wf _ hmem 0)
  have l2:=aUQ c (L.length:Int) (i:Int) L[i] p0 hc0 hcl (tQ lS [.str (idB L[i].1)] [.bool true] m0) m1 ((L.take i).map Prod.snd) (e2▸hm1) (fun q hq=>by obtain ⟨p,hp,rfl⟩:=List.mem_map.1 hq;exact (hg p hp).2) (hl.xC _ hmem 1) (hl.wf _ hmem 1)
  have l3:wF (bA T) c c (L.length:Int) (i:Int) (tA L[i]) 2 (tQ lS [.str (idB L[i].1)] [.bool true] m0) (tQ lS [.str (idB L[i].2)] [.bool true] m1)=some (0,[.r [c], .r [c], .r [.int (L.length:Int)], .r [.int (i:Int)], .m (tQ lS [.str (idB L[i].1)] [.bool true] m0), .m (tQ lS [.str (idB L[i].2)] [.bool true] m1)]):=by
   rw[tX];unfold xP;rfl
  refine jF.eq ?_
  refine .pos (dec_lt hi) (.pos (vX (by rw[hc];simpa using hi)) ?_)
  rw[show aA c.rows (i:Int).toNat=tA L[i]from (by rw[hc,Int.toNat_natCast];exact fC _ _ _ hi),List.drop_eq_getElem_cons hi,dU]
  rw[l1,l2,l3]
  by_cases h1:vQ p0.1.k ((L.take i).map Prod.fst) L[i].1=0
  ·by_cases h2:vQ p0.2.k ((L.take i).map Prod.snd) L[i].2=0
   ·simp only[h1,h2,ne_eq,not_true_eq_false,if_false,Option.bind_some,wC,oC,sC,kC,pH,qH,lC (show i≤big by have:=hl.len;omega)]
    have:=ih (tQ lS [.str (idB L[i].1)] [.bool true] m0) (tQ lS [.str (idB L[i].2)] [.bool true] m1) (by rw[List.map_append,List.map_cons,List.map_nil];exact hm0.add _) (by rw[List.map_append,List.map_cons,List.map_nil];exact hm1.add _) (by
     intro p hp
     rcases List.mem_append.1 hp with e |e
     ·exact hg p e
     ·simp only[List.mem_singleton]at e
      subst e
      exact ⟨aUO (hl.xC _ hmem 0) h1,aUO (hl.xC _ hmem 1) h2⟩)
    exact ⟨_,this,rfl⟩
   ·simp only[h1,h2,ne_eq,not_true_eq_false,not_false_eq_true,if_false,if_true,Option.bind_some,oC]
    exact .some rfl
  ·simp only[h1,ne_eq,not_false_eq_true,if_false,if_true,Option.bind_some,oC]
   exact .some rfl
theorem aUR (c:C) (l:List (wA×wA)) (hc:c.rows=l.map tA) (hl:aEC l):(bA T).pc aCD [[c]]=some [[.int (aLt l)]]:=by
 rw[aME];unfold aE5
 rw[hc,List.length_map]
 cases l with
 |nil=>rfl
 |cons p r=>
  rw[aLt]
  have h0:¬(((p::r).length:Int)==0)=true:=by simp;omega
  rw[if_neg h0]
  by_cases h1:r.length≥40
  ·rw[if_pos (show decide (((p::r).length:Int)>40)=true by simp;omega),if_pos h1]
  ·rw[if_neg (show ¬decide (((p::r).length:Int)>40)=true by simp;omega),if_neg h1]
   have:=aSk c p r hc hl (p::r).length 0 [] [] (by omega) (by simpa using aOP.nil) (by simpa using aOP.nil) (by simp)
   rw[List.take_zero,List.drop_zero,show ((0:Nat):Int)=0 from rfl]at this
   rw[this]
   by_cases h2:dU p.1.k p.2.k [] (p::r)=0<;>simp[h2]
end Go.Ev.oO
