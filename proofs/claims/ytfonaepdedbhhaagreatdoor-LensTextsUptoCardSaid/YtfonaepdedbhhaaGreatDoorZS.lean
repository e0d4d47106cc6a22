/-
  A part of the proof: what the functions of the program compute.
-/
import Derived.Test.YtfonaepdedbhhaaGreatDoorZEq
import Derived.Test.YtfonaepdedbhhaaGreatDoorEvDa
set_option linter.all false
set_option maxRecDepth 100000
namespace Go.Ev.oO
theorem yF {n:Int} (h0:0≤n) (h1:n≤1000000000000):Go.IntKind.wrap .i64 n=n:=wrap_i64 ⟨by omega,by omega⟩
theorem aTi {n:Int} (h0:0≤n) (h1:n<256):Go.IntKind.wrap .u8 n=n:=by
 rw[IntKind.wrap_u8];omega
theorem aLu {i:Int} (h0:0≤i) (h1:i<256):0≤i.tdiv 64∧i.tdiv 64<4:=by
 rw[Int.tdiv_eq_ediv_of_nonneg h0];omega
theorem aLv {i:Int} (h0:0≤i):¬i.tmod 64<0:=by
 have:=Int.tmod_nonneg 64 h0;omega
theorem aUv (k:IntKind):aB7 [.int k] [.int k]=true:=by simp[aB7,K.beq]
theorem a1W {ks:List K} {off:Nat} {k:K} (h:ks[off]? =some k):(ks.drop off).take 1=[k]:=by
 have hl:off<ks.length:=(List.getElem?_eq_some_iff.1 h).1
 rw[List.drop_eq_getElem_cons hl]
 have:ks[off]=k:=by rw[List.getElem?_eq_getElem hl]at h;simpa using h
 simp[this]
theorem aJO {A:Type} {k:IntKind} {ks:List K} {off:Nat} {r:Row} {f:Row→Option A} (h:ks[off]? =some (.int k)):
 part (.one (.int k)) (.agg ks) off r f=f (nrm (.one (.int k)) (sub r off 1)):=by
 unfold part
 have e:(Nat.beq off 0&&L.beq (.one (.int k)) (.agg ks))=false:=by simp[L.beq]
 rw[e]
 simp only[L.ks,L.n,List.length_singleton,a1W h,aUv,check]
theorem aFc {A:Type} {k:IntKind} {ks:List K} {off:Nat} {r row:Row} {f:Row→Option A} (h:ks[off]? =some (.int k)):
 aA1 (.one (.int k)) (.agg ks) off r row f=f (put r off 1 row 0 ks.length):=by
 unfold aA1
 have e:(Nat.beq off 0&&L.beq (.one (.int k)) (.agg ks))=false:=by simp[L.beq]
 rw[e]
 simp only[L.ks,L.n,List.length_singleton,a1W h,aUv,check]
theorem four {i:Int} (h0:0≤i) (h1:i<4):i=0∨i=1∨i=2∨i=3:=by omega
theorem aTj (c:C) (hc:c.jB=true) {i:Int} (h0:0≤i) (h1:i<256):∃b,(bA T).pc rP [[c],[.int i]]=some [[.bool b]]:=by
 rw[aLm]
 unfold aDL
 obtain ⟨a,b⟩:=aLu h0 h1
 rw[yF a (by omega)]
 simp only[hc,a,b,and_self,if_true,if_neg (aLv h0)]
 exact ⟨_,rfl⟩
theorem aXT (c:C) (hc:c.jB=true) {i:Int} (h0:0≤i) (h1:i<256):∃b,(bA T).pc kZ [[c],[.int i]]=some [[.bool b]]:=by
 rw[aJF]
 unfold aBq
 obtain ⟨a,b⟩:=aLu h0 h1
 rw[aTi a (by omega)]
 simp only[hc,a,b,and_self,if_true,if_neg (aLv h0)]
 exact ⟨_,rfl⟩
theorem aZS {i:Int} (h0:0≤i) (h1:i<256) (r:Row):∃r',(bA T).ic cX [.r [.int i], .r r]=some [.r r']:=by
 rw[aI2]
 unfold aAj
 obtain ⟨a,b⟩:=aLu h0 h1
 rw[yF a (by omega)]
 simp only[a,b,and_self,if_true,if_neg (aLv h0)]
 rcases four a b with h |h |h |h<;>rw[h]<;>rw[aJO (by rfl),aFc (by rfl)]<;>exact ⟨_,rfl⟩
theorem aXU {i:Int} (h0:0≤i) (h1:i<256) (r:Row):∃r',(bA T).ic yU [.r [.int i], .r r]=some [.r r']:=by
 rw[aIz]
 unfold gZ
 obtain ⟨a,b⟩:=aLu h0 h1
 rw[yF a (by omega)]
 simp only[a,b,and_self,if_true,if_neg (aLv h0)]
 rcases four a b with h |h |h |h<;>rw[h]<;>rw[aJO (by rfl),aFc (by rfl)]<;>exact ⟨_,rfl⟩
theorem aXV {i:Int} (h0:0≤i) (h1:i<256) (r:Row):∃r',(bA T).ic zU [.r [.int i], .r r]=some [.r r']:=by
 rw[aIA]
 unfold iZ
 obtain ⟨a,b⟩:=aLu h0 h1
 rw[yF a (by omega)]
 simp only[a,b,and_self,if_true,if_neg (aLv h0)]
 rcases four a b with h |h |h |h<;>rw[h]<;>rw[aJO (by rfl),aFc (by rfl)]<;>exact ⟨_,rfl⟩
theorem aXW {p:Int} {i:Int} (hp0:0≤p) (hp1:p≤1020) (h0:0≤i) (h1:i<256) (r:Row):∃r',(bA T).ic aV [.r [.int p], .r [.int i], .r r]=some [.r r']:=by
 rw[aIB]
 unfold jZ
 obtain ⟨a,b⟩:=aLu h0 h1
 rw[yF a (by omega)]
 simp only[a,b,and_self,if_true,if_neg (aLv h0)]
 have hk:(List.replicate 1024 (K.int .u64))[p.toNat+(i.tdiv 64).toNat*1]? =some (.int .u64):=by
  rw[List.getElem?_replicate,if_pos (by omega)]
 rw[aJO hk,aFc hk]
 exact ⟨_,rfl⟩
theorem aNP {i:Int} (h0:0≤i) (h1:i<256) (r:Row):∃r',(bA T).ic yE [.r [.int i], .r r]=some [.r r']:=by
 rw[aGH]
 unfold xU
 obtain ⟨a,b⟩:=aLu h0 h1
 rw[aTi a (by omega)]
 simp only[a,b,and_self,if_true,if_neg (aLv h0)]
 rcases four a b with h |h |h |h<;>rw[h]<;>rw[aJO (by rfl),aFc (by rfl)]<;>exact ⟨_,rfl⟩
theorem k4 {i:Int} (h0:0≤i) (h4:i<4):([.int .u64, .int .u64, .int .u64, .int .u64]:List K)[0+(i.toNat*1)]? =some (.int .u64):=by
 rcases four h0 h4 with rfl |rfl |rfl |rfl<;>rfl
theorem k91 {i:Int} (h0:0≤i) (h4:i<4):([.bool, .int .u64, .int .u64, .int .u64, .int .u64, .int .u64, .int .u64, .int .u64, .int .u64]:List K)[1+(i.toNat*1)]? =some (.int .u64):=by
 rcases four h0 h4 with rfl |rfl |rfl |rfl<;>rfl
theorem k95 {i:Int} (h0:0≤i) (h4:i<4):([.bool, .int .u64, .int .u64, .int .u64, .int .u64, .int .u64, .int .u64, .int .u64, .int .u64]:List K)[5+(i.toNat*1)]? =some (.int .u64):=by
 rcases four h0 h4 with rfl |rfl |rfl |rfl<;>rfl
theorem aZT:∀(j:Nat) (i:Int) (r:Row),0≤i→i+j=4→∃r',mI (bA T) i r=some (0,[.r r'])
 |0,i,r,h0,h=>by
  rw[rU];unfold nI
  obtain rfl:i=4:=by omega
  exact ⟨_,rfl⟩
 |j+1,i,r,h0,h=>by
  rw[rU];unfold nI
  have h4:i<4:=by omega
  simp only[h0,h4,decide_true,and_self,if_true]
  rw[aJO (k4 h0 h4),aFc (k4 h0 h4),yF (by omega) (by omega)]
  exact aZT j (i+1) _ (by omega) (by omega)
theorem aQi (r:Row):∃r',(bA T).ic lJ [.r r]=some [.r r']:=by
 rw[aFs];unfold eT
 obtain ⟨r',h⟩:=aZT 4 0 r (by omega) (by omega)
 rw[h];exact ⟨_,rfl⟩
theorem aUw (c:Row):∀(j:Nat) (i:Int) (r:Row),0≤i→i+j=4→∃r',uK (bA T) (.dp c) i r=some (0,[.r r'])
 |0,i,r,h0,h=>by
  rw[nX];unfold vK
  obtain rfl:i=4:=by omega
  exact ⟨_,rfl⟩
 |j+1,i,r,h0,h=>by
  rw[nX];unfold vK
  have h4:i<4:=by omega
  simp only[h0,h4,decide_true,aE,and_self,if_true]
  rw[aJO (k91 h0 h4),aFc (k91 h0 h4),yF (by omega) (by omega)]
  exact aUw c j (i+1) _ (by omega) (by omega)
theorem aQj (c r:Row):∃r',(bA T).ic wH [.r c, .r r]=some [.r r']:=by
 rw[aHk];unfold wW
 obtain ⟨r',h⟩:=aUw c 4 0 r (by omega) (by omega)
 rw[h];exact ⟨_,rfl⟩
theorem aUx (c:Row):∀(j:Nat) (i:Int) (r:Row),0≤i→i+j=4→∃r',wK (bA T) (.dp c) i r=some (0,[.r r'])
 |0,i,r,h0,h=>by
  rw[oX];unfold xK
  obtain rfl:i=4:=by omega
  exact ⟨_,rfl⟩
 |j+1,i,r,h0,h=>by
  rw[oX];unfold xK
  have h4:i<4:=by omega
  simp only[h0,h4,decide_true,aE,and_self,if_true]
  rw[aJO (k95 h0 h4),aFc (k95 h0 h4),yF (by omega) (by omega)]
  exact aUx c j (i+1) _ (by omega) (by omega)
theorem aQk (c r:Row):∃r',(bA T).ic xH [.r c, .r r]=some [.r r']:=by
 rw[aHl];unfold xW
 obtain ⟨r',h⟩:=aUx c 4 0 r (by omega) (by omega)
 rw[h];exact ⟨_,rfl⟩
theorem aUy (c:Row):∀(j:Nat) (i:Int) (r:Row),0≤i→i+j=4→∃r',yK (bA T) (.dp c) i r=some (0,[.r r'])
 |0,i,r,h0,h=>by
  rw[pX];unfold zK
  obtain rfl:i=4:=by omega
  exact ⟨_,rfl⟩
 |j+1,i,r,h0,h=>by
  rw[pX];unfold zK
  have h4:i<4:=by omega
  simp only[h0,h4,decide_true,aE,and_self,if_true]
  rw[aJO (k4 h0 h4),aFc (k4 h0 h4),yF (by omega) (by omega)]
  exact aUy c j (i+1) _ (by omega) (by omega)
theorem aVN (c r:Row):∃r',(bA T).ic pT [.r c, .r r]=some [.r r']:=by
 rw[aHm];unfold yW
 obtain ⟨r',h⟩:=aUy c 4 0 r (by omega) (by omega)
 rw[h];exact ⟨_,rfl⟩
abbrev st (s:List UInt8) (a:Int) (b:Bool) (q0 q1 q2 q3 q4 q5 q6 q7:Int) (f:Bool) (c o:C):List PV:=
 [.r [.str s], .r [.int a], .r [.bool b], .r [.int q0], .r [.int q1], .r [.int q2], .r [.int q3], .r [.int q4], .r [.int q5], .r [.int q6], .r [.int q7], .r [.bool f], .r [c], .r [o]]
section
variable (s:List UInt8) (b:Bool) (q0 q1 q2 q3 q4 q5 q6 q7:Int)
theorem aUz (c:Row) (x:Int) (a:Int) (f:Bool) (cl:C) (hx:0≤x):∀(j:Nat) (i:Int) (o:C),0≤i→i+j=4→x.toNat<o.rows.length→∃o',o'.rows.length=o.rows.length∧sK (bA T) [.int x, .int 0] (.dp c) i o s a b q0 q1 q2 q3 q4 q5 q6 q7 f cl=some (0, .r [o']::(st s a b q0 q1 q2 q3 q4 q5 q6 q7 f cl o').take 13)
 |0,i,o,h0,h,hl=>by
  rw[mX];unfold tK
  obtain rfl:i=4:=by omega
  exact ⟨o,rfl,rfl⟩
 |j+1,i,o,h0,h,hl=>by
  rw[mX];unfold tK
  have h4:i<4:=by omega
  have e0:((at_ ([.int x, .int 0]:Row) 0).vA).toNat=x.toNat:=rfl
  have e1:((at_ ([.int x, .int 0]:Row) 1).vA).toNat=0:=rfl
  simp only[h0,h4,decide_true,aE,and_self,if_true,e0,e1,hl]
  rw[aJO (k4 h0 h4),aFc (k4 h0 h4),yF (by omega) (by omega)]
  have ex:((x.toNat:Nat):Int)=x:=by omega
  obtain ⟨o',g1,g2⟩:=aUz c x a f cl hx j (i+1) (.sl (o.rows.set x.toNat (put (aA o.rows x.toNat) (0+i.toNat*1) 1 [.int (bitsOf .or .u64 ((at_ (nrm (.one (.int .u64)) (sub (aA o.rows x.toNat) (0+i.toNat*1) 1)) 0).vA) ((at_ c (i.toNat*1)).vA))] 0 4))) (by omega) (by omega) (by simpa[C.rows]using hl)
  refine ⟨o',by rw[g1];simp[C.rows], ?_⟩
  rw[ex]
  exact g2
theorem aVO (c:Row) (x:Int) (a:Int) (f:Bool) (cl o:C) (hx:0≤x) (hl:x.toNat<o.rows.length):∃o',o'.rows.length=o.rows.length∧
 (bA T).ic fT [.r [.int x, .int 0], .r c, .r [o], .r [.str s], .r [.int a], .r [.bool b], .r [.int q0], .r [.int q1], .r [.int q2], .r [.int q3], .r [.int q4], .r [.int q5], .r [.int q6], .r [.int q7], .r [.bool f], .r [cl]]=some (.r [o']::(st s a b q0 q1 q2 q3 q4 q5 q6 q7 f cl o').take 13):=by
 obtain ⟨o',g1,g2⟩:=aUz s b q0 q1 q2 q3 q4 q5 q6 q7 c x a f cl hx 4 0 o (by omega) (by omega) hl
 refine ⟨o',g1, ?_⟩
 rw[aHj];unfold vW
 have ex:((x.toNat:Nat):Int)=x:=by omega
 have e0:((at_ ([.int x, .int 0]:Row) 0).vA).toNat=x.toNat:=rfl
 have e1:((at_ ([.int x, .int 0]:Row) 1).vA).toNat=0:=rfl
 rw[e0,e1,ex]
 have e2:((0:Nat):Int)=0:=rfl
 rw[e2,g2]
 rfl
end
end Go.Ev.oO
namespace Go.Ev.oO
def Inv (c o:C):Prop:=c.rows.length=o.rows.length∧1≤c.rows.length∧c.rows.length≤256
def jF {β:Type} (Q:β→Prop) (x:Option β):Prop:=∃r,x=some r∧Q r
theorem jF.some {β:Type} {Q:β→Prop} {r:β} (h:Q r):jF Q (some r):=⟨r,rfl,h⟩
theorem jF.bind {α β:Type} {R:α→Prop} {Q:β→Prop} {x:Option α} {f:α→Option β} (h:jF R x) (k:∀r,R r→jF Q (f r)):jF Q (x.bind f):=by
 obtain ⟨r,rfl,hr⟩:=h
 exact k r hr
theorem jF.lA {α β:Type} {Q:β→Prop} {x:Option α} {y:α} {f:α→Option β} (h:x=Option.some y) (k:jF Q (f y)):jF Q (x.bind f):=by rw[h];exact k
theorem jF.ite {β:Type} {c:Prop} [Decidable c] {Q:β→Prop} {x y:Option β} (h:c→jF Q x) (k:¬c→jF Q y):jF Q (if c then x else y):=by
 split
 ·exact h ‹_›
 ·exact k ‹_›
theorem jF.pos {β:Type} {c:Prop} [Decidable c] {Q:β→Prop} {x y:Option β} (h:c) (k:jF Q x):jF Q (if c then x else y):=by rw[if_pos h];exact k
theorem jF.mono {β:Type} {R Q:β→Prop} {x:Option β} (h:jF R x) (k:∀r,R r→Q r):jF Q x:=by
 obtain ⟨r,h1,h2⟩:=h;exact ⟨r,h1,k r h2⟩
section
variable (s:List UInt8) (b:Bool) (q0 q1 q2 q3 q4 q5 q6 q7:Int)
theorem aQl (a:Int) (f:Bool) (c o:C):(bA T).ic iD (st s a b q0 q1 q2 q3 q4 q5 q6 q7 f c o)=some (.r [.bool (!f&&decide (a<(s.length:Int)))]::st s a b q0 q1 q2 q3 q4 q5 q6 q7 f c o):=by
 rw[aFq];unfold bT
 cases f<;>simp
theorem aJP (a:Int) (f:Bool) (c o:C) (h0:0≤a):∃x:Int,0≤x∧x<256∧(¬a<(s.length:Int)→x=0)∧
 (bA T).ic sB (st s a b q0 q1 q2 q3 q4 q5 q6 q7 f c o)=some (.r [.int x]::st s a b q0 q1 q2 q3 q4 q5 q6 q7 f c o):=by
 rw[aFr];unfold cT
 by_cases h:a<(s.length:Int)
 ·refine ⟨((s.getD a.toNat 0).toNat:Int),by omega,by have:=(s.getD a.toNat 0).toNat_lt;omega,fun h'=>absurd h h', ?_⟩
  have h2:¬a≥(s.length:Int):=by omega
  simp[h0,h,h2]
 ·refine ⟨0,by omega,by omega,fun _=>rfl, ?_⟩
  have h2:a≥(s.length:Int):=by omega
  simp[h2]
theorem aVP (k:Row) (a:Int) (f:Bool) (c o:C) (hI:Inv c o):∃row f' c' o',Inv c' o'∧
 (bA T).ic zJ (.r k::st s a b q0 q1 q2 q3 q4 q5 q6 q7 f c o)=some (.r row::st s a b q0 q1 q2 q3 q4 q5 q6 q7 f' c' o'):=by
 obtain ⟨i1,i2,i3⟩:=hI
 rw[aCL];unfold lM
 by_cases h:(c.rows.length:Int)>255
 ·refine ⟨[.bool false, .int 0, .int 0, .int 0, .int 0, .int 0, .int 0, .int 0, .int 0],true,c,o,⟨i1,i2,i3⟩, ?_⟩
  simp[h]
 ·have g1:(c.rows.length+([k]:List Row).length)*32≤140737488355328:=by simp;omega
  have g2:(o.rows.length+([[.int 0, .int 0, .int 0, .int 0]]:List Row).length)*32≤140737488355328:=by simp;omega
  obtain ⟨r1,e1⟩:=aXU (i:=(c.rows.length:Int)) (by omega) (by omega) [.bool false, .int 0, .int 0, .int 0, .int 0, .int 0, .int 0, .int 0, .int 0]
  obtain ⟨r2,e2⟩:=aXV (i:=(c.rows.length:Int)) (by omega) (by omega) r1
  refine ⟨r2,f,pE c [k],pE o [[.int 0, .int 0, .int 0, .int 0]],⟨by simp[i1],by simp,by simp;omega⟩, ?_⟩
  simp only[h,decide_false,Bool.false_eq_true,if_false,if_pos g1,if_pos g2,e1,Option.bind_some,cD,e2]
theorem aVQ (a a1:Int) (c o:C) (x:Int) (q:Bool) (h0:0≤a) (h2:a<(s.length:Int)) (hs:s.length≤200) (x0:0≤x) (x1:x<256) (ha:a1=a+1):
 jF (fun r=>∃(x a':Int) (f':Bool),0≤x∧x<256∧a<a'∧a'≤(s.length:Int)∧r= .r [.int x]::st s a' b q0 q1 q2 q3 q4 q5 q6 q7 f' c o)
  (if (x==92)=true then
        if (decide (a1≥(s.length:Int)))=true then some (.r [.int 0]::st s a1 b q0 q1 q2 q3 q4 q5 q6 q7 true c o)
        else if (0:Int)≤a1∧a1<(s.length:Int)then some (.r [.int ((s.getD a1.toNat 0).toNat:Int)]::st s (IntKind.wrap .i64 (a1+1)) b q0 q1 q2 q3 q4 q5 q6 q7 q c o)else none
      else some (.r [.int x]::st s a1 b q0 q1 q2 q3 q4 q5 q6 q7 q c o)):=by
 refine .ite (fun _=> .ite (fun e=> .some ⟨0,a1,true,by omega,by omega,by omega,by omega,rfl⟩) fun e=> ?_) fun _=> .some ⟨x,a1,q,x0,x1,by omega,by omega,rfl⟩
 have e':a1<(s.length:Int):=by simpa using e
 rw[yF (show 0≤a1+1 by omega) (by omega),if_pos ⟨by omega,e'⟩]
 exact .some ⟨_,a1+1,q,by omega,by have:=(s.getD a1.toNat 0).toNat_lt;omega,by omega,by omega,rfl⟩
theorem aUA (a:Int) (f:Bool) (c o:C) (h0:0≤a) (h1:a≤(s.length:Int)) (hs:s.length≤200):∃(x a':Int) (f':Bool),0≤x∧x<256∧a≤a'∧a'≤(s.length:Int)∧(a<(s.length:Int)→a<a')∧
 (bA T).ic aH (st s a b q0 q1 q2 q3 q4 q5 q6 q7 f c o)=some (.r [.int x]::st s a' b q0 q1 q2 q3 q4 q5 q6 q7 f' c o):=by
 rw[aDW];unfold wD
 by_cases h:a<(s.length:Int)
 ·have h2:¬a≥(s.length:Int):=by omega
  rw[yF (show 0≤a+1 by omega) (by omega)]
  generalize hx:((s.getD a.toNat 0).toNat:Int)=x
  have hxb:0≤x∧x<256:=by rw[←hx];exact ⟨by omega,by have:=(s.getD a.toNat 0).toNat_lt;omega⟩
  have key:∀q:Bool,jF (fun r=>r=(0, .r [.int x]:: .r [.bool q]::st s (a+1) b q0 q1 q2 q3 q4 q5 q6 q7 f c o)) (some ((0:Nat),(.r [.int x]:: .r [.bool q]::st s (a+1) b q0 q1 q2 q3 q4 q5 q6 q7 f c o:List PV))):=fun q=> .some rfl
  have main:jF (fun r=>∃(x a':Int) (f':Bool),0≤x∧x<256∧a<a'∧a'≤(s.length:Int)∧r= .r [.int x]::st s a' b q0 q1 q2 q3 q4 q5 q6 q7 f' c o) (wD (bA T) s a b q0 q1 q2 q3 q4 q5 q6 q7 f c o):=by
   unfold wD
   rw[yF (show 0≤a+1 by omega) (by omega),hx]
   simp only[h0,h,h2,decide_false,Bool.false_eq_true,if_false,and_self,if_true]
   refine .bind (R:=fun r=>∃q:Bool,r=(0, .r [.int x]:: .r [.bool q]::st s (a+1) b q0 q1 q2 q3 q4 q5 q6 q7 f c o)) ?_ ?_
   ·exact .ite (fun _=> .some ⟨_,rfl⟩) fun _=> .ite (fun _=> .some ⟨_,rfl⟩) fun _=> .some ⟨_,rfl⟩
   rintro x5 ⟨q,rfl⟩
   simp only[oD,sC,wC,tC,fD,pH,cD,kC,oC,uC,dD,qH,aI,oA,eA,zA,rA]
   refine .bind (R:=fun r=>∃f':Bool,r=(0, .r [.int x]::st s (a+1) b q0 q1 q2 q3 q4 q5 q6 q7 f' c o)) ?_ ?_
   ·exact .ite (fun _=> .some ⟨_,rfl⟩) fun _=> .some ⟨_,rfl⟩
   rintro x6 ⟨f',rfl⟩
   simp only[oD,sC,wC,tC,fD,pH,cD,kC,oC,uC,dD,qH,aI,oA,eA,zA,rA]
   exact aVQ s b q0 q1 q2 q3 q4 q5 q6 q7 a (a+1) c o x f' h0 h hs hxb.1 hxb.2 rfl
  unfold wD at main
  rw[yF (show 0≤a+1 by omega) (by omega),hx]at main
  obtain ⟨r,e,x',a',f',k1,k2,k3,k4,rfl⟩:=main
  exact ⟨x',a',f',k1,k2,by omega,k4,fun _=>k3,e⟩
 ·have h2:a≥(s.length:Int):=by omega
  exact ⟨0,a,true,by omega,by omega,by omega,by omega,fun h'=>absurd h' h,by simp[h2]⟩
end
end Go.Ev.oO
namespace Go.Ev.oO
section
variable (s:List UInt8) (b:Bool) (q0 q1 q2 q3 q4 q5 q6 q7:Int)
theorem aUB (v0:Bool) (hi:Int) (a:Int) (f:Bool) (c o:C) (v17:Row) (h0:0≤hi) (h1:hi<256):∀(j:Nat) (i:Int) (k:Row),0≤i→i≤256→256≤i+j→
 jF (fun r=>∃k',r=(0, .r [.bool v0]::(st s a b q0 q1 q2 q3 q4 q5 q6 q7 f c o++[.r v17, .r k']))) (tE (bA T) v0 hi i s a b q0 q1 q2 q3 q4 q5 q6 q7 f c o v17 k)
 |0,i,k,g0,g1,g2=>by
  rw[sS];unfold yG
  rw[yF h0 (by omega)]
  have:¬i≤hi:=by omega
  simp only[this,decide_false,Bool.false_eq_true,if_false]
  exact .some ⟨_,rfl⟩
 |j+1,i,k,g0,g1,g2=>by
  rw[sS];unfold yG
  rw[yF h0 (by omega)]
  have key:∀q:Bool,(q=true→i≤hi)→jF (fun r=>∃k',r=(0, .r [.bool v0]::(st s a b q0 q1 q2 q3 q4 q5 q6 q7 f c o++[.r v17, .r k'])))
   (if q=true then ((bA T).ic yE [.r [.int (IntKind.wrap .u8 i)], .r k]).bind fun y26=>
     tE (bA T) v0 hi (IntKind.wrap .i64 (i+1)) s a b q0 q1 q2 q3 q4 q5 q6 q7 f c o v17 (gR 0 y26)
   else some (0, .r [.bool v0]::(st s a b q0 q1 q2 q3 q4 q5 q6 q7 f c o++[.r v17, .r k]))):=by
   intro q hq
   refine .ite (fun e=> ?_) (fun _=> .some ⟨_,rfl⟩)
   have:=hq e
   rw[aTi g0 (by omega),yF (show 0≤i+1 by omega) (by omega)]
   obtain ⟨k',e'⟩:=aNP g0 (show i<256 by omega) k
   refine .lA e' ?_
   exact aUB v0 hi a f c o v17 h0 h1 j (i+1) _ (by omega) (by omega) (by omega)
  refine .ite (fun e=> ?_) (fun e=> ?_)
  ·exact key (!f) (fun _=>by simpa using e)
  ·exact key false (fun h=>by cases h)
theorem aUC (hs:s.length≤200) (t:Bool) (c o:C) (fO:Row):∀(j:Nat) (a:Int) (f:Bool) (k:Row),0≤a→a≤(s.length:Int)→(s.length:Int)<a+j→
 jF (fun r=>∃a' f' k',a≤a'∧a'≤(s.length:Int)∧r=(0, .r [.bool t]::(st s a' b q0 q1 q2 q3 q4 q5 q6 q7 f' c o++[.r fO, .r k']))) (zG (bA T) t s a b q0 q1 q2 q3 q4 q5 q6 q7 f c o fO k)
 |0,a,f,k,g0,g1,g2=>by omega
 |j+1,a,f,k,g0,g1,g2=>by
  rw[aCK];unfold kM
  refine .bind (R:=fun x=>∃q:Bool,(q=true→a<(s.length:Int))∧x=(0, .r [.bool t]:: .r [.bool q]::(st s a b q0 q1 q2 q3 q4 q5 q6 q7 f c o++[.r fO, .r k]))) ?_ ?_
  ·refine .lA (aQl s b q0 q1 q2 q3 q4 q5 q6 q7 a f c o) ?_
   simp only[oD,sC,wC,tC,fD,pH,cD,kC,oC,uC,dD,qH,aI,oA,eA,zA,rA]
   refine .ite (fun e=> ?_) (fun _=> .some ⟨false,fun h=>(by cases h),rfl⟩)
   obtain ⟨x,_,_,_,e2⟩:=aJP s b q0 q1 q2 q3 q4 q5 q6 q7 a f c o g0
   refine .lA e2 ?_
   simp only[oD,sC,wC,tC,fD,pH,cD,kC,oC,uC,dD,qH,aI,oA,eA,zA,rA]
   refine .some ⟨_,fun _=> ?_,rfl⟩
   simp at e;exact e.2
  ·rintro eJ ⟨q,hq,rfl⟩
   simp only[List.cons_append,List.nil_append,oD,sC,wC,tC,fD,pH,cD,kC,oC,uC,dD,qH,aI,oA,eA,zA,rA]
   refine .ite (fun e=> ?_) (fun _=> .some ⟨a,f,k,Int.le_refl _,g1,rfl⟩)
   have hlt:=hq e
   obtain ⟨x,a1,f1,x0,x1,x2,x3,x4,e3⟩:=aUA s b q0 q1 q2 q3 q4 q5 q6 q7 a f c o g0 g1 hs
   refine .lA e3 ?_
   have ha1:=x4 hlt
   simp only[oD,sC,wC,tC,fD,pH,cD,kC,oC,uC,dD,qH,aI,oA,eA,zA,rA]
   refine .bind (R:=fun r=>∃q:Bool,(q=true→a1<(s.length:Int))∧r=(0, .r [.bool t]:: .r [.int x]:: .r [.int x]:: .r [.bool q]::(st s a1 b q0 q1 q2 q3 q4 q5 q6 q7 f1 c o++[.r fO, .r k]))) ?_ ?_
   ·refine .lA (aQl s b q0 q1 q2 q3 q4 q5 q6 q7 a1 f1 c o) ?_
    simp only[oD,sC,wC,tC,fD,pH,cD,kC,oC,uC,dD,qH,aI,oA,eA,zA,rA]
    refine .ite (fun e=> ?_) (fun _=> .some ⟨false,fun h=>(by cases h),rfl⟩)
    obtain ⟨x',_,_,_,e2⟩:=aJP s b q0 q1 q2 q3 q4 q5 q6 q7 a1 f1 c o (by omega)
    refine .lA e2 ?_
    simp only[oD,sC,wC,tC,fD,pH,cD,kC,oC,uC,dD,qH,aI,oA,eA,zA,rA]
    refine .some ⟨_,fun _=> ?_,rfl⟩
    simp at e;exact e.2
   rintro qK ⟨qq,hq2,rfl⟩
   simp only[List.cons_append,List.nil_append,oD,sC,wC,tC,fD,pH,cD,kC,oC,uC,dD,qH,aI,oA,eA,zA,rA]
   refine .bind (R:=fun r=>∃(y a2:Int) (f2:Bool),0≤y∧y<256∧a1≤a2∧a2≤(s.length:Int)∧r=(0, .r [.bool t]:: .r [.int x]:: .r [.int y]::(st s a2 b q0 q1 q2 q3 q4 q5 q6 q7 f2 c o++[.r fO, .r k]))) ?_ ?_
   ·refine .ite (fun e=> ?_) (fun _=> .some ⟨x,a1,f1,x0,x1,Int.le_refl _,x3,rfl⟩)
    have hl2:=hq2 e
    rw[yF (show 0≤a1+1 by omega) (by omega)]
    obtain ⟨y,a2,f2,y0,y1,y2,y3,y4,e4⟩:=aUA s b q0 q1 q2 q3 q4 q5 q6 q7 (a1+1) f1 c o (by omega) (by omega) hs
    refine .lA e4 ?_
    simp only[oD,sC,wC,tC,fD,pH,cD,kC,oC,uC,dD,qH,aI,oA,eA,zA,rA]
    exact .some ⟨y,a2,f2,y0,y1,by omega,y3,rfl⟩
   rintro x20 ⟨y,a2,f2,y0,y1,y2,y3,rfl⟩
   simp only[List.cons_append,List.nil_append,oD,sC,wC,tC,fD,pH,cD,kC,oC,uC,dD,qH,aI,oA,eA,zA,rA]
   refine .bind (R:=fun r=>∃f3:Bool,r=(0, .r [.bool t]:: .r [.int x]:: .r [.int y]::(st s a2 b q0 q1 q2 q3 q4 q5 q6 q7 f3 c o++[.r fO, .r k]))) ?_ ?_
   ·exact .ite (fun e=> .some ⟨_,rfl⟩) (fun _=> .some ⟨_,rfl⟩)
   rintro x23 ⟨f3,rfl⟩
   simp only[List.cons_append,List.nil_append,oD,sC,wC,tC,fD,pH,cD,kC,oC,uC,dD,qH,aI,oA,eA,zA,rA]
   rw[yF x0 (by omega)]
   refine .bind (aUB s b q0 q1 q2 q3 q4 q5 q6 q7 t y a2 f3 c o fO y0 y1 256 x k x0 (by omega) (by omega)) ?_
   rintro x27 ⟨k',rfl⟩
   simp only[List.cons_append,List.nil_append,oD,sC,wC,tC,fD,pH,cD,kC,oC,uC,dD,qH,aI,oA,eA,zA,rA]
   refine (aUC hs t c o fO j a2 f3 k' (by omega) y3 (by omega)).mono ?_
   rintro r ⟨a',f',k',u1,u2,rfl⟩
   exact ⟨a',f',k',by omega,u2,rfl⟩
theorem a1i (hs:s.length≤200) (a:Int) (f:Bool) (c o:C) (g0:0≤a) (g1:a≤(s.length:Int)):
 jF (fun r=>∃row a' f',a≤a'∧a'≤(s.length:Int)∧r= .r row::st s a' b q0 q1 q2 q3 q4 q5 q6 q7 f' c o) ((bA T).ic rN (st s a b q0 q1 q2 q3 q4 q5 q6 q7 f c o)):=by
 rw[aEy];unfold gQ
 refine .bind (R:=fun r=>∃q:Bool,(q=true→a<(s.length:Int))∧r=(0, .r [.bool q]::(st s a b q0 q1 q2 q3 q4 q5 q6 q7 f c o++[.r [.int 0, .int 0, .int 0, .int 0], .r [.int 0, .int 0, .int 0, .int 0]]))) ?_ ?_
 ·obtain ⟨x,_,_,_,e2⟩:=aJP s b q0 q1 q2 q3 q4 q5 q6 q7 a f c o g0
  refine .lA e2 ?_
  simp only[oD,sC,wC,tC,fD,pH,cD,kC,oC,uC,dD,qH,aI,oA,eA,zA,rA]
  exact .ite (fun e=> .some ⟨_,fun h=>of_decide_eq_true h,rfl⟩) (fun _=> .some ⟨false,fun h=>(by cases h),rfl⟩)
 rintro x4 ⟨t,ht,rfl⟩
 simp only[List.cons_append,List.nil_append,oD,sC,wC,tC,fD,pH,cD,kC,oC,uC,dD,qH,aI,oA,eA,zA,rA]
 refine .bind (R:=fun r=>∃a1:Int,a≤a1∧a1≤(s.length:Int)∧r=(0, .r [.bool t]::(st s a1 b q0 q1 q2 q3 q4 q5 q6 q7 f c o++[.r [.int 0, .int 0, .int 0, .int 0], .r [.int 0, .int 0, .int 0, .int 0]]))) ?_ ?_
 ·refine .ite (fun e=> ?_) (fun _=> .some ⟨a,Int.le_refl _,g1,rfl⟩)
  have:=ht e
  rw[yF (show 0≤a+1 by omega) (by omega)]
  exact .some ⟨a+1,by omega,by omega,rfl⟩
 rintro x5 ⟨a1,u1,u2,rfl⟩
 simp only[List.cons_append,List.nil_append,oD,sC,wC,tC,fD,pH,cD,kC,oC,uC,dD,qH,aI,oA,eA,zA,rA]
 refine .bind (aUC s b q0 q1 q2 q3 q4 q5 q6 q7 hs t c o _ 400 a1 f _ (by omega) u2 (by omega)) ?_
 rintro x28 ⟨a2,f2,k2,w1,w2,rfl⟩
 simp only[List.cons_append,List.nil_append,oD,sC,wC,tC,fD,pH,cD,kC,oC,uC,dD,qH,aI,oA,eA,zA,rA]
 refine .bind (R:=fun r=>∃f3:Bool,(f3=false→a2<(s.length:Int))∧r=(0, .r [.bool t]::(st s a2 b q0 q1 q2 q3 q4 q5 q6 q7 f3 c o++[.r [.int 0, .int 0, .int 0, .int 0], .r k2]))) ?_ ?_
 ·exact .ite (fun e=> .some ⟨true,fun h=>(by cases h),rfl⟩) (fun _=> .some ⟨_,fun h=>by simpa using h,rfl⟩)
 rintro x31 ⟨f3,hf,rfl⟩
 simp only[List.cons_append,List.nil_append,oD,sC,wC,tC,fD,pH,cD,kC,oC,uC,dD,qH,aI,oA,eA,zA,rA]
 refine .ite (fun e=> .some ⟨k2,a2,f3,by omega,w2,rfl⟩) (fun e=> ?_)
 have hlt:=hf (by simpa using e)
 rw[yF (show 0≤a2+1 by omega) (by omega)]
 refine .ite (fun e=> ?_) (fun _=> .some ⟨k2,a2+1,_,by omega,by omega,rfl⟩)
 obtain ⟨k3,e3⟩:=aQi k2
 refine .lA e3 ?_
 simp only[cD,aI]
 exact .some ⟨k3,a2+1,_,by omega,by omega,rfl⟩
theorem aVR (r1 r2:Row) (a:Int) (f:Bool) (c:C) (m:Nat) (hm:m≤256):∀(j:Nat) (i:Int) (o:C),0≤i→i+j=m→o.rows.length=m→
 jF (fun r=>∃o':C,o'.rows.length=m∧r=(0,st s a b q0 q1 q2 q3 q4 q5 q6 q7 f c o')) (uH (bA T) (.dp r1) (.dp r2) (m:Int) i s a b q0 q1 q2 q3 q4 q5 q6 q7 f c o)
 |0,i,o,h0,h,ho=>by
  rw[xS];unfold vH
  have:¬i<(m:Int):=by omega
  simp only[this,decide_false,Bool.false_eq_true,if_false]
  exact .some ⟨o,ho,rfl⟩
 |j+1,i,o,h0,h,ho=>by
  rw[xS];unfold vH
  have hlt:i<(m:Int):=by omega
  obtain ⟨q,e1⟩:=aTj (.dp r1) rfl h0 (show i<256 by omega)
  rw[yF (show 0≤i+1 by omega) (by omega)]
  simp only[hlt,decide_true,if_true]
  refine .lA e1 ?_
  simp only[yA,oA,eA]
  refine .ite (fun _=> ?_) (fun _=>aVR r1 r2 a f c m hm j (i+1) o (by omega) (by omega) ho)
  have hl:i<(o.rows.length:Int):=by omega
  simp only[h0,hl,and_self,if_true,aE,vC]
  have ex:((i.toNat:Nat):Int)=i:=by omega
  have e2:((0:Nat):Int)=0:=rfl
  rw[ex,e2]
  obtain ⟨o',g1,g2⟩:=aVO s b q0 q1 q2 q3 q4 q5 q6 q7 r2 i a f c o h0 (by omega)
  refine .lA g2 ?_
  simp only[List.take_succ_cons,List.take_zero,oD,sC,wC,tC,fD,pH,cD,kC,oC,uC,dD,qH,aI,oA,eA,zA,rA]
  exact aVR r1 r2 a f c m hm j (i+1) o' (by omega) (by omega) (by omega)
theorem aZU (r1 r2:Row) (a:Int) (f:Bool) (c o:C) (hI:Inv c o):
 jF (fun r=>∃o':C,Inv c o'∧r=st s a b q0 q1 q2 q3 q4 q5 q6 q7 f c o') ((bA T).ic qI (.r r1:: .r r2::st s a b q0 q1 q2 q3 q4 q5 q6 q7 f c o)):=by
 obtain ⟨i1,i2,i3⟩:=hI
 rw[aFb];unfold pR
 refine .bind (aVR s b q0 q1 q2 q3 q4 q5 q6 q7 r1 r2 a f c o.rows.length (by omega) o.rows.length 0 o (by omega) (by omega) rfl) ?_
 rintro x3 ⟨o',ho,rfl⟩
 simp only[List.cons_append,List.nil_append,oD,sC,wC,tC,fD,pH,cD,kC,oC,uC,dD,qH,aI,oA,eA,zA,rA]
 exact .some ⟨o',⟨by omega,by omega,by omega⟩,rfl⟩
end
end Go.Ev.oO
namespace Go.Ev.oO
theorem indexByte (l:List UInt8) (x:Int):(bA T).pc zQ [[.str l],[.int x]]=some [[.int (aJa l x.toNat.toUInt8)]]:=by
 rw[aDu];unfold strings_IndexByte
 have:(bA T).pc sH [[.str l],[.int x]]=some [[.int (aJa l x.toNat.toUInt8)]]:=by
  rw[sO];unfold nF;rfl
 rw[this];rfl
section
variable (s:List UInt8) (b:Bool) (q0 q1 q2 q3 q4 q5 q6 q7:Int)
abbrev Post (a:Int) (r:List PV):Prop:=∃row a' f' c' o',a≤a'∧a'≤(s.length:Int)∧Inv c' o'∧r= .r row::st s a' b q0 q1 q2 q3 q4 q5 q6 q7 f' c' o'
abbrev aOl (n:Int):Prop:=∀a f c o,0≤a→a≤(s.length:Int)→(s.length:Int) - a≤n→Inv c o→jF (Post s b q0 q1 q2 q3 q4 q5 q6 q7 a) ((bA T).ic uE (st s a b q0 q1 q2 q3 q4 q5 q6 q7 f c o))
theorem a36 (hs:s.length≤200) (n:Int) (hA:aOl s b q0 q1 q2 q3 q4 q5 q6 q7 n) (a:Int) (f:Bool) (c o:C) (g0:0≤a) (g1:a<(s.length:Int)) (gn:(s.length:Int) - a≤n+1) (hI:Inv c o):
 jF (Post s b q0 q1 q2 q3 q4 q5 q6 q7 (a+1)) ((bA T).ic bP (st s a b q0 q1 q2 q3 q4 q5 q6 q7 f c o)):=by
 rw[aFa];unfold lR
 obtain ⟨x,x0,x1,_,e1⟩:=aJP s b q0 q1 q2 q3 q4 q5 q6 q7 a f c o g0
 refine .lA e1 ?_
 simp only[oD,sC,wC,tC,fD,pH,cD,kC,oC,uC,dD,qH,aI,oA,eA,zA,rA]
 simp only[yF (show 0≤a+1 by omega) (show a+1≤1000000000000 by omega)]
 refine .bind (R:=fun r=>(∃a' f' c' o' w k,a+1≤a'∧a'≤(s.length:Int)∧Inv c' o'∧r=(0,st s a' b q0 q1 q2 q3 q4 q5 q6 q7 f' c' o'++[.r w, .r k]))∨(∃a' f' c' o' row,a+1≤a'∧a'≤(s.length:Int)∧Inv c' o'∧r=(1,st s a' b q0 q1 q2 q3 q4 q5 q6 q7 f' c' o'++[.r row]))) ?_ ?_
 ·refine .ite (fun e=> ?_) fun e=> .ite (fun e=> ?_) fun e=> .ite (fun e=> ?_) fun e=> .ite (fun e=> ?_) fun e=> ?_
  ·refine .bind (hA (a+1) f c o (by omega) (by omega) (by omega) hI) ?_
   rintro y2 ⟨row,a2,f2,c2,o2,u1,u2,u3,rfl⟩
   simp only[oD,sC,wC,tC,fD,pH,cD,kC,oC,uC,dD,qH,aI,oA,eA,zA,rA]
   refine .bind (R:=fun r=>∃f3:Bool,(f3=false→a2<(s.length:Int))∧∃w,r=(0,st s a2 b q0 q1 q2 q3 q4 q5 q6 q7 f3 c2 o2++[.r w, .r row])) ?_ ?_
   ·refine .ite (fun e=> .some ⟨true,fun h=>(by cases h),_,rfl⟩) fun e=> ?_
    obtain ⟨x',_,_,_,e2⟩:=aJP s b q0 q1 q2 q3 q4 q5 q6 q7 a2 f2 c2 o2 (by omega)
    refine .lA e2 ?_
    simp only[oD,sC,wC,tC,fD,pH,cD,kC,oC,uC,dD,qH,aI,oA,eA,zA,rA]
    refine .ite (fun e=> .some ⟨true,fun h=>(by cases h),_,rfl⟩) fun e=> .some ⟨_,fun h=> ?_,_,rfl⟩
    have:=of_decide_eq_false h;omega
   rintro eJ ⟨f3,hf,w,rfl⟩
   simp only[List.cons_append,List.nil_append,oD,sC,wC,tC,fD,pH,cD,kC,oC,uC,dD,qH,aI,oA,eA,zA,rA]
   refine .ite (fun e=> ?_) fun e=> .some (.inr ⟨a2,f3,c2,o2,row,u1,u2,u3,rfl⟩)
   have:=hf (by simpa using e)
   rw[yF (show 0≤a2+1 by omega) (by omega)]
   exact .some (.inr ⟨a2+1,f3,c2,o2,row,by omega,by omega,u3,rfl⟩)
  ·obtain ⟨k,ek⟩:=aQi [.int 0, .int 0, .int 0, .int 0]
   refine .lA ek ?_
   exact .some (.inl ⟨a+1,f,c,o,_,k,by omega,by omega,hI,rfl⟩)
  ·refine .bind (a1i s b q0 q1 q2 q3 q4 q5 q6 q7 hs (a+1) f c o (by omega) (by omega)) ?_
   rintro pW ⟨row,a2,f2,u1,u2,rfl⟩
   simp only[oD,sC,wC,tC,fD,pH,cD,kC,oC,uC,dD,qH,aI,oA,eA,zA,rA]
   exact .some (.inl ⟨a2,f2,c,o,_,row,u1,u2,hI,rfl⟩)
  ·refine .ite (fun e=> .some (.inr ⟨a+1,true,c,o,_,by omega,by omega,hI,rfl⟩)) fun e=> ?_
   have e':a+1<(s.length:Int):=by simpa using e
   rw[if_pos ⟨by omega,e'⟩]
   obtain ⟨k,ek⟩:=aNP (i:=((s.getD (a+1).toNat 0).toNat:Int)) (by omega) (by have:=(s.getD (a+1).toNat 0).toNat_lt;omega) [.int 0, .int 0, .int 0, .int 0]
   refine .lA ek ?_
   rw[yF (show 0≤a+1+1 by omega) (by omega)]
   exact .some (.inl ⟨a+1+1,f,c,o,_,k,by omega,by omega,hI,rfl⟩)
  ·refine .lA (indexByte _ x) ?_
   refine .ite (fun e=> .some (.inr ⟨a+1,true,c,o,_,by omega,by omega,hI,rfl⟩)) fun e=> ?_
   obtain ⟨k,ek⟩:=aNP x0 x1 [.int 0, .int 0, .int 0, .int 0]
   refine .lA ek ?_
   exact .some (.inl ⟨a+1,f,c,o,_,k,by omega,by omega,hI,rfl⟩)
 ·rintro x17 (⟨a2,f2,c2,o2,w,k,u1,u2,u3,rfl⟩|⟨a2,f2,c2,o2,row,u1,u2,u3,rfl⟩)
  ·simp only[List.cons_append,List.nil_append,oD,sC,wC,tC,fD,pH,cD,kC,oC,uC,dD,qH,aI,oA,eA,zA,rA]
   obtain ⟨row,f3,c3,o3,h3,e3⟩:=aVP s b q0 q1 q2 q3 q4 q5 q6 q7 k a2 f2 c2 o2 u3
   refine .lA e3 ?_
   exact .some ⟨row,a2,f3,c3,o3,u1,u2,h3,rfl⟩
  ·simp only[List.cons_append,List.nil_append,oD,sC,wC,tC,fD,pH,cD,kC,oC,uC,dD,qH,aI,oA,eA,zA,rA]
   exact .some ⟨row,a2,f2,c2,o2,u1,u2,u3,rfl⟩
theorem a38 (hs:s.length≤200) (n:Int) (hA:aOl s b q0 q1 q2 q3 q4 q5 q6 q7 n) (a:Int) (f:Bool) (c o:C) (g0:0≤a) (g1:a<(s.length:Int)) (gn:(s.length:Int) - a≤n+1) (hI:Inv c o):
 jF (Post s b q0 q1 q2 q3 q4 q5 q6 q7 (a+1)) ((bA T).ic iQ (st s a b q0 q1 q2 q3 q4 q5 q6 q7 f c o)):=by
 rw[aFt];unfold gT
 refine .bind (a36 s b q0 q1 q2 q3 q4 q5 q6 q7 hs n hA a f c o g0 g1 gn hI) ?_
 rintro y1 ⟨row,a2,f2,c2,o2,u1,u2,u3,rfl⟩
 simp only[oD,sC,wC,tC,fD,pH,cD,kC,oC,uC,dD,qH,aI,oA,eA,zA,rA]
 refine .lA (aQl s b q0 q1 q2 q3 q4 q5 q6 q7 a2 f2 c2 o2) ?_
 simp only[oD,sC,wC,tC,fD,pH,cD,kC,oC,uC,dD,qH,aI,oA,eA,zA,rA]
 refine .ite (fun e=> .some ⟨row,a2,f2,c2,o2,u1,u2,u3,rfl⟩) fun e=> ?_
 have hlt:a2<(s.length:Int):=by simp at e;exact e.2
 obtain ⟨x,x0,x1,_,e1⟩:=aJP s b q0 q1 q2 q3 q4 q5 q6 q7 a2 f2 c2 o2 (by omega)
 refine .lA e1 ?_
 simp only[oD,sC,wC,tC,fD,pH,cD,kC,oC,uC,dD,qH,aI,oA,eA,zA,rA]
 refine .bind (R:=fun r=>∃(q:Bool) (w:Row),r=(0, .r [.int x]:: .r [.bool q]::(st s a2 b q0 q1 q2 q3 q4 q5 q6 q7 f2 c2 o2++[.r w, .r row]))) ?_ ?_
 ·exact .ite (fun _=> .ite (fun _=> .some ⟨_,_,rfl⟩) fun _=> .some ⟨_,_,rfl⟩) fun _=> .some ⟨_,_,rfl⟩
 rintro x8 ⟨q,w,rfl⟩
 simp only[List.cons_append,List.nil_append,oD,sC,wC,tC,fD,pH,cD,kC,oC,uC,dD,qH,aI,oA,eA,zA,rA]
 refine .ite (fun e=> .some ⟨row,a2,f2,c2,o2,u1,u2,u3,rfl⟩) fun e=> ?_
 rw[yF (show 0≤a2+1 by omega) (by omega)]
 refine .ite (fun e=> ?_) fun e=> ?_
 ·refine .bind (aZU s b q0 q1 q2 q3 q4 q5 q6 q7 _ _ (a2+1) f2 c2 o2 u3) ?_
  rintro y9 ⟨o3,h3,rfl⟩
  simp only[List.cons_append,List.nil_append,oD,sC,wC,tC,fD,pH,cD,kC,oC,uC,dD,qH,aI,oA,eA,zA,rA]
  exact .ite (fun e=> .some ⟨_,a2+1,f2,c2,o3,by omega,by omega,h3,rfl⟩) fun e=> .some ⟨_,a2+1,f2,c2,o3,by omega,by omega,h3,rfl⟩
 ·exact .ite (fun e=> .some ⟨_,a2+1,f2,c2,o2,by omega,by omega,u3,rfl⟩) fun e=> .some ⟨_,a2+1,f2,c2,o2,by omega,by omega,u3,rfl⟩
theorem aZV (hs:s.length≤200) (n:Int) (hA:aOl s b q0 q1 q2 q3 q4 q5 q6 q7 n):∀(j:Nat) (a:Int) (f:Bool) (c o:C) (w r0:Row),0≤a→a≤(s.length:Int)→(s.length:Int)<a+j→(s.length:Int) - a≤n+1→Inv c o→
 jF (fun r=>∃a' f' c' o' w' r',a≤a'∧a'≤(s.length:Int)∧Inv c' o'∧r=(0,st s a' b q0 q1 q2 q3 q4 q5 q6 q7 f' c' o'++[.r w', .r r'])) (vF (bA T) s a b q0 q1 q2 q3 q4 q5 q6 q7 f c o w r0)
 |0,a,f,c,o,w,r0,g0,g1,g2,gn,hI=>by omega
 |j+1,a,f,c,o,w,r0,g0,g1,g2,gn,hI=>by
  rw[aBY];unfold dK
  refine .bind (R:=fun r=>∃q:Bool,(q=true→a<(s.length:Int))∧r=(0, .r [.bool q]::(st s a b q0 q1 q2 q3 q4 q5 q6 q7 f c o++[.r w, .r r0]))) ?_ ?_
  ·refine .lA (aQl s b q0 q1 q2 q3 q4 q5 q6 q7 a f c o) ?_
   simp only[oD,sC,wC,tC,fD,pH,cD,kC,oC,uC,dD,qH,aI,oA,eA,zA,rA]
   refine .ite (fun e=> ?_) (fun _=> .some ⟨false,fun h=>(by cases h),rfl⟩)
   have hlt:a<(s.length:Int):=by simp at e;exact e.2
   obtain ⟨x,_,_,_,e2⟩:=aJP s b q0 q1 q2 q3 q4 q5 q6 q7 a f c o g0
   refine .lA e2 ?_
   simp only[oD,sC,wC,tC,fD,pH,cD,kC,oC,uC,dD,qH,aI,oA,eA,zA,rA]
   refine .ite (fun e=> ?_) (fun _=> .some ⟨false,fun h=>(by cases h),rfl⟩)
   refine .lA e2 ?_
   simp only[oD,sC,wC,tC,fD,pH,cD,kC,oC,uC,dD,qH,aI,oA,eA,zA,rA]
   exact .some ⟨_,fun _=>hlt,rfl⟩
  rintro nW ⟨q,hq,rfl⟩
  simp only[List.cons_append,List.nil_append,oD,sC,wC,tC,fD,pH,cD,kC,oC,uC,dD,qH,aI,oA,eA,zA,rA]
  refine .ite (fun e=> ?_) (fun _=> .some ⟨a,f,c,o,w,r0,Int.le_refl _,g1,hI,rfl⟩)
  have hlt:=hq e
  refine .bind (a38 s b q0 q1 q2 q3 q4 q5 q6 q7 hs n hA a f c o g0 hlt gn hI) ?_
  rintro y15 ⟨x,a2,f2,c2,o2,u1,u2,u3,rfl⟩
  simp only[List.cons_append,List.nil_append,oD,sC,wC,tC,fD,pH,cD,kC,oC,uC,dD,qH,aI,oA,eA,zA,rA]
  refine .bind (aZU s b q0 q1 q2 q3 q4 q5 q6 q7 _ _ a2 f2 c2 o2 u3) ?_
  rintro y16 ⟨o3,h3,rfl⟩
  simp only[List.cons_append,List.nil_append,oD,sC,wC,tC,fD,pH,cD,kC,oC,uC,dD,qH,aI,oA,eA,zA,rA]
  refine .bind (R:=fun r=>∃r1:Row,r=(0,st s a2 b q0 q1 q2 q3 q4 q5 q6 q7 f2 c2 o3++[.r w, .r r1, .r x])) ?_ ?_
  ·refine .ite (fun e=> ?_) fun e=> .some ⟨_,rfl⟩
   obtain ⟨r1,e1⟩:=aQj [at_ x 1,at_ x 2,at_ x 3,at_ x 4] r0
   exact .lA e1 (.some ⟨r1,rfl⟩)
  rintro qK ⟨r1,rfl⟩
  simp only[List.cons_append,List.nil_append,oD,sC,wC,tC,fD,pH,cD,kC,oC,uC,dD,qH,aI,oA,eA,zA,rA]
  refine .bind (R:=fun r=>∃r2:Row,r=(0,st s a2 b q0 q1 q2 q3 q4 q5 q6 q7 f2 c2 o3++[.r w, .r r2, .r x])) ?_ ?_
  ·exact .ite (fun e=> .some ⟨_,rfl⟩) fun e=> .some ⟨_,rfl⟩
  rintro x19 ⟨r2,rfl⟩
  simp only[List.cons_append,List.nil_append,oD,sC,wC,tC,fD,pH,cD,kC,oC,uC,dD,qH,aI,oA,eA,zA,rA]
  obtain ⟨r3,e3⟩:=aQk [at_ x 5,at_ x 6,at_ x 7,at_ x 8] r2
  refine .lA e3 ?_
  simp only[cD,aI]
  refine .ite (fun e=> ?_) fun e=> ?_
  ·refine (aZV hs n hA j a2 f2 c2 o3 w _ (by omega) u2 (by omega) (by omega) h3).mono ?_
   rintro r ⟨a',f',c',o',w',r',v1,v2,v3,rfl⟩
   exact ⟨a',f',c',o',w',r',by omega,v2,v3,rfl⟩
  ·refine (aZV hs n hA j a2 f2 c2 o3 w _ (by omega) u2 (by omega) (by omega) h3).mono ?_
   rintro r ⟨a',f',c',o',w',r',v1,v2,v3,rfl⟩
   exact ⟨a',f',c',o',w',r',by omega,v2,v3,rfl⟩
theorem a1X (hs:s.length≤200) (n:Int) (hA:aOl s b q0 q1 q2 q3 q4 q5 q6 q7 n) (a:Int) (f:Bool) (c o:C) (g0:0≤a) (g1:a≤(s.length:Int)) (gn:(s.length:Int) - a≤n+1) (hI:Inv c o):
 jF (Post s b q0 q1 q2 q3 q4 q5 q6 q7 a) ((bA T).ic lG (st s a b q0 q1 q2 q3 q4 q5 q6 q7 f c o)):=by
 rw[aDv];unfold xN
 refine .bind (aZV s b q0 q1 q2 q3 q4 q5 q6 q7 hs n hA 400 a f c o _ _ g0 g1 (by omega) gn hI) ?_
 rintro x ⟨a',f',c',o',w',r',v1,v2,v3,rfl⟩
 simp only[List.cons_append,List.nil_append,oD,sC,wC,tC,fD,pH,cD,kC,oC,uC,dD,qH,aI,oA,eA,zA,rA]
 exact .some ⟨r',a',f',c',o',v1,v2,v3,rfl⟩
theorem a1Y (hs:s.length≤200) (n:Int) (hA:aOl s b q0 q1 q2 q3 q4 q5 q6 q7 n):∀(j:Nat) (a:Int) (f:Bool) (c o:C) (w r0:Row),0≤a→a≤(s.length:Int)→(s.length:Int)<a+j→(s.length:Int) - a≤n+1→Inv c o→
 jF (fun r=>∃a' f' c' o' w' r',a≤a'∧a'≤(s.length:Int)∧Inv c' o'∧r=(0,st s a' b q0 q1 q2 q3 q4 q5 q6 q7 f' c' o'++[.r w', .r r'])) (yC (bA T) s a b q0 q1 q2 q3 q4 q5 q6 q7 f c o w r0)
 |0,a,f,c,o,w,r0,g0,g1,g2,gn,hI=>by omega
 |j+1,a,f,c,o,w,r0,g0,g1,g2,gn,hI=>by
  rw[qZ];unfold jH
  refine .bind (R:=fun r=>∃q:Bool,(q=true→a<(s.length:Int))∧r=(0, .r [.bool q]::(st s a b q0 q1 q2 q3 q4 q5 q6 q7 f c o++[.r w, .r r0]))) ?_ ?_
  ·refine .lA (aQl s b q0 q1 q2 q3 q4 q5 q6 q7 a f c o) ?_
   simp only[oD,sC,wC,tC,fD,pH,cD,kC,oC,uC,dD,qH,aI,oA,eA,zA,rA]
   refine .ite (fun e=> ?_) (fun _=> .some ⟨false,fun h=>(by cases h),rfl⟩)
   have hlt:a<(s.length:Int):=by simp at e;exact e.2
   obtain ⟨x,_,_,_,e2⟩:=aJP s b q0 q1 q2 q3 q4 q5 q6 q7 a f c o g0
   refine .lA e2 ?_
   simp only[oD,sC,wC,tC,fD,pH,cD,kC,oC,uC,dD,qH,aI,oA,eA,zA,rA]
   exact .some ⟨_,fun _=>hlt,rfl⟩
  rintro x7 ⟨q,hq,rfl⟩
  simp only[List.cons_append,List.nil_append,oD,sC,wC,tC,fD,pH,cD,kC,oC,uC,dD,qH,aI,oA,eA,zA,rA]
  refine .ite (fun e=> ?_) (fun _=> .some ⟨a,f,c,o,w,r0,Int.le_refl _,g1,hI,rfl⟩)
  have hlt:=hq e
  rw[yF (show 0≤a+1 by omega) (by omega)]
  refine .bind (a1X s b q0 q1 q2 q3 q4 q5 q6 q7 hs n hA (a+1) f c o (by omega) (by omega) (by omega) hI) ?_
  rintro y8 ⟨x,a2,f2,c2,o2,u1,u2,u3,rfl⟩
  simp only[List.cons_append,List.nil_append,oD,sC,wC,tC,fD,pH,cD,kC,oC,uC,dD,qH,aI,oA,eA,zA,rA]
  have fin:∀row:Row,jF (fun r=>∃a' f' c' o' w' r',a≤a'∧a'≤(s.length:Int)∧Inv c' o'∧r=(0,st s a' b q0 q1 q2 q3 q4 q5 q6 q7 f' c' o'++[.r w', .r r'])) (((bA T).ic wH [.r [at_ x 1,at_ x 2,at_ x 3,at_ x 4], .r row]).bind fun y11=>
        ((bA T).ic xH [.r [at_ x 5,at_ x 6,at_ x 7,at_ x 8], .r (gR 0 y11)]).bind fun y12=>
          yC (bA T) s a2 b q0 q1 q2 q3 q4 q5 q6 q7 f2 c2 o2 w (gR 0 y12)):=by
   intro row
   obtain ⟨r1,e1⟩:=aQj [at_ x 1,at_ x 2,at_ x 3,at_ x 4] row
   refine .lA e1 ?_
   obtain ⟨r2,e2⟩:=aQk [at_ x 5,at_ x 6,at_ x 7,at_ x 8] r1
   refine .lA e2 ?_
   refine (a1Y hs n hA j a2 f2 c2 o2 w _ (by omega) u2 (by omega) (by omega) u3).mono ?_
   rintro r ⟨a',f',c',o',w',r',v1,v2,v3,rfl⟩
   exact ⟨a',f',c',o',w',r',by omega,v2,v3,rfl⟩
  exact .ite (fun _=>fin _) fun _=>fin _
theorem a7G (hs:s.length≤200):∀n:Nat,aOl s b q0 q1 q2 q3 q4 q5 q6 q7 n:=by
 have step:∀n:Int,aOl s b q0 q1 q2 q3 q4 q5 q6 q7 n→aOl s b q0 q1 q2 q3 q4 q5 q6 q7 (n+1):=by
  intro n hA a f c o g0 g1 gn hI
  rw[aAS];unfold dJ
  refine .bind (a1X s b q0 q1 q2 q3 q4 q5 q6 q7 hs n hA a f c o g0 g1 gn hI) ?_
  rintro y1 ⟨x,a2,f2,c2,o2,u1,u2,u3,rfl⟩
  simp only[List.cons_append,List.nil_append,oD,sC,wC,tC,fD,pH,cD,kC,oC,uC,dD,qH,aI,oA,eA,zA,rA]
  refine .bind (a1Y s b q0 q1 q2 q3 q4 q5 q6 q7 hs n hA 400 a2 f2 c2 o2 _ _ (by omega) u2 (by omega) (by omega) u3) ?_
  rintro x13 ⟨a',f',c',o',w',r',v1,v2,v3,rfl⟩
  simp only[List.cons_append,List.nil_append,oD,sC,wC,tC,fD,pH,cD,kC,oC,uC,dD,qH,aI,oA,eA,zA,rA]
  exact .some ⟨r',a',f',c',o',by omega,v2,v3,rfl⟩
 intro n
 induction n with
 |zero=>exact step (-1) (fun a f c o g0 g1 gn hI=>by omega)
 |succ n ih=>exact step n ih
end
end Go.Ev.oO
namespace Go.Ev.oO
@[simp] theorem a7H (x:List (Row×Row)):(PV.m x).es=x:=rfl
@[simp] theorem aWW (p q:PV) (x:List PV):(p::x).headD q=p:=rfl
def aZW (row:Row):Prop:=Inv (at_ row 0) (at_ row 1)
theorem aXX (s:List UInt8):jF (fun r=>∃(row:Row) (e:Int),r=[row,[.int e]]∧(e=0→aZW row)) ((bA T).pc aDN [[.str s]]):=by
 rw[aNG];unfold aGj
 refine .ite (fun e=> .some ⟨_,2,rfl,fun h=>by cases h⟩) fun e=> ?_
 have hs:s.length≤200:=by have:=of_decide_eq_false (by simpa using e:decide ((s.length:Int)>200)=false);omega
 refine .bind (a7G s false 0 0 0 0 0 0 0 0 hs 400 0 false (.sl [[.int 0, .int 0, .int 0, .int 0]]) (.sl [[.int 0, .int 0, .int 0, .int 0]]) (by omega) (by omega) (by omega) ⟨rfl,by simp[C.rows],by simp[C.rows]⟩) ?_
 rintro y1 ⟨row,a,f,c,o,u1,u2,u3,rfl⟩
 simp only[List.cons_append,List.nil_append,oD,sC,wC,tC,fD,pH,cD,kC,oC,uC,dD,qH,aI,oA,eA,zA,rA]
 refine .bind (R:=fun r=>∃(q:Bool) (w:Row),r=(0, .r [.bool q]:: .r w::[.r [.str s], .r [.int a], .r [.bool false], .r [.int 0], .r [.int 0], .r [.int 0], .r [.int 0], .r [.int 0], .r [.int 0], .r [.int 0], .r [.int 0], .r [.bool f], .r row, .r [c], .r [o]])) ?_ ?_
 ·exact .ite (fun e=> .some ⟨_,_,rfl⟩) fun e=> .some ⟨_,_,rfl⟩
 rintro x4 ⟨q,w,rfl⟩
 simp only[List.cons_append,List.nil_append,oD,sC,wC,tC,fD,pH,cD,kC,oC,uC,dD,qH,aI,oA,eA,zA,rA]
 refine .ite (fun e=> .some ⟨_,14,rfl,fun h=>by cases h⟩) fun e=> ?_
 obtain ⟨i1,i2,i3⟩:=u3
 have hl:0<o.rows.length:=by omega
 refine .pos ⟨by omega,by omega⟩ (.pos hl ?_)
 exact .some ⟨_,0,rfl,fun _=>⟨by show c.rows.length=(o.rows.set 0 _).length;rw[List.length_set];exact i1,i2,i3⟩⟩
theorem aZX (p:Row) (b:Int) (hb0:0≤b) (hb1:b<256) (v2:Int) (hm:(at_ p 0).rows.length≤256):∀(j:Nat) (i:Int) (out:Row),0≤i→i+j=(at_ p 0).rows.length→
 jF (fun r=>∃out',r=(0,[.r [.dp p], .r [.int v2], .r out'])) (iT (bA T) (.dp p) b v2 ((at_ p 0).rows.length:Int) i out)
 |0,i,out,h0,h=>by
  rw[aCf];unfold jT
  have:¬i<((at_ p 0).rows.length:Int):=by omega
  simp only[this,decide_false,Bool.false_eq_true,if_false]
  exact .some ⟨_,rfl⟩
 |j+1,i,out,h0,h=>by
  rw[aCf];unfold jT
  have hlt:i<((at_ p 0).rows.length:Int):=by omega
  simp only[hlt,decide_true,if_true,aE,vC,h0,and_self]
  rw[aTi hb0 hb1]
  obtain ⟨q,e⟩:=aXT (.dp (aA ((at_ p 0).rows) i.toNat)) rfl hb0 hb1
  refine .lA e ?_
  simp only[yA,oA,eA,yF (show 0≤i+1 by omega) (show i+1≤1000000000000 by omega)]
  refine .ite (fun _=> ?_) fun _=>aZX p b hb0 hb1 v2 hm j (i+1) out (by omega) (by omega)
  simp only[hb0,hb1,and_self,if_true]
  obtain ⟨out',e'⟩:=aXW (p:=((0+(b.toNat*4):Nat):Int)) (i:=i) (by omega) (by omega) h0 (by omega) out
  refine .lA e' ?_
  exact aZX p b hb0 hb1 v2 hm j (i+1) _ (by omega) (by omega)
theorem a1Z (p:Row) (hm:(at_ p 0).rows.length≤256):∀(j:Nat) (i:Int) (out:Row),0≤i→i+j=256→
 jF (fun r=>∃out',r=(0,[.r out'])) (kT (bA T) (.dp p) i out)
 |0,i,out,h0,h=>by
  rw[aCg];unfold lT
  have:¬i<256:=by omega
  simp only[this,decide_false,Bool.false_eq_true,if_false]
  exact .some ⟨_,rfl⟩
 |j+1,i,out,h0,h=>by
  rw[aCg];unfold lT
  have hlt:i<256:=by omega
  simp only[hlt,decide_true,if_true,aE,vC]
  refine .bind (aZX p i h0 hlt i hm _ 0 out (by omega) (by rw[Int.zero_add])) ?_
  rintro x3 ⟨out',rfl⟩
  simp only[List.cons_append,List.nil_append,oD,sC,wC,tC,fD,pH,cD,kC,oC,uC,dD,qH,aI,oA,eA,zA,rA,yF (show 0≤i+1 by omega) (show i+1≤1000000000000 by omega)]
  exact a1Z p hm j (i+1) _ (by omega) (by omega)
theorem a39 (p:Row) (hm:(at_ p 0).rows.length≤256):jF (fun r=>∃out,r=[[.dp out]]) ((bA T).pc aBu [[.dp p]]):=by
 rw[aLn];unfold aDM
 refine .bind (a1Z p hm 256 0 _ (by omega) (by omega)) ?_
 rintro x ⟨out,rfl⟩
 exact .some ⟨out,rfl⟩
theorem aQm (p t:Row) (v4:Row) (hm:(at_ p 1).rows.length≤256):∀(j:Nat) (i:Int) (out:Row),0≤i→i+j=(at_ p 1).rows.length→
 jF (fun r=>∃out',r=(0,[.r v4, .r out'])) (qM (bA T) (.dp p) (.dp t) ((at_ p 1).rows.length:Int) i v4 out)
 |0,i,out,h0,h=>by
  rw[zY];unfold rM
  have:¬i<((at_ p 1).rows.length:Int):=by omega
  simp only[this,decide_false,Bool.false_eq_true,if_false]
  exact .some ⟨_,rfl⟩
 |j+1,i,out,h0,h=>by
  rw[zY];unfold rM
  have hlt:i<((at_ p 1).rows.length:Int):=by omega
  simp only[hlt,decide_true,if_true]
  obtain ⟨q,e⟩:=aTj (.dp t) rfl h0 (show i<256 by omega)
  refine .lA e ?_
  simp only[yA,oA,eA,yF (show 0≤i+1 by omega) (show i+1≤1000000000000 by omega)]
  refine .ite (fun _=> ?_) fun _=>aQm p t v4 hm j (i+1) out (by omega) (by omega)
  simp only[aE,vC,hlt,h0,and_self,if_true]
  obtain ⟨out',e'⟩:=aVN (aA ((at_ p 1).rows) i.toNat) out
  refine .lA e' ?_
  exact aQm p t v4 hm j (i+1) _ (by omega) (by omega)
theorem aVS (p t:Row) (hm:(at_ p 1).rows.length≤256):jF (fun r=>∃out,r=[out]) ((bA T).pc bV [[.dp p],t]):=by
 rw[aIC];unfold lZ
 simp only[aE,vC,if_true]
 refine .bind (aQm p t _ hm _ 0 _ (by omega) (by rw[Int.zero_add])) ?_
 rintro x ⟨out,rfl⟩
 exact .some ⟨out,rfl⟩
theorem aZY (p t:Row):∀(j:Nat) (i:Int),0≤i→i+j=4→
 jF (fun r=>r=(0,[])∨r=(1,[.r [.bool true]])) (sP (bA T) (.dp p) (.dp t) i)
 |0,i,h0,h=>by
  rw[aAK];unfold uP
  have:¬i<4:=by omega
  simp only[this,decide_false,Bool.false_eq_true,if_false]
  exact .some (.inl rfl)
 |j+1,i,h0,h=>by
  rw[aAK];unfold uP
  have hlt:i<4:=by omega
  simp only[hlt,decide_true,if_true,h0,aE,vC,and_self,yF (show 0≤i+1 by omega) (show i+1≤1000000000000 by omega)]
  exact .ite (fun _=> .some (.inr rfl)) fun _=>aZY p t j (i+1) (by omega) (by omega)
theorem aZZ (p t:Row):jF (fun r=>∃b,r=[[.bool b]]) ((bA T).pc mZ [[.dp p],t]):=by
 rw[aJG];unfold aBt
 refine .bind (R:=fun r=>∃q:Bool,r=(0,[.r [.dp p], .r [.dp t], .r [.bool q]])) ?_ ?_
 ·obtain ⟨q,e⟩:=aTj (.dp t) rfl (i:=0) (by omega) (by omega)
  refine .lA e ?_
  simp only[aE,vC,if_true]
  exact .ite (fun _=> .some ⟨_,rfl⟩) fun _=> .some ⟨_,rfl⟩
 rintro x4 ⟨q,rfl⟩
 simp only[List.cons_append,List.nil_append,oD,sC,wC,tC,fD,pH,cD,kC,oC,uC,dD,qH,aI,oA,eA,zA,rA]
 refine .ite (fun _=> .some ⟨_,rfl⟩) fun _=> .bind (aZY p t 4 0 (by omega) (by omega)) ?_
 rintro x (rfl |rfl)
 ·exact .some ⟨_,rfl⟩
 ·exact .some ⟨_,rfl⟩
theorem aUD (v0:C) (m:Row) (v2 v3 v4:Int) (v6:Row) (v7:List (Row×Row)) (v8:C) (v9 v10:Row) (v12 eM:C) (h30:0≤v3) (h31:v3<256):∀(j:Nat) (i:Int) (t:Row),0≤i→i+j=4→
 jF (fun r=>∃t',r=(0,[.r [v0], .r [.dp m], .r [.int v2], .r [.int v3], .r [.int v4], .r v6, .m v7, .r [v8], .r v9, .r v10, .r t', .r [v12], .r [eM]])) (bY (bA T) v0 (.dp m) v2 v3 v4 i v6 v7 v8 v9 v10 t v12 eM)
 |0,i,t,h0,h=>by
  rw[aDY];unfold cY
  have:¬i<4:=by omega
  simp only[this,decide_false,Bool.false_eq_true,if_false]
  exact .some ⟨_,rfl⟩
 |j+1,i,t,h0,h=>by
  rw[aDY];unfold cY
  have hlt:i<4:=by omega
  simp only[hlt,decide_true,if_true,h0,aE,vC,and_self,h30,h31,yF (show 0≤i+1 by omega) (show i+1≤1000000000000 by omega)]
  rw[aJO (k4 h0 hlt),aFc (k4 h0 hlt)]
  exact aUD v0 m v2 v3 v4 v6 v7 v8 v9 v10 v12 eM h30 h31 j (i+1) _ (by omega) (by omega)
theorem a7I {i:Int} (h0:0≤i) (h1:i<256):(List.replicate 256 (K.int .i16))[0+i.toNat*1]? =some (.int .i16):=by
 rw[List.getElem?_replicate,if_pos (by omega)]
theorem aQn (v0:C) (m:Row) (v2:Int) (v4:Row) (v8:Row) (v9 v10:C):∀(j:Nat) (i:Int) (v5:List (Row×Row)) (v6:C) (v7:Row),0≤i→i+j=256→v6.rows.length≤400→
 jF (fun r=>(∃v5' v6' v7',v6.rows.length≤v6'.rows.length∧v6'.rows.length≤400∧r=(0,[.r [v0], .r [.dp m], .r [.int v2], .r v4, .m v5', .r [v6'], .r v7', .r [v9], .r [v10]]))∨r=(1,[.r [.int 2], .r [.fA, .fA]])) (dY (bA T) v0 (.dp m) v2 i v4 v5 v6 v7 v8 v9 v10)
 |0,i,v5,v6,v7,h0,h,hl=>by
  rw[aDZ];unfold eY
  have:¬i<256:=by omega
  simp only[this,decide_false,Bool.false_eq_true,if_false]
  exact .some (.inl ⟨_,_,_,Nat.le_refl _,hl,rfl⟩)
 |j+1,i,v5,v6,v7,h0,h,hl=>by
  rw[aDZ];unfold eY
  have hlt:i<256:=by omega
  simp only[hlt,decide_true,if_true]
  refine .bind (aUD v0 m v2 i i v4 v5 v6 v7 v8 v9 v10 h0 hlt 4 0 v8 (by omega) (by omega)) ?_
  rintro x7 ⟨t,rfl⟩
  simp only[List.cons_append,List.nil_append,oD,sC,wC,tC,fD,pH,cD,kC,oC,uC,dD,qH,aI,oA,eA,zA,rA,aWW,a7H,yF (show 0≤i+1 by omega) (show i+1≤1000000000000 by omega)]
  refine .ite (fun _=> ?_) fun _=> ?_
  ·refine .pos (by simp;omega) (.ite (fun _=> .some (.inr rfl)) fun e=> ?_)
   have hl2:(pE v6 [t]).rows.length≤400:=by
    have:=of_decide_eq_false (by simpa using e:decide (((pE v6 [t]).rows.length:Int)>400)=false);omega
   refine .pos ⟨h0,hlt⟩ ?_
   rw[aFc (a7I h0 hlt)]
   refine (aQn v0 m v2 v4 v8 v9 v10 j (i+1) _ _ _ (by omega) (by omega) hl2).mono ?_
   rintro r (⟨a,b,c,g1,g2,rfl⟩|rfl)
   ·exact .inl ⟨a,b,c,by simp at g1;omega,g2,rfl⟩
   ·exact .inr rfl
  ·refine .pos ⟨h0,hlt⟩ ?_
   rw[aFc (a7I h0 hlt)]
   exact aQn v0 m v2 v4 v8 v9 v10 j (i+1) _ _ _ (by omega) (by omega) hl
theorem aUE (p m:Row) (hp:aZW p) (v3:Row):∀(j:Nat) (i:Int) (v4:List (Row×Row)) (v5 v6 v7:C),0≤i→401≤i+j→i≤v5.rows.length→v5.rows.length≤400→(v6.rows.length:Int)=i→(v7.rows.length:Int)=i→
 jF (fun r=>(∃a b c,r=(0,[.r a, .r [b], .r [c]]))∨r=(1,[.r [.int 2], .r [.fA, .fA]])) (fY (bA T) (.dp p) (.dp m) i v3 v4 v5 v6 v7)
 |0,i,v4,v5,v6,v7,h0,h,hl,hl2,h6,h7=>by omega
 |j+1,i,v4,v5,v6,v7,h0,h,hl,hl2,h6,h7=>by
  rw[aKg];unfold aCz
  refine .ite (fun e=> ?_) fun _=> .some (.inl ⟨_,_,_,rfl⟩)
  have hlt:=of_decide_eq_true e
  refine .pos ⟨h0,hlt⟩ ?_
  refine .bind (aVS p (aA v5.rows i.toNat) (by have:=hp.1;have:=hp.2.2;omega)) ?_
  rintro y4 ⟨all,rfl⟩
  simp only[yA]
  refine .bind (aQn (.dp p) m i v3 all v6 v7 256 0 v4 v5 _ (by omega) (by omega) hl2) ?_
  rintro x10 (⟨v4',v5',v7',g1,g2,rfl⟩|rfl)
  ·simp only[List.cons_append,List.nil_append,oD,sC,wC,tC,fD,pH,cD,kC,oC,uC,dD,qH,aI,oA,eA,zA,rA,aWW,a7H,yF (show 0≤i+1 by omega) (show i+1≤1000000000000 by omega)]
   refine .pos (by simp;omega) (.pos ⟨h0,by omega⟩ ?_)
   refine .bind (aZZ p _) ?_
   rintro y12 ⟨b,rfl⟩
   refine .pos (by simp;omega) ?_
   exact aUE p m hp v3 j (i+1) _ _ _ _ (by omega) (by omega) (by omega) g2 (by simp;omega) (by simp;omega)
  ·exact .some (.inr rfl)
theorem aXY (s:List UInt8):jF (fun r=>∃(row:Row) (e:Int),r=[row,[.int e]]) ((bA T).pc aDO [[.str s]]):=by
 rw[aNH];unfold aGk
 refine .bind (aXX s) ?_
 rintro y1 ⟨p,e,rfl,hp⟩
 have e1:aA [p,[.int e]] 1=[.int e]:=rfl
 simp only[yA,e1,oA,rA]
 refine .ite (fun _=> .some ⟨_,e,rfl⟩) fun h=> ?_
 have hp':=hp (by simpa using h)
 obtain ⟨z,ez⟩:=aZS (i:=0) (by omega) (by omega) [.int 0, .int 0, .int 0, .int 0]
 refine .lA ez ?_
 refine .bind (a39 p hp'.2.2) ?_
 rintro y3 ⟨m,rfl⟩
 simp only[yA,oA,cD]
 refine .bind (aUE p m hp' _ 401 0 _ _ _ _ (by omega) (by omega) (by simp[C.rows]) (by simp[C.rows]) rfl rfl) ?_
 rintro x (⟨a,b,c,rfl⟩|rfl)
 ·exact .some ⟨_,_,rfl⟩
 ·exact .some ⟨_,_,rfl⟩
theorem aTk (s:List UInt8):∃e:Int,(bA T).pc cI [[.str s]]=some [[.int e]]:=by
 have:jF (fun r=>∃e:Int,r=[[.int e]]) ((bA T).pc cI [[.str s]]):=by
  rw[aNI];unfold aGl
  refine .bind (aXY s) ?_
  rintro y ⟨row,e,rfl⟩
  exact .some ⟨_,rfl⟩
 obtain ⟨r,h,e,rfl⟩:=this
 exact ⟨e,h⟩
end Go.Ev.oO
namespace Go.Ev.oO
abbrev big:Nat:=4294967296
theorem a4a {i:Nat} (h:i≤big):tZ ((i:Int)+1):=by unfold big at h;exact ⟨by omega,by omega⟩
theorem lC {i:Nat} (h:i≤big):IntKind.wrap .i64 ((i:Int)+1)=((i+1:Nat):Int):=by rw[wrap_i64 (a4a h)];omega
theorem aXZ (a:Int):(bA T).pc j7 [[.int a]]=some [[.bool false]]:=by
 rw[aNF];simp[cmp_isNaN_int]
theorem aOm (a b:Int):(bA T).pc oV [[.int a],[.int b]]=some [[.int (aKe a b)]]:=by
 rw[aLk]
 unfold cmp_Compare_int aKe
 simp only[aXZ,Option.bind_some,yA,oA,eA,Bool.false_eq_true,if_false,decide_eq_true_eq]
 split
 ·rfl
 ·split<;>rfl
theorem aJQ (a b:Bytes):(bA T).pc nV [[.str a],[.str b]]=some [[.int (oF a b)]]:=by
 rw[aLl]
 unfold strings_Compare
 rw[aAR]
 simp[bJ]
def aQo (n:Int):Row:=[.int n]
theorem aUF (l:List Int) (hN:l.length≤big):∀(j i:Nat),i+j=l.length→
 aC8 (bA T) 0 (.sl (l.map aQo)) (l.length:Int) (i:Int)=if orI (l.drop i)=0 then some (0,[.r [.int 0]])else some (1,[.r [.int (orI (l.drop i))]])
 |0,i,h=>by
  rw[aHi]
  unfold aC9
  have:¬(i:Int)<(l.length:Int):=by omega
  rw[List.drop_eq_nil_of_le (by omega)]
  simp[this,orI]
 |j+1,i,h=>by
  rw[aHi]
  unfold aC9
  have h1:i<l.length:=by omega
  have ih:=aUF l hN j (i+1) (by omega)
  rw[List.drop_eq_getElem_cons h1]
  simp only[aHI,fC,List.length_map,Int.toNat_natCast,h1,lC (show i≤big by omega),ih,orI,aQo,oA,rA]
  have g1:(i:Int)<(l.length:Int):=by omega
  have g0:(0:Int)≤(i:Int):=by omega
  simp only[g1,g0,decide_true,and_self,if_true]
  by_cases hc:l[i]=0<;>simp[hc]
theorem aZ0 (l:List Int) (hN:l.length≤big):(bA T).pc aEl [[.sl (l.map aQo)]]=some [[.int (orI l)]]:=by
 rw[aRi]
 unfold aK3
 simp only[aHI,List.length_map]
 have:=aUF l hN l.length 0 (by omega)
 simp only[Int.ofNat_zero,Int.natCast_zero]at this
 rw[this,List.drop_zero]
 by_cases h:orI l=0<;>simp[h]
theorem aQp (n:Int) (h:tZ n):(bA T).pc aDb [[.int n]]=some [[.int (aJe n)]]:=by
 rw[aP8]
 unfold aJt aJe
 by_cases hn:n<0
 ·have h':=h
  obtain ⟨h1,h2⟩:=h'
  simp only[hn,decide_true,if_true,a0A h hn]
  rw[wrap_i64 ⟨by omega,by omega⟩]
 ·simp only[hn,decide_false,Bool.false_eq_true,if_false]
theorem aJR (b b':Bool) (l r:List (Bytes×wA)) (hN:l.length≤big) (hc:∀p∈l,∀q∈r,(bA T).pc fJ [nD p,nD q]=some [[.int (w9 p q)]]):∀(j i:Nat),i+j=l.length→i≤r.length→
 bF (bA T) (slC b (l.map nD)) (slC b' (r.map nD)) (.fn fJ []) (slC b (l.map nD)) (l.length:Int) (i:Int)=
  if aM3 w9 (l.drop i) (r.drop i)=0 then some (0,[.r [slC b (l.map nD)], .r [slC b' (r.map nD)]])else some (1,[.r [.int (aM3 w9 (l.drop i) (r.drop i))]])
 |0,i,h,_=>by
  rw[dO]
  unfold cF
  have:¬(i:Int)<(l.length:Int):=by omega
  rw[List.drop_eq_nil_of_le (by omega)]
  simp[this,aM3]
 |j+1,i,h,hir=>by
  rw[dO]
  unfold cF
  have h1:i<l.length:=by omega
  have g1:(i:Int)<(l.length:Int):=by omega
  have g0:(0:Int)≤(i:Int):=by omega
  rw[List.drop_eq_getElem_cons h1]
  by_cases h2:i<r.length
  ·have ih:=aJR b b' l r hN hc j (i+1) (by omega) (by omega)
   rw[List.drop_eq_getElem_cons h2]
   have g2:(i:Int)<(r.length:Int):=by omega
   have g3:¬(i:Int)≥(r.length:Int):=by omega
   have hcc:=hc l[i] (List.getElem_mem h1) r[i] (List.getElem_mem h2)
   have a98:aKj (bA T) (.fn fJ []) [nD l[i],nD r[i]]=some [[.int (w9 l[i] r[i])]]:=hcc
   simp only[sJ,fC,List.length_map,Int.toNat_natCast,h1,h2,lC (show i≤big by omega),ih,aM3,g1,g2,g0,g3,decide_true,decide_false,Bool.false_eq_true,if_false,and_self,if_true,a98,Option.bind_some,yA,oA,rA]
   by_cases hz:w9 l[i] r[i]=0<;>simp[hz]
  ·have g3:(i:Int)≥(r.length:Int):=by omega
   rw[List.drop_eq_nil_of_le (show r.length≤i by omega)]
   simp only[sJ,List.length_map,g1,g0,g3,decide_true,and_self,if_true,aM3]
   simp
theorem aTl (b b':Bool) (l r:List (Bytes×wA)) (hN:l.length≤big) (hc:∀p∈l,∀q∈r,(bA T).pc fJ [nD p,nD q]=some [[.int (w9 p q)]]):
 (bA T).pc cJ [[slC b (l.map nD)],[slC b' (r.map nD)],[.fn fJ []]]=some [[.int (aHL w9 l r)]]:=by
 rw[aB6]
 unfold pL
 have:=aJR b b' l r hN hc l.length 0 (by omega) (by omega)
 simp only[Int.ofNat_zero,Int.natCast_zero,List.drop_zero]at this
 simp only[sJ,List.length_map]
 rw[this,aRB]
 by_cases h:aM3 w9 l r=0
 ·by_cases h':l.length<r.length<;>simp[h,h']
 ·simp[h]
theorem aUG (v w:wA) (hv:v.wf) (hw:w.wf) (hN:v.xC≤big):(bA T).pc aFF [v.row,w.row]=some [[.int (v.cmp w)]]:=by
 have aBZ:∀p∈v.fs,∀q∈w.fs,(bA T).pc fJ [nD p,nD q]=some [[.int (w9 p q)]]:=by
  intro p hp q hq
  have:=wA.oP hp
  have hb:=wA.aA5 hp
  have ih:=aUG p.2 q.2 (wA.aM1 hv hp) (wA.aM1 hw hq) (by omega)
  rw[aP9]
  unfold aJu
  have ho:=aZ0 [oF p.1 q.1,p.2.cmp q.2] (by simp[big])
  simp only[List.map_cons,List.map_nil,aQo]at ho
  simp only[aV5,aV6,aV7,aV8,aV9,zA,aTz,aJQ,ih,Option.bind_some,yA,oA,rA,ho,w9]
 rw[aTc]
 unfold aNn
 have hf:=aTl v.nil w.nil v.fs w.fs (by have:=v.aEO;omega) aBZ
 rw[←v.aYr,←w.aYr]at hf
 have ho:=aZ0 [aKe v.k w.k,aKe (if v.k=3 then aJe v.n else v.n) (if v.k=3 then aJe w.n else w.n),oF v.s w.s] (by simp[big])
 simp only[List.map_cons,List.map_nil,aQo]at ho
 rw[v.cmp_eq]
 by_cases k3:v.k=3
 ·simp only[k3,if_true]at ho
  simp only[aLL,aOX,aOY,aA6,rA,zA,k3,beq_self_eq_true,if_true,aQp _ (wA.aOv hv),aQp _ (wA.aOv hw),Option.bind_some,yA,oA,oD,sC,wC,tC,fD,pH,cD,kC,oC,uC,dD,qH,aI,List.tail_cons,aE,vC,aOm,aJQ,ho,hf]
  generalize orI _=c
  by_cases hc:c=0<;>simp[hc]
 ·simp only[k3,if_false]at ho
  have k3':(v.k==3)=false:=by simp[k3]
  simp only[aLL,aOX,aOY,aA6,rA,zA,k3,k3',Bool.false_eq_true,if_false,Option.bind_some,yA,oA,oD,sC,wC,tC,fD,pH,cD,kC,oC,uC,dD,qH,aI,List.tail_cons,aE,vC,aOm,aJQ,ho,hf,if_true]
  generalize orI _=c
  by_cases hc:c=0<;>simp[hc]
 termination_by SizeOf.sizeOf v
theorem aSb (v w:wA) (hv:v.wf) (hw:w.wf) (hN:v.xC≤big):(bA T).pc aBv [v.row,w.row]=some [[.bool (v.eqv w)]]:=by
 rw[aRj]
 unfold aK6
 simp only[aUG v w hv hw hN,Option.bind_some,yA,oA,rA]
 have:=wA.aTC v w hv hw
 cases he:v.eqv w with
 |true=>rw[this.2 he];rfl
 |false=>
  have hne:¬v.cmp w=0:=fun h=>by rw[this.1 h]at he;cases he
  simp[hne]
theorem aWX (v w:wA) (hl:v.fs.length=w.fs.length) (hN:v.fs.length≤big) (hc:∀p∈v.fs,∀u:wA,(bA T).pc kP [p.2.row,u.row]=some [[.bool (p.2.eqv u)]]):∀(j i:Nat),i+j=v.fs.length→
 iY (bA T) (.dp w.row) v.fc (v.fs.length:Int) (i:Int)=if vZ aKr (v.fs.drop i) (w.fs.drop i)=true then some (0,[])else some (1,[.r [.bool false]])
 |0,i,h=>by
  rw[aD0]
  unfold jY
  have:¬(i:Int)<(v.fs.length:Int):=by omega
  rw[List.drop_eq_nil_of_le (by omega),List.drop_eq_nil_of_le (by omega)]
  simp[this,vZ]
 |j+1,i,h=>by
  rw[aD0]
  unfold jY
  have h1:i<v.fs.length:=by omega
  have h2:i<w.fs.length:=by omega
  have ih:=aWX v w hl hN hc j (i+1) (by omega)
  rw[List.drop_eq_getElem_cons h1,List.drop_eq_getElem_cons h2]
  have hcc:=hc _ (List.getElem_mem h1) (w.fs[i].2)
  have g1:(i:Int)<(v.fs.length:Int):=by omega
  have g2:(i:Int)<(w.fs.length:Int):=by omega
  have g0:(0:Int)≤(i:Int):=by omega
  simp only[wA.wQ,aE,vC,aA6,fC,List.length_map,Int.toNat_natCast,h1,h2,aV5,aV6,aV7,aV8,aV9,zA,aTz,hcc,lC (show i≤big by omega),ih,vZ,g1,g2,g0,decide_true,and_self,if_true,Option.bind_some,yA,oA,eA,aKr]
  by_cases hc:v.fs[i].1=w.fs[i].1
  ·simp only[hc,beq_self_eq_true,Bool.not_true,Bool.false_eq_true,if_false,Bool.true_and]
   cases he:v.fs[i].2.eqv w.fs[i].2<;>simp
  ·simp[hc]
theorem aQq (v w:wA) (hN:v.xC≤big):(bA T).pc kP [v.row,w.row]=some [[.bool (v.eqv w)]]:=by
 have aBZ:∀p∈v.fs,∀u:wA,(bA T).pc kP [p.2.row,u.row]=some [[.bool (p.2.eqv u)]]:=by
  intro p hp u
  have:=wA.oP hp
  have hb:=wA.aA5 hp
  exact aQq p.2 u (by omega)
 rw[aNK]
 unfold aGF
 rw[v.aSC]
 simp only[aLL,aOX,aOY,aA6,rA,zA,wA.wQ,List.length_map]
 by_cases h1:v.k=w.k
 ·by_cases h2:v.n=w.n
  ·by_cases h3:v.s=w.s
   ·by_cases h4:v.fs.length=w.fs.length
    ·have:=aWX v w h4 (by have:=v.aEO;omega) aBZ v.fs.length 0 (by omega)
     simp only[Int.ofNat_zero,Int.natCast_zero,List.drop_zero]at this
     have e4:((v.fs.length:Int) !=(w.fs.length:Int))=false:=by simp[h4]
     simp only[h1,h2,h3,e4,bne_self_eq_false,beq_self_eq_true,Bool.not_true,Bool.false_eq_true,if_false,Option.bind_some,oD,sC,wC,tC,fD,pH,cD,kC,oC,uC,dD,qH,aI,List.tail_cons,oA,eA,aE,if_true,vC,aA6,wA.wQ,List.length_map,this,Bool.true_and]
     cases vZ aKr v.fs w.fs<;>simp
    ·have e4:((v.fs.length:Int) !=(w.fs.length:Int))=true:=by simp;omega
     have e5:vZ aKr v.fs w.fs=false:=by
      cases h:vZ aKr v.fs w.fs
      ·rfl
      ·exact absurd (aTA h) h4
     simp[h1,h2,h3,e4,e5]
   ·simp[h1,h2,h3]
  ·simp[h1,h2]
 ·simp[h1]
 termination_by SizeOf.sizeOf v
end Go.Ev.oO
namespace Go.Ev.oO
theorem aZ1 (s:List UInt8) (hN:s.length≤big):∀(j i:Nat),i+j=s.length→
 jF (fun r=>r=(0,[])∨r=(1,[.r [.bool false]])) (aCV (bA T) (.sl (s.map yD)) (s.length:Int) (i:Int))
 |0,i,h=>by
  rw[aHd];unfold aCW
  have:¬(i:Int)<(s.length:Int):=by omega
  simp only[this,decide_false,Bool.false_eq_true,if_false]
  exact .some (.inl rfl)
 |j+1,i,h=>by
  rw[aHd];unfold aCW
  have hlt:(i:Int)<(s.length:Int):=by omega
  simp only[hlt,decide_true,if_true]
  refine .bind (R:=fun r=>r=(0,[.r [.sl (s.map yD)], .r [.int (s.length:Int)], .r [.int (i:Int)]])∨r=(1,[.r [.bool false]])) ?_ ?_
  ·refine .pos ⟨by omega,by simpa[C.rows]using hlt⟩ ?_
   repeat' (first |exact .some (.inl rfl)|exact .some (.inr rfl)|refine .ite (fun _=> ?_) fun _=> ?_)
  ·rintro r (rfl |rfl)
   ·simp only[kC,sC,oC,wC]
    rw[lC (by omega)]
    exact aZ1 s hN j (i+1) (by omega)
   ·exact .some (.inr rfl)
theorem aUH (s:List UInt8):∃b:Bool,(bA T).pc rH [[.str s]]=some [[.bool b]]:=by
 have:jF (fun r=>∃b:Bool,r=[[.bool b]]) ((bA T).pc rH [[.str s]]):=by
  rw[aRd];unfold aKY
  refine .bind (R:=fun r=>∃q:Bool,(q=false→s.length≤16)∧r=(0,[.r [.str s], .r [.bool q]])) ?_ ?_
  ·refine .ite (fun _=> ?_) fun hne=> ?_
   ·simp only[if_true];exact .some ⟨true,fun h=>(by cases h),rfl⟩
   have hpos:0<s.length:=by
    rcases s with _ |⟨a,s⟩
    ·simp at hne
    ·simp
   refine .ite (fun _=> ?_) fun h=> ?_
   ·simp only[if_true];exact .some ⟨true,fun h=>(by cases h),rfl⟩
   have h16:s.length≤16:=by have:=of_decide_eq_false (by simpa using h:decide ((s.length:Int)>16)=false);omega
   refine .pos ⟨by omega,by omega⟩ ?_
   refine .ite (fun _=> .some ⟨true,fun h=>(by cases h),rfl⟩) fun _=> .pos ⟨by omega,by omega⟩ (.some ⟨_,fun _=>h16,rfl⟩)
  rintro r ⟨q,hq,rfl⟩
  simp only[tC,uC,dD,List.length_map]
  refine .ite (fun _=> .some ⟨_,rfl⟩) fun h=> ?_
  refine .bind (aZ1 s (by have:=hq (by simpa using h);unfold big;omega) s.length 0 (by omega)) ?_
  rintro r (rfl |rfl)
  ·exact .some ⟨_,rfl⟩
  ·exact .some ⟨_,rfl⟩
 obtain ⟨r,h,b,rfl⟩:=this
 exact ⟨b,h⟩
noncomputable def nm (s:List UInt8):Bool:=(aUH s).choose
theorem aEJ (s:List UInt8):(bA T).pc rH [[.str s]]=some [[.bool (nm s)]]:=(aUH s).choose_spec
theorem aTm (p:Bytes×wA):([at_ (nD p) 1,at_ (nD p) 2,at_ (nD p) 3,at_ (nD p) 4]:Row)=p.2.row:=rfl
theorem dec_lt {i n:Nat} (h:i<n):decide ((i:Int)<(n:Int))=true:=decide_eq_true (by omega)
theorem rQ {n:Nat}:¬decide ((n:Int)<(n:Int))=true:=by simp
theorem vX {i:Nat} {rows:List Row} (h:i<rows.length):(0:Int)≤(i:Int)∧(i:Int)<(rows.length:Int):=⟨by omega,by omega⟩
abbrev aTn (x:Option (List Row)):Prop:=jF (fun r=>∃n:Int,r=[[.int n]]) x
theorem aWY (v:wA) (hN:v.fs.length≤big) (hc:∀p∈v.fs,aTn ((bA T).pc zX [p.2.row])):∀(j i:Nat) (a:Int),i+j=v.fs.length→
 jF (fun r=>∃n:Int,r=(0,[.r [.int n]])) (aCX (bA T) a v.fc (v.fs.length:Int) (i:Int))
 |0,i,a,h=>by
  rw[aHe];unfold aCY
  obtain rfl:i=v.fs.length:=by omega
  exact .ite (fun h=>absurd h rQ) fun _=> .some ⟨_,rfl⟩
 |j+1,i,a,h=>by
  rw[aHe];unfold aCY
  have hi:i<v.fs.length:=by omega
  refine .pos (dec_lt hi) (.pos (vX (by simpa using hi)) ?_)
  rw[v.wQ,Int.toNat_natCast,fC _ _ _ hi,aTm,lC (by omega)]
  refine .bind (hc _ (List.getElem_mem hi)) ?_
  rintro r ⟨n,rfl⟩
  exact aWY v hN hc j (i+1) _ (by omega)
theorem aSc (v:wA) (hN:v.xC≤big):aTn ((bA T).pc zX [v.row]):=by
 have aBZ:∀p∈v.fs,aTn ((bA T).pc zX [p.2.row]):=fun p hp=>by
  have:=wA.oP hp
  have hb:=wA.aA5 hp
  exact aSc p.2 (by omega)
 rw[aRe];unfold aKZ
 simp only[aA6,wA.wQ,List.length_map]
 refine .bind (aWY v (by have:=v.aEO;omega) aBZ v.fs.length 0 1 (by omega)) ?_
 rintro r ⟨n,rfl⟩
 exact .some ⟨_,rfl⟩
 termination_by SizeOf.sizeOf v
theorem aWZ (v:wA) (hN:v.fs.length≤big) (hc:∀p∈v.fs,aTn ((bA T).pc aY [p.2.row])):∀(j i:Nat) (a:Int),i+j=v.fs.length→
 jF (fun r=>∃n:Int,r=(0,[.r [.int n]])) (aCZ (bA T) a v.fc (v.fs.length:Int) (i:Int))
 |0,i,a,h=>by
  rw[aHf];unfold aC0
  obtain rfl:i=v.fs.length:=by omega
  exact .ite (fun h=>absurd h rQ) fun _=> .some ⟨_,rfl⟩
 |j+1,i,a,h=>by
  rw[aHf];unfold aC0
  have hi:i<v.fs.length:=by omega
  refine .pos (dec_lt hi) (.pos (vX (by simpa using hi)) ?_)
  rw[v.wQ,Int.toNat_natCast,fC _ _ _ hi,aTm,lC (by omega)]
  refine .bind (hc _ (List.getElem_mem hi)) ?_
  rintro r ⟨n,rfl⟩
  exact aWZ v hN hc j (i+1) _ (by omega)
theorem aSd (v:wA) (hN:v.xC≤big):aTn ((bA T).pc aY [v.row]):=by
 have aBZ:∀p∈v.fs,aTn ((bA T).pc aY [p.2.row]):=fun p hp=>by
  have:=wA.oP hp
  have hb:=wA.aA5 hp
  exact aSd p.2 (by omega)
 rw[aRf];unfold aK0
 simp only[aA6,wA.wQ,List.length_map]
 refine .bind (aWZ v (by have:=v.aEO;omega) aBZ v.fs.length 0 0 (by omega)) ?_
 rintro r ⟨n,rfl⟩
 exact .some ⟨_,rfl⟩
 termination_by SizeOf.sizeOf v
def aZ2 (k:Int):Bool:=(decide (k≥1)&&decide (k≤4))||k==11
def aVT (k:Int):Bool:=(decide (k≥0)&&decide (k≤5))||k==11
def dQ (v:wA):Bool:=(!aZ2 v.k&&v.n !=0)||(v.k !=5&& !(v.s==[]))||(aVT v.k&&decide ((v.fs.length:Int)>0))
theorem aUI (k:Int):(bA T).pc aBe [[.int k]]=some [[.bool (aVT k)]]:=by
 rw[aOH];unfold aIc aVT
 by_cases h:k≥0
 ·by_cases h2:k≤5
  ·simp[h,h2]
  ·simp[h,h2]
 ·simp[h]
theorem jF.eq {β:Type} {x:Option β} {y:β} (h:jF (fun r=>r=y) x):x=Option.some y:=by
 obtain ⟨r,e,rfl⟩:=h;exact e
theorem aUJ (v:wA):(bA T).pc aBl [v.row]=some [[.bool (dQ v)]]:=by
 refine jF.eq ?_
 rw[aOI];unfold aId
 refine .bind (R:=fun r=>r=(0,[.r [.dp v.row], .r [.bool (aZ2 v.k)]])) ?_ ?_
 ·simp only[aLL,rA]
  unfold aZ2
  by_cases h:v.k≥1
  ·by_cases h2:v.k≤4
   ·simp only[h,h2,decide_true,if_true];exact .some rfl
   ·simp only[h,h2,decide_true,decide_false,if_true,Bool.false_eq_true,if_false];exact .some rfl
  ·simp only[h,decide_false,if_true,Bool.false_eq_true,if_false];exact .some rfl
 rintro r rfl
 simp only[tC,uC,kC,vC,aE,if_true,aLL,aOX,aOY,aA6,rA,zA,wA.wQ,List.length_map]
 unfold dQ
 have fin:∀a f:Bool,jF (fun r:List Row=>r=[[C.bool (a ||(aVT v.k&&f))]]) (if a=true then some [[C.bool true]]else ((bA T).pc aBe [[C.int v.k]]).bind fun y12=>if (at_ (aA y12 0) 0).lK=true then some [[C.bool f]]else some [[C.bool false]]):=by
  intro a f
  cases a
  ·refine .lA (aUI v.k) ?_
   simp only[yA,oA,eA]
   cases aVT v.k
   ·exact .some rfl
   ·exact .some rfl
  ·exact .some rfl
 generalize aZ2 v.k=a
 generalize (v.n !=0)=b
 generalize (v.k !=5)=c
 generalize (v.s==[])=d
 generalize decide ((v.fs.length:Int)>0)=f at fin⊢
 cases a<;>cases b<;>cases c<;>cases d<;>first |exact .some rfl |exact fin false f
theorem aVU (v:wA):jF (fun r=>∃b:Bool,r=[[.bool b]]) ((bA T).pc aEW [v.row]):=by
 rw[aOJ];unfold aIe
 repeat' (first |exact .some ⟨_,rfl⟩|refine .ite (fun _=> ?_) fun _=> ?_)
theorem aOO (c0:C) (c:Row) (h0:c0.rows.length≤big):jF (fun r=>∃b:Bool,r=[[.bool b]]) ((bA T).pc dI [[c0],[.fn oL [.dp c]]]):=by
 rw[aBX];unfold yJ
 have:aTn ((bA T).pc nL [[c0],[.fn oL [.dp c]]]):=by
  rw[aDt];unfold qN
  refine .bind (R:=fun r=>r=(0,[])∨∃n:Int,r=(1,[.r [.int n]])) ?_ ?_
  ·have key:∀(j i:Nat),i+j=c0.rows.length→
    jF (fun r=>r=(0,[])∨∃n:Int,r=(1,[.r [.int n]])) (rF (bA T) c0 (.fn oL [.dp c]) (c0.rows.length:Int) (i:Int)):=by
    intro j
    induction j with
    |zero=>
     intro i h
     rw[cQ];unfold sF
     obtain rfl:i=c0.rows.length:=by omega
     exact .ite (fun h=>absurd h rQ) fun _=> .some (.inl rfl)
    |succ j ih=>
     intro i h
     rw[cQ];unfold sF
     have hi:i<c0.rows.length:=by omega
     refine .pos (dec_lt hi) (.pos (vX hi) ?_)
     have e:aKj (bA T) (.fn oL [.dp c]) [aA c0.rows (i:Int).toNat]=some [[.bool (((at_ (aA c0.rows (i:Int).toNat) 0).mD)==((at_ c 0).mD))]]:=by
      show (bA T).pc oL [aA c0.rows (i:Int).toNat,[.dp c]]=_
      rw[aNE];unfold aF8
      simp only[aE,if_true,vC]
     refine .lA e ?_
     rw[lC (show i≤big by omega)]
     exact .ite (fun _=> .some (.inr ⟨_,rfl⟩)) fun _=>ih (i+1) (by omega)
   exact key _ 0 (Nat.zero_add _)
  rintro r (rfl |⟨n,rfl⟩)
  ·exact .some ⟨_,rfl⟩
  ·exact .some ⟨_,rfl⟩
 refine .bind this ?_
 rintro r ⟨n,rfl⟩
 exact .some ⟨_,rfl⟩
theorem aZ3 (c:C) (i:Nat) (h:i≤c.rows.length):(aKG c 0 (i:Int)).rows.length=i:=by
 have h0:(C.rows c).length=c.rows.length:=rfl
 unfold aKG
 split
 ·simp[C.rows]at h⊢;omega
 ·simp[C.rows]at h⊢
  split<;>simp_all
theorem aVV (c:C) (h0:c.rows.length≤big):aTn ((bA T).pc j0 [[c]]):=by
 rw[aP6];unfold aJr
 refine .bind (R:=fun r=>r=(0,[])∨∃n:Int,r=(1,[.r [.int n]])) ?_ ?_
 ·have key:∀(j i:Nat),i+j=c.rows.length→jF (fun r=>r=(0,[])∨∃n:Int,r=(1,[.r [.int n]])) (aBh (bA T) c c (c.rows.length:Int) (i:Int)):=by
   intro j
   induction j with
   |zero=>
    intro i h
    rw[aFN];unfold aBi
    obtain rfl:i=c.rows.length:=by omega
    exact .ite (fun h=>absurd h rQ) fun _=> .some (.inl rfl)
   |succ j ih=>
    intro i h
    rw[aFN];unfold aBi
    have hi:i<c.rows.length:=by omega
    refine .pos (dec_lt hi) (.pos (vX hi) ?_)
    refine .lA (aEJ _) ?_
    refine .ite (fun _=> .some (.inr ⟨_,rfl⟩)) fun _=> ?_
    refine .pos ⟨by omega,by omega,by omega⟩ ?_
    refine .bind (aOO _ _ (by rw[aZ3 c i (by omega)];omega)) ?_
    rintro r ⟨b,rfl⟩
    rw[lC (show i≤big by omega)]
    exact .ite (fun _=> .some (.inr ⟨_,rfl⟩)) fun _=>ih (i+1) (by omega)
  exact key _ 0 (Nat.zero_add _)
 rintro r (rfl |⟨n,rfl⟩)
 ·exact .some ⟨_,rfl⟩
 ·exact .some ⟨_,rfl⟩
theorem aX0 (p:Row) (h0:(at_ p 3).rows.length≤big):aTn ((bA T).pc aBk [p]):=by
 rw[aRg];unfold aK1
 refine .bind (R:=fun r=>r=(0,[])∨∃n:Int,r=(1,[.r [.int n]])) ?_ ?_
 ·have key:∀(j i:Nat),i+j=(at_ p 3).rows.length→jF (fun r=>r=(0,[])∨∃n:Int,r=(1,[.r [.int n]])) (aC2 (bA T) (.dp p) (at_ p 3) ((at_ p 3).rows.length:Int) (i:Int)):=by
   intro j
   induction j with
   |zero=>
    intro i h
    rw[aHg];unfold aC3
    obtain rfl:i=(at_ p 3).rows.length:=by omega
    exact .ite (fun h=>absurd h rQ) fun _=> .some (.inl rfl)
   |succ j ih=>
    intro i h
    rw[aHg];unfold aC3
    have hi:i<(at_ p 3).rows.length:=by omega
    refine .pos (dec_lt hi) ?_
    refine .bind (R:=fun r=>r=(0,[.r [.dp p], .r [at_ p 3], .r [.int ((at_ p 3).rows.length:Int)], .r [.int (i:Int)]])∨∃n:Int,r=(1,[.r [.int n]])) ?_ ?_
    ·refine .pos (vX hi) ?_
     refine .bind (R:=fun r=>∃(q:Bool) (w:Row),r=(0,[.r [.dp p], .r [.int (i:Int)], .r [at_ p 3], .r [.int ((at_ p 3).rows.length:Int)], .r [.int (i:Int)], .r [.bool q], .r w])) ?_ ?_
     ·simp only[aE,if_true]
      exact .ite (fun _=> .some ⟨_,_,rfl⟩) fun _=> .some ⟨_,_,rfl⟩
     rintro r ⟨q,w,rfl⟩
     simp only[tC,uC,sC,kC,wC,oC,aE,if_true,vC]
     refine .ite (fun _=> .some (.inr ⟨_,rfl⟩)) fun _=> .ite (fun _=> .some (.inl rfl)) fun _=> .ite (fun _=> .some (.inr ⟨_,rfl⟩)) fun _=> ?_
     refine .ite (fun hpos=> ?_) fun _=> ?_
     ·have hp:(0:Int)<(i:Int):=of_decide_eq_true hpos
      have ew:IntKind.wrap .i64 ((i:Int) - 1)=(i:Int) - 1:=yF (by omega) (by unfold big at h0;omega)
      refine .pos (by rw[ew];omega) ?_
      exact .ite (fun _=> .some (.inr ⟨_,rfl⟩)) fun _=> .some (.inl rfl)
     ·exact .ite (fun _=> .some (.inr ⟨_,rfl⟩)) fun _=> .some (.inl rfl)
    rintro r (rfl |⟨n,rfl⟩)
    ·simp only[sC,kC,wC,oC]
     rw[lC (show i≤big by omega)]
     exact ih (i+1) (by omega)
    ·exact .some (.inr ⟨_,rfl⟩)
  exact key _ 0 (Nat.zero_add _)
 rintro r (rfl |⟨n,rfl⟩)
 ·exact .some ⟨_,rfl⟩
 ·exact .some ⟨_,rfl⟩
inductive VOk:wA→Prop where
 |mk {v:wA}:0≤v.k→v.k<12→v.k≠10→dQ v=false→(v.k=7→v.fs.length=1)→(∀p∈v.fs,VOk p.2)→VOk v
theorem aUK (v:wA) (h0:v.fs.length≤big):jF (fun r=>∃n:Int,r=[[.int n]]∧(n=0→v.k=7→v.fs.length=1)) ((bA T).pc aEX [v.row]):=by
 rw[aOK];unfold aIf
 have h1:(at_ v.row 3).rows.length≤big:=by rw[aA6,wA.wQ,List.length_map];exact h0
 have ek:(at_ v.row 0).vA=v.k:=rfl
 have el:(at_ v.row 3).rows.length=v.fs.length:=by rw[aA6,wA.wQ,List.length_map]
 rw[ek,el]
 have kn:∀{f:List Row→Option (List Row)} {Q:Int→Prop},(∀r,∃n:Int,f r=some [[.int n]]∧Q n)→jF (fun r=>∃n:Int,r=[[.int n]]∧Q n) (((bA T).pc j0 [[at_ v.row 3]]).bind f):=fun hf=> .bind (aVV _ h1) fun r _=>by obtain ⟨n,e,q⟩:=hf r;rw[e];exact .some ⟨n,rfl,q⟩
 have kk:∀{f:List Row→Option (List Row)} {Q:Int→Prop},(∀r,∃n:Int,f r=some [[.int n]]∧Q n)→jF (fun r=>∃n:Int,r=[[.int n]]∧Q n) (((bA T).pc aBk [v.row]).bind f):=fun hf=> .bind (aX0 _ h1) fun r _=>by obtain ⟨n,e,q⟩:=hf r;rw[e];exact .some ⟨n,rfl,q⟩
 refine .ite (fun h=> ?_) fun _=> .ite (fun h=> ?_) fun _=> .ite (fun h=> ?_) fun h7=> ?_
 ·have:v.k≠7:=by simp at h;omega
  exact .ite (fun _=> .some ⟨_,rfl,fun _ q=>absurd q this⟩) fun _=> .some ⟨_,rfl,fun _ q=>absurd q this⟩
 ·have:v.k≠7:=by simp at h;omega
  exact .ite (fun _=> .some ⟨_,rfl,fun _ q=>absurd q this⟩) fun _=>kn fun r=>⟨_,rfl,fun _ q=>absurd q this⟩
 ·exact .ite (fun _=> .some ⟨3,rfl,fun q=>by cases q⟩) fun c=>kn fun r=>⟨_,rfl,fun _ _=>by simp at c;omega⟩
 ·have:v.k≠7:=by simpa using h7
  refine .ite (fun _=> .ite (fun _=> .ite (fun _=> .some ⟨_,rfl,fun _ q=>absurd q this⟩) fun _=>kk fun r=>⟨_,rfl,fun _ q=>absurd q this⟩) fun _=> .some ⟨_,rfl,fun _ q=>absurd q this⟩) fun _=> ?_
  exact .ite (fun _=> .ite (fun _=> .some ⟨_,rfl,fun _ q=>absurd q this⟩) fun _=>kk fun r=>⟨_,rfl,fun _ q=>absurd q this⟩) fun _=> .some ⟨_,rfl,fun _ q=>absurd q this⟩
theorem aW0 (v:wA) (hN:v.fs.length≤big) (hc:∀p∈v.fs,jF (fun r=>∃n:Int,r=[[.int n]]∧(n=0→VOk p.2)) ((bA T).pc aT [p.2.row,[.bool false]])):∀(j i:Nat),i+j=v.fs.length→
 jF (fun r=>(r=(0,[])∧∀p∈v.fs.drop i,VOk p.2)∨∃n:Int,n≠0∧r=(1,[.r [.int n]])) (aC4 (bA T) v.fc (v.fs.length:Int) (i:Int))
 |0,i,h=>by
  rw[aHh];unfold aC5
  obtain rfl:i=v.fs.length:=by omega
  exact .ite (fun h=>absurd h rQ) fun _=> .some (.inl ⟨rfl,fun p hp=>by simp at hp⟩)
 |j+1,i,h=>by
  rw[aHh];unfold aC5
  have hi:i<v.fs.length:=by omega
  refine .pos (dec_lt hi) (.pos (vX (by simpa using hi)) ?_)
  rw[v.wQ,Int.toNat_natCast,fC _ _ _ hi,aTm,lC (by omega)]
  refine .bind (hc _ (List.getElem_mem hi)) ?_
  rintro r ⟨n,rfl,hn⟩
  refine .ite (fun c=> .some (.inr ⟨n,by simpa using c,rfl⟩)) fun c=>(aW0 v hN hc j (i+1) (by omega)).mono ?_
  rintro r (⟨rfl,hr⟩|hr)
  ·refine .inl ⟨rfl,fun p hp=> ?_⟩
   rw[List.drop_eq_getElem_cons hi]at hp
   rcases List.mem_cons.1 hp with rfl |hp
   ·exact hn (by simpa using c)
   ·exact hr p hp
  ·exact .inr hr
theorem aSe (v:wA) (b:Bool) (hN:v.xC≤big):jF (fun r=>∃n:Int,r=[[.int n]]∧(n=0→VOk v)) ((bA T).pc aT [v.row,[.bool b]]):=by
 have aBZ:∀p∈v.fs,jF (fun r=>∃n:Int,r=[[.int n]]∧(n=0→VOk p.2)) ((bA T).pc aT [p.2.row,[.bool false]]):=fun p hp=>by
  have:=wA.oP hp
  have hb:=wA.aA5 hp
  exact aSe p.2 false (by omega)
 have hlen:v.fs.length≤big:=by have:=v.aEO;omega
 rw[aRh];unfold aK2
 refine .bind (R:=fun r=>(r=(0,[.r [.dp v.row]])∧0≤v.k∧v.k<12∧v.k≠10∧dQ v=false)∨∃n:Int,n≠0∧r=(1,[.r [.int n]])) ?_ ?_
 ·refine .bind (R:=fun r=>∃q:Bool,r=(0,[.r [.dp v.row], .r [.bool q]])∧(q=false→0≤v.k∧v.k<12∧v.k≠10∧dQ v=false)) ?_ ?_
  ·have ek:(at_ v.row 0).vA=v.k:=rfl
   rw[ek]
   have fin:(0≤v.k∧v.k<12∧v.k≠10)→jF (fun r=>∃q:Bool,r=(0,[.r [.dp v.row], .r [.bool q]])∧(q=false→0≤v.k∧v.k<12∧v.k≠10∧dQ v=false)) (((bA T).pc aBl [v.row]).bind fun y9=>some ((0:Nat),([.r [.dp v.row], .r [.bool (at_ (aA y9 0) 0).lK]]:List PV))):=fun hk=>
    .lA (aUJ v) (.some ⟨dQ v,rfl,fun h=>⟨hk.1,hk.2.1,hk.2.2,h⟩⟩)
   have k0:¬decide (v.k<0)=true→0≤v.k:=fun h=>by simpa using h
   have k1:¬decide (v.k≥12)=true→v.k<12:=fun h=>by simpa using h
   have k2:¬(v.k==10)=true→v.k≠10:=fun h=>by simpa using h
   repeat' (first |exact .some ⟨true,rfl,fun h=>by cases h⟩|exact fin ⟨k0 ‹_›,k1 ‹_›,k2 ‹_›⟩|refine .ite (fun _=> ?_) fun _=> ?_)
  rintro r ⟨q,rfl,hq⟩
  simp only[tC,uC,kC,aE,if_true,vC]
  refine .ite (fun _=> .some (.inr ⟨3,by decide,rfl⟩)) fun h=> ?_
  refine .bind (aVU v) ?_
  rintro r ⟨b',rfl⟩
  exact .ite (fun _=> .some (.inr ⟨11,by decide,rfl⟩)) fun _=> .some (.inl ⟨rfl,hq (by simpa using h)⟩)
 rintro r (⟨rfl,hu1,hu2,hu3,hu4⟩|⟨n,hn,rfl⟩)
 ·simp only[kC,aE,if_true,vC]
  refine .bind (aUK v hlen) ?_
  rintro r ⟨n,rfl,hf⟩
  refine .ite (fun c=> .some ⟨n,rfl,fun h=>by subst h;simp at c⟩) fun c=> ?_
  simp only[aA6,wA.wQ,List.length_map]
  refine .bind (aW0 v hlen aBZ v.fs.length 0 (by omega)) ?_
  rintro r (⟨rfl,hr⟩|⟨n,hn,rfl⟩)
  ·exact .some ⟨_,rfl,fun _=> .mk hu1 hu2 hu3 hu4 (hf (by simpa using c)) hr⟩
  ·exact .some ⟨_,rfl,fun h=>absurd h hn⟩
 ·exact .some ⟨n,rfl,fun h=>absurd h hn⟩
 termination_by SizeOf.sizeOf v
theorem aSf (v:wA) (hN:v.xC≤big):∃n:Int,(bA T).pc mH [v.row]=some [[.int n]]∧(n=0→VOk v):=by
 have:jF (fun r=>∃n:Int,r=[[.int n]]∧(n=0→VOk v)) ((bA T).pc mH [v.row]):=by
  rw[aP7];unfold aJs
  refine .bind (aSc v hN) ?_
  rintro r ⟨n,rfl⟩
  have fin:∀q:Bool,jF (fun r=>∃n:Int,r=[[.int n]]∧(n=0→VOk v)) (if q=true then some [[C.int 2]]else ((bA T).pc aT [v.row,[.bool true]]).bind fun y4=>some [[C.int (at_ (aA y4 0) 0).vA]]):=by
   intro q
   refine .ite (fun _=> .some ⟨2,rfl,fun h=>by cases h⟩) fun _=> .bind (aSe v true hN) ?_
   rintro r ⟨n,rfl,h⟩
   exact .some ⟨n,rfl,h⟩
  refine .ite (fun _=> .some ⟨2,rfl,fun h=>by cases h⟩) fun _=> .bind (aSd v hN) ?_
  rintro r ⟨n,rfl⟩
  exact fin _
 obtain ⟨r,h,n,rfl,h2⟩:=this
 exact ⟨n,h,h2⟩
theorem VOk.unused {v:wA} (h:VOk v):dQ v=false:=by cases h;assumption
theorem aVW (v:wA) (hN:v.xC≤big):∃n:Int,(bA T).pc mH [v.row]=some [[.int n]]∧(n=0→dQ v=false):=by
 obtain ⟨n,h1,h2⟩:=aSf v hN
 exact ⟨n,h1,fun h=>(h2 h).unused⟩
end Go.Ev.oO
