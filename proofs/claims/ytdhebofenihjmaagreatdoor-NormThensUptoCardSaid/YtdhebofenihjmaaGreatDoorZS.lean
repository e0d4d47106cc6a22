/-
  A part of the proof: what the functions of the program compute.
-/
import Derived.Test.YtdhebofenihjmaaGreatDoorZEq
import Derived.Test.YtdhebofenihjmaaGreatDoorEvDa
set_option linter.all false
set_option maxRecDepth 100000
namespace Go.Ev.dJ
theorem iK {n:Int} (h0:0≤n) (h1:n≤1000000000000):Go.IntKind.wrap .i64 n=n:=wrap_i64 ⟨by omega,by omega⟩
theorem aZE {n:Int} (h0:0≤n) (h1:n<256):Go.IntKind.wrap .u8 n=n:=by
 rw[IntKind.wrap_u8];omega
theorem aPV {i:Int} (h0:0≤i) (h1:i<256):0≤i.tdiv 64∧i.tdiv 64<4:=by
 rw[Int.tdiv_eq_ediv_of_nonneg h0];omega
theorem aPW {i:Int} (h0:0≤i):¬i.tmod 64<0:=by
 have:=Int.tmod_nonneg 64 h0;omega
theorem a05 (k:IntKind):aEN [.int k] [.int k]=true:=by simp[aEN,K.beq]
theorem bCv {ks:List K} {off:Nat} {k:K} (h:ks[off]? =some k):(ks.drop off).take 1=[k]:=by
 have hl:off<ks.length:=(List.getElem?_eq_some_iff.1 h).1
 rw[List.drop_eq_getElem_cons hl]
 have:ks[off]=k:=by rw[List.getElem?_eq_getElem hl]at h;simpa using h
 simp[this]
theorem aN0 {A:Type} {k:IntKind} {ks:List K} {off:Nat} {r:Row} {f:Row→Option A} (h:ks[off]? =some (.int k)):
 part (.one (.int k)) (.agg ks) off r f=f (nrm (.one (.int k)) (sub r off 1)):=by
 unfold part
 have e:(Nat.beq off 0&&L.beq (.one (.int k)) (.agg ks))=false:=by simp[L.beq]
 rw[e]
 simp only[L.ks,L.n,List.length_singleton,bCv h,a05,check]
theorem aKP {A:Type} {k:IntKind} {ks:List K} {off:Nat} {r row:Row} {f:Row→Option A} (h:ks[off]? =some (.int k)):
 aFk (.one (.int k)) (.agg ks) off r row f=f (put r off 1 row 0 ks.length):=by
 unfold aFk
 have e:(Nat.beq off 0&&L.beq (.one (.int k)) (.agg ks))=false:=by simp[L.beq]
 rw[e]
 simp only[L.ks,L.n,List.length_singleton,bCv h,a05,check]
theorem four {i:Int} (h0:0≤i) (h1:i<4):i=0∨i=1∨i=2∨i=3:=by omega
theorem aZF (c:C) (hc:c.xA=true) {i:Int} (h0:0≤i) (h1:i<256):∃b,(eA T).pc vO [[c],[.int i]]=some [[.bool b]]:=by
 rw[aPM]
 unfold aFp
 obtain ⟨a,b⟩:=aPV h0 h1
 rw[iK a (by omega)]
 simp only[hc,a,b,and_self,if_true,if_neg (aPW h0)]
 exact ⟨_,rfl⟩
theorem a5C (c:C) (hc:c.xA=true) {i:Int} (h0:0≤i) (h1:i<256):∃b,(eA T).pc s7 [[c],[.int i]]=some [[.bool b]]:=by
 rw[aNN]
 unfold aCp
 obtain ⟨a,b⟩:=aPV h0 h1
 rw[aZE a (by omega)]
 simp only[hc,a,b,and_self,if_true,if_neg (aPW h0)]
 exact ⟨_,rfl⟩
theorem a8y {i:Int} (h0:0≤i) (h1:i<256) (r:Row):∃r',(eA T).ic dX [.r [.int i],.r r]=some [.r r']:=by
 rw[aM3]
 unfold aBc
 obtain ⟨a,b⟩:=aPV h0 h1
 rw[iK a (by omega)]
 simp only[a,b,and_self,if_true,if_neg (aPW h0)]
 rcases four a b with h |h |h |h<;>rw[h]<;>rw[aN0 (by rfl),aKP (by rfl)]<;>exact ⟨_,rfl⟩
theorem a5D {i:Int} (h0:0≤i) (h1:i<256) (r:Row):∃r',(eA T).ic dU [.r [.int i],.r r]=some [.r r']:=by
 rw[aMo]
 unfold j7
 obtain ⟨a,b⟩:=aPV h0 h1
 rw[iK a (by omega)]
 simp only[a,b,and_self,if_true,if_neg (aPW h0)]
 rcases four a b with h |h |h |h<;>rw[h]<;>rw[aN0 (by rfl),aKP (by rfl)]<;>exact ⟨_,rfl⟩
theorem a5E {i:Int} (h0:0≤i) (h1:i<256) (r:Row):∃r',(eA T).ic eU [.r [.int i],.r r]=some [.r r']:=by
 rw[aMp]
 unfold n7
 obtain ⟨a,b⟩:=aPV h0 h1
 rw[iK a (by omega)]
 simp only[a,b,and_self,if_true,if_neg (aPW h0)]
 rcases four a b with h |h |h |h<;>rw[h]<;>rw[aN0 (by rfl),aKP (by rfl)]<;>exact ⟨_,rfl⟩
theorem a5F {p:Int} {i:Int} (hp0:0≤p) (hp1:p≤1020) (h0:0≤i) (h1:i<256) (r:Row):∃r',(eA T).ic fU [.r [.int p],.r [.int i],.r r]=some [.r r']:=by
 rw[aMq]
 unfold o7
 obtain ⟨a,b⟩:=aPV h0 h1
 rw[iK a (by omega)]
 simp only[a,b,and_self,if_true,if_neg (aPW h0)]
 have hk:(List.replicate 1024 (K.int .u64))[p.toNat+(i.tdiv 64).toNat*1]? =some (.int .u64):=by
  rw[List.getElem?_replicate,if_pos (by omega)]
 rw[aN0 hk,aKP hk]
 exact ⟨_,rfl⟩
theorem aSz {i:Int} (h0:0≤i) (h1:i<256) (r:Row):∃r',(eA T).ic lE [.r [.int i],.r r]=some [.r r']:=by
 rw[aJR]
 unfold cU
 obtain ⟨a,b⟩:=aPV h0 h1
 rw[aZE a (by omega)]
 simp only[a,b,and_self,if_true,if_neg (aPW h0)]
 rcases four a b with h |h |h |h<;>rw[h]<;>rw[aN0 (by rfl),aKP (by rfl)]<;>exact ⟨_,rfl⟩
theorem k4 {i:Int} (h0:0≤i) (h4:i<4):([.int .u64,.int .u64,.int .u64,.int .u64]:List K)[0+(i.toNat*1)]? =some (.int .u64):=by
 rcases four h0 h4 with rfl |rfl |rfl |rfl<;>rfl
theorem k91 {i:Int} (h0:0≤i) (h4:i<4):([.bool,.int .u64,.int .u64,.int .u64,.int .u64,.int .u64,.int .u64,.int .u64,.int .u64]:List K)[1+(i.toNat*1)]? =some (.int .u64):=by
 rcases four h0 h4 with rfl |rfl |rfl |rfl<;>rfl
theorem k95 {i:Int} (h0:0≤i) (h4:i<4):([.bool,.int .u64,.int .u64,.int .u64,.int .u64,.int .u64,.int .u64,.int .u64,.int .u64]:List K)[5+(i.toNat*1)]? =some (.int .u64):=by
 rcases four h0 h4 with rfl |rfl |rfl |rfl<;>rfl
theorem a8z:∀(j:Nat) (i:Int) (r:Row),0≤i→i+j=4→∃r',jJ (eA T) i r=some (0,[.r r'])
 |0,i,r,h0,h=>by
  rw[kW];unfold kJ
  obtain rfl:i=4:=by omega
  exact ⟨_,rfl⟩
 |j+1,i,r,h0,h=>by
  rw[kW];unfold kJ
  have h4:i<4:=by omega
  simp only[h0,h4,decide_true,and_self,if_true]
  rw[aN0 (k4 h0 h4),aKP (k4 h0 h4),iK (by omega) (by omega)]
  exact a8z j (i+1) _ (by omega) (by omega)
theorem aVJ (r:Row):∃r',(eA T).ic sK [.r r]=some [.r r']:=by
 rw[aJQ];unfold bU
 obtain ⟨r',h⟩:=a8z 4 0 r (by omega) (by omega)
 rw[h];exact ⟨_,rfl⟩
theorem a06 (c:Row):∀(j:Nat) (i:Int) (r:Row),0≤i→i+j=4→∃r',xK (eA T) (.dp c) i r=some (0,[.r r'])
 |0,i,r,h0,h=>by
  rw[oX];unfold yK
  obtain rfl:i=4:=by omega
  exact ⟨_,rfl⟩
 |j+1,i,r,h0,h=>by
  rw[oX];unfold yK
  have h4:i<4:=by omega
  simp only[h0,h4,decide_true,dB,and_self,if_true]
  rw[aN0 (k91 h0 h4),aKP (k91 h0 h4),iK (by omega) (by omega)]
  exact a06 c j (i+1) _ (by omega) (by omega)
theorem aVK (c r:Row):∃r',(eA T).ic sH [.r c,.r r]=some [.r r']:=by
 rw[aKB];unfold xW
 obtain ⟨r',h⟩:=a06 c 4 0 r (by omega) (by omega)
 rw[h];exact ⟨_,rfl⟩
theorem a07 (c:Row):∀(j:Nat) (i:Int) (r:Row),0≤i→i+j=4→∃r',aL (eA T) (.dp c) i r=some (0,[.r r'])
 |0,i,r,h0,h=>by
  rw[qX];unfold bL
  obtain rfl:i=4:=by omega
  exact ⟨_,rfl⟩
 |j+1,i,r,h0,h=>by
  rw[qX];unfold bL
  have h4:i<4:=by omega
  simp only[h0,h4,decide_true,dB,and_self,if_true]
  rw[aN0 (k95 h0 h4),aKP (k95 h0 h4),iK (by omega) (by omega)]
  exact a07 c j (i+1) _ (by omega) (by omega)
theorem aVL (c r:Row):∃r',(eA T).ic tH [.r c,.r r]=some [.r r']:=by
 rw[aKC];unfold yW
 obtain ⟨r',h⟩:=a07 c 4 0 r (by omega) (by omega)
 rw[h];exact ⟨_,rfl⟩
theorem a08 (c:Row):∀(j:Nat) (i:Int) (r:Row),0≤i→i+j=4→∃r',dL (eA T) (.dp c) i r=some (0,[.r r'])
 |0,i,r,h0,h=>by
  rw[rX];unfold eL
  obtain rfl:i=4:=by omega
  exact ⟨_,rfl⟩
 |j+1,i,r,h0,h=>by
  rw[rX];unfold eL
  have h4:i<4:=by omega
  simp only[h0,h4,decide_true,dB,and_self,if_true]
  rw[aN0 (k4 h0 h4),aKP (k4 h0 h4),iK (by omega) (by omega)]
  exact a08 c j (i+1) _ (by omega) (by omega)
theorem a2Z (c r:Row):∃r',(eA T).ic rS [.r c,.r r]=some [.r r']:=by
 rw[aKD];unfold zW
 obtain ⟨r',h⟩:=a08 c 4 0 r (by omega) (by omega)
 rw[h];exact ⟨_,rfl⟩
abbrev st (s:List UInt8) (a:Int) (b:Bool) (q0 q1 q2 q3 q4 q5 q6 q7:Int) (f:Bool) (c o:C):List PV:=
 [.r [.str s],.r [.int a],.r [.bool b],.r [.int q0],.r [.int q1],.r [.int q2],.r [.int q3],.r [.int q4],.r [.int q5],.r [.int q6],.r [.int q7],.r [.bool f],.r [c],.r [o]]
section
variable (s:List UInt8) (b:Bool) (q0 q1 q2 q3 q4 q5 q6 q7:Int)
theorem a09 (c:Row) (x:Int) (a:Int) (f:Bool) (cl:C) (hx:0≤x):∀(j:Nat) (i:Int) (o:C),0≤i→i+j=4→x.toNat<o.rows.length→∃o',o'.rows.length=o.rows.length∧uK (eA T) [.int x,.int 0] (.dp c) i o s a b q0 q1 q2 q3 q4 q5 q6 q7 f cl=some (0,.r [o']::(st s a b q0 q1 q2 q3 q4 q5 q6 q7 f cl o').take 13)
 |0,i,o,h0,h,hl=>by
  rw[nX];unfold vK
  obtain rfl:i=4:=by omega
  exact ⟨o,rfl,rfl⟩
 |j+1,i,o,h0,h,hl=>by
  rw[nX];unfold vK
  have h4:i<4:=by omega
  have e0:((at_ ([.int x,.int 0]:Row) 0).uA).toNat=x.toNat:=rfl
  have e1:((at_ ([.int x,.int 0]:Row) 1).uA).toNat=0:=rfl
  simp only[h0,h4,decide_true,dB,and_self,if_true,e0,e1,hl]
  rw[aN0 (k4 h0 h4),aKP (k4 h0 h4),iK (by omega) (by omega)]
  have ex:((x.toNat:Nat):Int)=x:=by omega
  obtain ⟨o',g1,g2⟩:=a09 c x a f cl hx j (i+1) (.sl (o.rows.set x.toNat (put (aA o.rows x.toNat) (0+i.toNat*1) 1 [.int (bitsOf .or .u64 ((at_ (nrm (.one (.int .u64)) (sub (aA o.rows x.toNat) (0+i.toNat*1) 1)) 0).uA) ((at_ c (i.toNat*1)).uA))] 0 4))) (by omega) (by omega) (by simpa[C.rows]using hl)
  refine ⟨o',by rw[g1];simp[C.rows], ?_⟩
  rw[ex]
  exact g2
theorem a22 (c:Row) (x:Int) (a:Int) (f:Bool) (cl o:C) (hx:0≤x) (hl:x.toNat<o.rows.length):∃o',o'.rows.length=o.rows.length∧
 (eA T).ic bS [.r [.int x,.int 0],.r c,.r [o],.r [.str s],.r [.int a],.r [.bool b],.r [.int q0],.r [.int q1],.r [.int q2],.r [.int q3],.r [.int q4],.r [.int q5],.r [.int q6],.r [.int q7],.r [.bool f],.r [cl]]=some (.r [o']::(st s a b q0 q1 q2 q3 q4 q5 q6 q7 f cl o').take 13):=by
 obtain ⟨o',g1,g2⟩:=a09 s b q0 q1 q2 q3 q4 q5 q6 q7 c x a f cl hx 4 0 o (by omega) (by omega) hl
 refine ⟨o',g1, ?_⟩
 rw[aKA];unfold uW
 have ex:((x.toNat:Nat):Int)=x:=by omega
 have e0:((at_ ([.int x,.int 0]:Row) 0).uA).toNat=x.toNat:=rfl
 have e1:((at_ ([.int x,.int 0]:Row) 1).uA).toNat=0:=rfl
 rw[e0,e1,ex]
 have e2:((0:Nat):Int)=0:=rfl
 rw[e2,g2]
 rfl
end
end Go.Ev.dJ
namespace Go.Ev.dJ
def Inv (c o:C):Prop:=c.rows.length=o.rows.length∧1≤c.rows.length∧c.rows.length≤256
def yH {β:Type} (Q:β→Prop) (x:Option β):Prop:=∃r,x=some r∧Q r
theorem yH.some {β:Type} {Q:β→Prop} {r:β} (h:Q r):yH Q (some r):=⟨r,rfl,h⟩
theorem yH.bind {α β:Type} {R:α→Prop} {Q:β→Prop} {x:Option α} {f:α→Option β} (h:yH R x) (k:∀r,R r→yH Q (f r)):yH Q (x.bind f):=by
 obtain ⟨r,rfl,hr⟩:=h
 exact k r hr
theorem yH.jB {α β:Type} {Q:β→Prop} {x:Option α} {y:α} {f:α→Option β} (h:x=Option.some y) (k:yH Q (f y)):yH Q (x.bind f):=by rw[h];exact k
theorem yH.ite {β:Type} {c:Prop} [Decidable c] {Q:β→Prop} {x y:Option β} (h:c→yH Q x) (k:¬c→yH Q y):yH Q (if c then x else y):=by
 split
 ·exact h ‹_›
 ·exact k ‹_›
theorem yH.pos {β:Type} {c:Prop} [Decidable c] {Q:β→Prop} {x y:Option β} (h:c) (k:yH Q x):yH Q (if c then x else y):=by rw[if_pos h];exact k
theorem yH.mono {β:Type} {R Q:β→Prop} {x:Option β} (h:yH R x) (k:∀r,R r→Q r):yH Q x:=by
 obtain ⟨r,h1,h2⟩:=h;exact ⟨r,h1,k r h2⟩
section
variable (s:List UInt8) (b:Bool) (q0 q1 q2 q3 q4 q5 q6 q7:Int)
theorem aVM (a:Int) (f:Bool) (c o:C):(eA T).ic fD (st s a b q0 q1 q2 q3 q4 q5 q6 q7 f c o)=some (.r [.bool (!f&&decide (a<(s.length:Int)))]::st s a b q0 q1 q2 q3 q4 q5 q6 q7 f c o):=by
 rw[aH8];unfold yR
 cases f<;>simp
theorem aN1 (a:Int) (f:Bool) (c o:C) (h0:0≤a):∃x:Int,0≤x∧x<256∧(¬a<(s.length:Int)→x=0)∧
 (eA T).ic bC (st s a b q0 q1 q2 q3 q4 q5 q6 q7 f c o)=some (.r [.int x]::st s a b q0 q1 q2 q3 q4 q5 q6 q7 f c o):=by
 rw[aH9];unfold zR
 by_cases h:a<(s.length:Int)
 ·refine ⟨((s.getD a.toNat 0).toNat:Int),by omega,by have:=(s.getD a.toNat 0).toNat_lt;omega,fun h'=>absurd h h', ?_⟩
  have h2:¬a≥(s.length:Int):=by omega
  simp[h0,h,h2]
 ·refine ⟨0,by omega,by omega,fun _=>rfl, ?_⟩
  have h2:a≥(s.length:Int):=by omega
  simp[h2]
theorem a23 (k:Row) (a:Int) (f:Bool) (c o:C) (hI:Inv c o):∃row f' c' o',Inv c' o'∧
 (eA T).ic aK (.r k::st s a b q0 q1 q2 q3 q4 q5 q6 q7 f c o)=some (.r row::st s a b q0 q1 q2 q3 q4 q5 q6 q7 f' c' o'):=by
 obtain ⟨i1,i2,i3⟩:=hI
 rw[aDX];unfold aM
 by_cases h:(c.rows.length:Int)>255
 ·refine ⟨[.bool false,.int 0,.int 0,.int 0,.int 0,.int 0,.int 0,.int 0,.int 0],true,c,o,⟨i1,i2,i3⟩, ?_⟩
  simp[h]
 ·have g1:(c.rows.length+([k]:List Row).length)*32≤140737488355328:=by simp;omega
  have g2:(o.rows.length+([[.int 0,.int 0,.int 0,.int 0]]:List Row).length)*32≤140737488355328:=by simp;omega
  obtain ⟨r1,e1⟩:=a5D (i:=(c.rows.length:Int)) (by omega) (by omega) [.bool false,.int 0,.int 0,.int 0,.int 0,.int 0,.int 0,.int 0,.int 0]
  obtain ⟨r2,e2⟩:=a5E (i:=(c.rows.length:Int)) (by omega) (by omega) r1
  refine ⟨r2,f,wE c [k],wE o [[.int 0,.int 0,.int 0,.int 0]],⟨by simp[i1],by simp,by simp;omega⟩, ?_⟩
  simp only[h,decide_false,Bool.false_eq_true,if_false,if_pos g1,if_pos g2,e1,Option.bind_some,eD,e2]
theorem a25 (a a1:Int) (c o:C) (x:Int) (q:Bool) (h0:0≤a) (h2:a<(s.length:Int)) (hs:s.length≤200) (x0:0≤x) (x1:x<256) (ha:a1=a+1):
 yH (fun r=>∃(x a':Int) (f':Bool),0≤x∧x<256∧a<a'∧a'≤(s.length:Int)∧r= .r [.int x]::st s a' b q0 q1 q2 q3 q4 q5 q6 q7 f' c o)
  (if (x==92)=true then
        if (decide (a1≥(s.length:Int)))=true then some (.r [.int 0]::st s a1 b q0 q1 q2 q3 q4 q5 q6 q7 true c o)
        else if (0:Int)≤a1∧a1<(s.length:Int)then some (.r [.int ((s.getD a1.toNat 0).toNat:Int)]::st s (IntKind.wrap .i64 (a1+1)) b q0 q1 q2 q3 q4 q5 q6 q7 q c o)else none
      else some (.r [.int x]::st s a1 b q0 q1 q2 q3 q4 q5 q6 q7 q c o)):=by
 refine .ite (fun _=> .ite (fun e=> .some ⟨0,a1,true,by omega,by omega,by omega,by omega,rfl⟩) fun e=> ?_) fun _=> .some ⟨x,a1,q,x0,x1,by omega,by omega,rfl⟩
 have e':a1<(s.length:Int):=by simpa using e
 rw[iK (show 0≤a1+1 by omega) (by omega),if_pos ⟨by omega,e'⟩]
 exact .some ⟨_,a1+1,q,by omega,by have:=(s.getD a1.toNat 0).toNat_lt;omega,by omega,by omega,rfl⟩
theorem a1a (a:Int) (f:Bool) (c o:C) (h0:0≤a) (h1:a≤(s.length:Int)) (hs:s.length≤200):∃(x a':Int) (f':Bool),0≤x∧x<256∧a≤a'∧a'≤(s.length:Int)∧(a<(s.length:Int)→a<a')∧
 (eA T).ic nH (st s a b q0 q1 q2 q3 q4 q5 q6 q7 f c o)=some (.r [.int x]::st s a' b q0 q1 q2 q3 q4 q5 q6 q7 f' c o):=by
 rw[aGU];unfold aE
 by_cases h:a<(s.length:Int)
 ·have h2:¬a≥(s.length:Int):=by omega
  rw[iK (show 0≤a+1 by omega) (by omega)]
  generalize hx:((s.getD a.toNat 0).toNat:Int)=x
  have hxb:0≤x∧x<256:=by rw[←hx];exact ⟨by omega,by have:=(s.getD a.toNat 0).toNat_lt;omega⟩
  have key:∀q:Bool,yH (fun r=>r=(0,.r [.int x]:: .r [.bool q]::st s (a+1) b q0 q1 q2 q3 q4 q5 q6 q7 f c o)) (some ((0:Nat),(.r [.int x]:: .r [.bool q]::st s (a+1) b q0 q1 q2 q3 q4 q5 q6 q7 f c o:List PV))):=fun q=> .some rfl
  have main:yH (fun r=>∃(x a':Int) (f':Bool),0≤x∧x<256∧a<a'∧a'≤(s.length:Int)∧r= .r [.int x]::st s a' b q0 q1 q2 q3 q4 q5 q6 q7 f' c o) (aE (eA T) s a b q0 q1 q2 q3 q4 q5 q6 q7 f c o):=by
   unfold aE
   rw[iK (show 0≤a+1 by omega) (by omega),hx]
   simp only[h0,h,h2,decide_false,Bool.false_eq_true,if_false,and_self,if_true]
   refine .bind (R:=fun r=>∃q:Bool,r=(0,.r [.int x]:: .r [.bool q]::st s (a+1) b q0 q1 q2 q3 q4 q5 q6 q7 f c o)) ?_ ?_
   ·exact .ite (fun _=> .some ⟨_,rfl⟩) fun _=> .ite (fun _=> .some ⟨_,rfl⟩) fun _=> .some ⟨_,rfl⟩
   rintro x5 ⟨q,rfl⟩
   simp only[oD,eC,wC,cC,dF,aH,eD,uB,qC,zB,yE,bH,wH,gA,jA,rA,iA]
   refine .bind (R:=fun r=>∃f':Bool,r=(0,.r [.int x]::st s (a+1) b q0 q1 q2 q3 q4 q5 q6 q7 f' c o)) ?_ ?_
   ·exact .ite (fun _=> .some ⟨_,rfl⟩) fun _=> .some ⟨_,rfl⟩
   rintro x6 ⟨f',rfl⟩
   simp only[oD,eC,wC,cC,dF,aH,eD,uB,qC,zB,yE,bH,wH,gA,jA,rA,iA]
   exact a25 s b q0 q1 q2 q3 q4 q5 q6 q7 a (a+1) c o x f' h0 h hs hxb.1 hxb.2 rfl
  unfold aE at main
  rw[iK (show 0≤a+1 by omega) (by omega),hx]at main
  obtain ⟨r,e,x',a',f',k1,k2,k3,k4,rfl⟩:=main
  exact ⟨x',a',f',k1,k2,by omega,k4,fun _=>k3,e⟩
 ·have h2:a≥(s.length:Int):=by omega
  exact ⟨0,a,true,by omega,by omega,by omega,by omega,fun h'=>absurd h' h,by simp[h2]⟩
end
end Go.Ev.dJ
namespace Go.Ev.dJ
section
variable (s:List UInt8) (b:Bool) (q0 q1 q2 q3 q4 q5 q6 q7:Int)
theorem a1b (v0:Bool) (hi:Int) (a:Int) (f:Bool) (c o:C) (v17:Row) (h0:0≤hi) (h1:hi<256):∀(j:Nat) (i:Int) (k:Row),0≤i→i≤256→256≤i+j→
 yH (fun r=>∃k',r=(0,.r [.bool v0]::(st s a b q0 q1 q2 q3 q4 q5 q6 q7 f c o++[.r v17,.r k']))) (zE (eA T) v0 hi i s a b q0 q1 q2 q3 q4 q5 q6 q7 f c o v17 k)
 |0,i,k,g0,g1,g2=>by
  rw[qR];unfold kH
  rw[iK h0 (by omega)]
  have:¬i≤hi:=by omega
  simp only[this,decide_false,Bool.false_eq_true,if_false]
  exact .some ⟨_,rfl⟩
 |j+1,i,k,g0,g1,g2=>by
  rw[qR];unfold kH
  rw[iK h0 (by omega)]
  have key:∀q:Bool,(q=true→i≤hi)→yH (fun r=>∃k',r=(0,.r [.bool v0]::(st s a b q0 q1 q2 q3 q4 q5 q6 q7 f c o++[.r v17,.r k'])))
   (if q=true then ((eA T).ic lE [.r [.int (IntKind.wrap .u8 i)],.r k]).bind fun y26=>
     zE (eA T) v0 hi (IntKind.wrap .i64 (i+1)) s a b q0 q1 q2 q3 q4 q5 q6 q7 f c o v17 (gR 0 y26)
   else some (0,.r [.bool v0]::(st s a b q0 q1 q2 q3 q4 q5 q6 q7 f c o++[.r v17,.r k]))):=by
   intro q hq
   refine .ite (fun e=> ?_) (fun _=> .some ⟨_,rfl⟩)
   have:=hq e
   rw[aZE g0 (by omega),iK (show 0≤i+1 by omega) (by omega)]
   obtain ⟨k',e'⟩:=aSz g0 (show i<256 by omega) k
   refine .jB e' ?_
   exact a1b v0 hi a f c o v17 h0 h1 j (i+1) _ (by omega) (by omega) (by omega)
  refine .ite (fun e=> ?_) (fun e=> ?_)
  ·exact key (!f) (fun _=>by simpa using e)
  ·exact key false (fun h=>by cases h)
theorem a1c (hs:s.length≤200) (t:Bool) (c o:C) (zG:Row):∀(j:Nat) (a:Int) (f:Bool) (k:Row),0≤a→a≤(s.length:Int)→(s.length:Int)<a+j→
 yH (fun r=>∃a' f' k',a≤a'∧a'≤(s.length:Int)∧r=(0,.r [.bool t]::(st s a' b q0 q1 q2 q3 q4 q5 q6 q7 f' c o++[.r zG,.r k']))) (mH (eA T) t s a b q0 q1 q2 q3 q4 q5 q6 q7 f c o zG k)
 |0,a,f,k,g0,g1,g2=>by omega
 |j+1,a,f,k,g0,g1,g2=>by
  rw[aE1];unfold jN
  refine .bind (R:=fun x=>∃q:Bool,(q=true→a<(s.length:Int))∧x=(0,.r [.bool t]:: .r [.bool q]::(st s a b q0 q1 q2 q3 q4 q5 q6 q7 f c o++[.r zG,.r k]))) ?_ ?_
  ·refine .jB (aVM s b q0 q1 q2 q3 q4 q5 q6 q7 a f c o) ?_
   simp only[oD,eC,wC,cC,dF,aH,eD,uB,qC,zB,yE,bH,wH,gA,jA,rA,iA]
   refine .ite (fun e=> ?_) (fun _=> .some ⟨false,fun h=>(by cases h),rfl⟩)
   obtain ⟨x,_,_,_,e2⟩:=aN1 s b q0 q1 q2 q3 q4 q5 q6 q7 a f c o g0
   refine .jB e2 ?_
   simp only[oD,eC,wC,cC,dF,aH,eD,uB,qC,zB,yE,bH,wH,gA,jA,rA,iA]
   refine .some ⟨_,fun _=> ?_,rfl⟩
   simp at e;exact e.2
  ·rintro dR ⟨q,hq,rfl⟩
   simp only[List.cons_append,List.nil_append,oD,eC,wC,cC,dF,aH,eD,uB,qC,zB,yE,bH,wH,gA,jA,rA,iA]
   refine .ite (fun e=> ?_) (fun _=> .some ⟨a,f,k,Int.le_refl _,g1,rfl⟩)
   have hlt:=hq e
   obtain ⟨x,a1,f1,x0,x1,x2,x3,x4,e3⟩:=a1a s b q0 q1 q2 q3 q4 q5 q6 q7 a f c o g0 g1 hs
   refine .jB e3 ?_
   have ha1:=x4 hlt
   simp only[oD,eC,wC,cC,dF,aH,eD,uB,qC,zB,yE,bH,wH,gA,jA,rA,iA]
   refine .bind (R:=fun r=>∃q:Bool,(q=true→a1<(s.length:Int))∧r=(0,.r [.bool t]:: .r [.int x]:: .r [.int x]:: .r [.bool q]::(st s a1 b q0 q1 q2 q3 q4 q5 q6 q7 f1 c o++[.r zG,.r k]))) ?_ ?_
   ·refine .jB (aVM s b q0 q1 q2 q3 q4 q5 q6 q7 a1 f1 c o) ?_
    simp only[oD,eC,wC,cC,dF,aH,eD,uB,qC,zB,yE,bH,wH,gA,jA,rA,iA]
    refine .ite (fun e=> ?_) (fun _=> .some ⟨false,fun h=>(by cases h),rfl⟩)
    obtain ⟨x',_,_,_,e2⟩:=aN1 s b q0 q1 q2 q3 q4 q5 q6 q7 a1 f1 c o (by omega)
    refine .jB e2 ?_
    simp only[oD,eC,wC,cC,dF,aH,eD,uB,qC,zB,yE,bH,wH,gA,jA,rA,iA]
    refine .some ⟨_,fun _=> ?_,rfl⟩
    simp at e;exact e.2
   rintro qM ⟨qq,hq2,rfl⟩
   simp only[List.cons_append,List.nil_append,oD,eC,wC,cC,dF,aH,eD,uB,qC,zB,yE,bH,wH,gA,jA,rA,iA]
   refine .bind (R:=fun r=>∃(y a2:Int) (f2:Bool),0≤y∧y<256∧a1≤a2∧a2≤(s.length:Int)∧r=(0,.r [.bool t]:: .r [.int x]:: .r [.int y]::(st s a2 b q0 q1 q2 q3 q4 q5 q6 q7 f2 c o++[.r zG,.r k]))) ?_ ?_
   ·refine .ite (fun e=> ?_) (fun _=> .some ⟨x,a1,f1,x0,x1,Int.le_refl _,x3,rfl⟩)
    have hl2:=hq2 e
    rw[iK (show 0≤a1+1 by omega) (by omega)]
    obtain ⟨y,a2,f2,y0,y1,y2,y3,y4,e4⟩:=a1a s b q0 q1 q2 q3 q4 q5 q6 q7 (a1+1) f1 c o (by omega) (by omega) hs
    refine .jB e4 ?_
    simp only[oD,eC,wC,cC,dF,aH,eD,uB,qC,zB,yE,bH,wH,gA,jA,rA,iA]
    exact .some ⟨y,a2,f2,y0,y1,by omega,y3,rfl⟩
   rintro x20 ⟨y,a2,f2,y0,y1,y2,y3,rfl⟩
   simp only[List.cons_append,List.nil_append,oD,eC,wC,cC,dF,aH,eD,uB,qC,zB,yE,bH,wH,gA,jA,rA,iA]
   refine .bind (R:=fun r=>∃f3:Bool,r=(0,.r [.bool t]:: .r [.int x]:: .r [.int y]::(st s a2 b q0 q1 q2 q3 q4 q5 q6 q7 f3 c o++[.r zG,.r k]))) ?_ ?_
   ·exact .ite (fun e=> .some ⟨_,rfl⟩) (fun _=> .some ⟨_,rfl⟩)
   rintro x23 ⟨f3,rfl⟩
   simp only[List.cons_append,List.nil_append,oD,eC,wC,cC,dF,aH,eD,uB,qC,zB,yE,bH,wH,gA,jA,rA,iA]
   rw[iK x0 (by omega)]
   refine .bind (a1b s b q0 q1 q2 q3 q4 q5 q6 q7 t y a2 f3 c o zG y0 y1 256 x k x0 (by omega) (by omega)) ?_
   rintro x27 ⟨k',rfl⟩
   simp only[List.cons_append,List.nil_append,oD,eC,wC,cC,dF,aH,eD,uB,qC,zB,yE,bH,wH,gA,jA,rA,iA]
   refine (a1c hs t c o zG j a2 f3 k' (by omega) y3 (by omega)).mono ?_
   rintro r ⟨a',f',k',u1,u2,rfl⟩
   exact ⟨a',f',k',by omega,u2,rfl⟩
theorem bAg (hs:s.length≤200) (a:Int) (f:Bool) (c o:C) (g0:0≤a) (g1:a≤(s.length:Int)):
 yH (fun r=>∃row a' f',a≤a'∧a'≤(s.length:Int)∧r= .r row::st s a' b q0 q1 q2 q3 q4 q5 q6 q7 f' c o) ((eA T).ic iO (st s a b q0 q1 q2 q3 q4 q5 q6 q7 f c o)):=by
 rw[aHE];unfold iQ
 refine .bind (R:=fun r=>∃q:Bool,(q=true→a<(s.length:Int))∧r=(0,.r [.bool q]::(st s a b q0 q1 q2 q3 q4 q5 q6 q7 f c o++[.r [.int 0,.int 0,.int 0,.int 0],.r [.int 0,.int 0,.int 0,.int 0]]))) ?_ ?_
 ·obtain ⟨x,_,_,_,e2⟩:=aN1 s b q0 q1 q2 q3 q4 q5 q6 q7 a f c o g0
  refine .jB e2 ?_
  simp only[oD,eC,wC,cC,dF,aH,eD,uB,qC,zB,yE,bH,wH,gA,jA,rA,iA]
  exact .ite (fun e=> .some ⟨_,fun h=>of_decide_eq_true h,rfl⟩) (fun _=> .some ⟨false,fun h=>(by cases h),rfl⟩)
 rintro x4 ⟨t,ht,rfl⟩
 simp only[List.cons_append,List.nil_append,oD,eC,wC,cC,dF,aH,eD,uB,qC,zB,yE,bH,wH,gA,jA,rA,iA]
 refine .bind (R:=fun r=>∃a1:Int,a≤a1∧a1≤(s.length:Int)∧r=(0,.r [.bool t]::(st s a1 b q0 q1 q2 q3 q4 q5 q6 q7 f c o++[.r [.int 0,.int 0,.int 0,.int 0],.r [.int 0,.int 0,.int 0,.int 0]]))) ?_ ?_
 ·refine .ite (fun e=> ?_) (fun _=> .some ⟨a,Int.le_refl _,g1,rfl⟩)
  have:=ht e
  rw[iK (show 0≤a+1 by omega) (by omega)]
  exact .some ⟨a+1,by omega,by omega,rfl⟩
 rintro x5 ⟨a1,u1,u2,rfl⟩
 simp only[List.cons_append,List.nil_append,oD,eC,wC,cC,dF,aH,eD,uB,qC,zB,yE,bH,wH,gA,jA,rA,iA]
 refine .bind (a1c s b q0 q1 q2 q3 q4 q5 q6 q7 hs t c o _ 400 a1 f _ (by omega) u2 (by omega)) ?_
 rintro x28 ⟨a2,f2,k2,w1,w2,rfl⟩
 simp only[List.cons_append,List.nil_append,oD,eC,wC,cC,dF,aH,eD,uB,qC,zB,yE,bH,wH,gA,jA,rA,iA]
 refine .bind (R:=fun r=>∃f3:Bool,(f3=false→a2<(s.length:Int))∧r=(0,.r [.bool t]::(st s a2 b q0 q1 q2 q3 q4 q5 q6 q7 f3 c o++[.r [.int 0,.int 0,.int 0,.int 0],.r k2]))) ?_ ?_
 ·exact .ite (fun e=> .some ⟨true,fun h=>(by cases h),rfl⟩) (fun _=> .some ⟨_,fun h=>by simpa using h,rfl⟩)
 rintro x31 ⟨f3,hf,rfl⟩
 simp only[List.cons_append,List.nil_append,oD,eC,wC,cC,dF,aH,eD,uB,qC,zB,yE,bH,wH,gA,jA,rA,iA]
 refine .ite (fun e=> .some ⟨k2,a2,f3,by omega,w2,rfl⟩) (fun e=> ?_)
 have hlt:=hf (by simpa using e)
 rw[iK (show 0≤a2+1 by omega) (by omega)]
 refine .ite (fun e=> ?_) (fun _=> .some ⟨k2,a2+1,_,by omega,by omega,rfl⟩)
 obtain ⟨k3,e3⟩:=aVJ k2
 refine .jB e3 ?_
 simp only[eD,wH]
 exact .some ⟨k3,a2+1,_,by omega,by omega,rfl⟩
theorem a26 (r1 r2:Row) (a:Int) (f:Bool) (c:C) (m:Nat) (hm:m≤256):∀(j:Nat) (i:Int) (o:C),0≤i→i+j=m→o.rows.length=m→
 yH (fun r=>∃o':C,o'.rows.length=m∧r=(0,st s a b q0 q1 q2 q3 q4 q5 q6 q7 f c o')) (qH (eA T) (.dp r1) (.dp r2) (m:Int) i s a b q0 q1 q2 q3 q4 q5 q6 q7 f c o)
 |0,i,o,h0,h,ho=>by
  rw[rR];unfold rH
  have:¬i<(m:Int):=by omega
  simp only[this,decide_false,Bool.false_eq_true,if_false]
  exact .some ⟨o,ho,rfl⟩
 |j+1,i,o,h0,h,ho=>by
  rw[rR];unfold rH
  have hlt:i<(m:Int):=by omega
  obtain ⟨q,e1⟩:=aZF (.dp r1) rfl h0 (show i<256 by omega)
  rw[iK (show 0≤i+1 by omega) (by omega)]
  simp only[hlt,decide_true,if_true]
  refine .jB e1 ?_
  simp only[cA,gA,jA]
  refine .ite (fun _=> ?_) (fun _=>a26 r1 r2 a f c m hm j (i+1) o (by omega) (by omega) ho)
  have hl:i<(o.rows.length:Int):=by omega
  simp only[h0,hl,and_self,if_true,dB,sA]
  have ex:((i.toNat:Nat):Int)=i:=by omega
  have e2:((0:Nat):Int)=0:=rfl
  rw[ex,e2]
  obtain ⟨o',g1,g2⟩:=a22 s b q0 q1 q2 q3 q4 q5 q6 q7 r2 i a f c o h0 (by omega)
  refine .jB g2 ?_
  simp only[List.take_succ_cons,List.take_zero,oD,eC,wC,cC,dF,aH,eD,uB,qC,zB,yE,bH,wH,gA,jA,rA,iA]
  exact a26 r1 r2 a f c m hm j (i+1) o' (by omega) (by omega) (by omega)
theorem a8A (r1 r2:Row) (a:Int) (f:Bool) (c o:C) (hI:Inv c o):
 yH (fun r=>∃o':C,Inv c o'∧r=st s a b q0 q1 q2 q3 q4 q5 q6 q7 f c o') ((eA T).ic mI (.r r1:: .r r2::st s a b q0 q1 q2 q3 q4 q5 q6 q7 f c o)):=by
 obtain ⟨i1,i2,i3⟩:=hI
 rw[aHF];unfold oQ
 refine .bind (a26 s b q0 q1 q2 q3 q4 q5 q6 q7 r1 r2 a f c o.rows.length (by omega) o.rows.length 0 o (by omega) (by omega) rfl) ?_
 rintro x3 ⟨o',ho,rfl⟩
 simp only[List.cons_append,List.nil_append,oD,eC,wC,cC,dF,aH,eD,uB,qC,zB,yE,bH,wH,gA,jA,rA,iA]
 exact .some ⟨o',⟨by omega,by omega,by omega⟩,rfl⟩
end
end Go.Ev.dJ
namespace Go.Ev.dJ
theorem indexByte (l:List UInt8) (x:Int):(eA T).pc vP [[.str l],[.int x]]=some [[.int (aM8 l x.toNat.toUInt8)]]:=by
 rw[aE0];unfold strings_IndexByte
 have:(eA T).pc gH [[.str l],[.int x]]=some [[.int (aM8 l x.toNat.toUInt8)]]:=by
  rw[fO];unfold jF;rfl
 rw[this];rfl
section
variable (s:List UInt8) (b:Bool) (q0 q1 q2 q3 q4 q5 q6 q7:Int)
abbrev Post (a:Int) (r:List PV):Prop:=∃row a' f' c' o',a≤a'∧a'≤(s.length:Int)∧Inv c' o'∧r= .r row::st s a' b q0 q1 q2 q3 q4 q5 q6 q7 f' c' o'
abbrev aTi (n:Int):Prop:=∀a f c o,0≤a→a≤(s.length:Int)→(s.length:Int) - a≤n→Inv c o→yH (Post s b q0 q1 q2 q3 q4 q5 q6 q7 a) ((eA T).ic jE (st s a b q0 q1 q2 q3 q4 q5 q6 q7 f c o))
theorem bEn (hs:s.length≤200) (n:Int) (hA:aTi s b q0 q1 q2 q3 q4 q5 q6 q7 n) (a:Int) (f:Bool) (c o:C) (g0:0≤a) (g1:a<(s.length:Int)) (gn:(s.length:Int) - a≤n+1) (hI:Inv c o):
 yH (Post s b q0 q1 q2 q3 q4 q5 q6 q7 (a+1)) ((eA T).ic nP (st s a b q0 q1 q2 q3 q4 q5 q6 q7 f c o)):=by
 rw[aIa];unfold aS
 obtain ⟨x,x0,x1,_,e1⟩:=aN1 s b q0 q1 q2 q3 q4 q5 q6 q7 a f c o g0
 refine .jB e1 ?_
 simp only[oD,eC,wC,cC,dF,aH,eD,uB,qC,zB,yE,bH,wH,gA,jA,rA,iA]
 simp only[iK (show 0≤a+1 by omega) (show a+1≤1000000000000 by omega)]
 refine .bind (R:=fun r=>(∃a' f' c' o' w k,a+1≤a'∧a'≤(s.length:Int)∧Inv c' o'∧r=(0,st s a' b q0 q1 q2 q3 q4 q5 q6 q7 f' c' o'++[.r w,.r k]))∨(∃a' f' c' o' row,a+1≤a'∧a'≤(s.length:Int)∧Inv c' o'∧r=(1,st s a' b q0 q1 q2 q3 q4 q5 q6 q7 f' c' o'++[.r row]))) ?_ ?_
 ·refine .ite (fun e=> ?_) fun e=> .ite (fun e=> ?_) fun e=> .ite (fun e=> ?_) fun e=> .ite (fun e=> ?_) fun e=> ?_
  ·refine .bind (hA (a+1) f c o (by omega) (by omega) (by omega) hI) ?_
   rintro y2 ⟨row,a2,f2,c2,o2,u1,u2,u3,rfl⟩
   simp only[oD,eC,wC,cC,dF,aH,eD,uB,qC,zB,yE,bH,wH,gA,jA,rA,iA]
   refine .bind (R:=fun r=>∃f3:Bool,(f3=false→a2<(s.length:Int))∧∃w,r=(0,st s a2 b q0 q1 q2 q3 q4 q5 q6 q7 f3 c2 o2++[.r w,.r row])) ?_ ?_
   ·refine .ite (fun e=> .some ⟨true,fun h=>(by cases h),_,rfl⟩) fun e=> ?_
    obtain ⟨x',_,_,_,e2⟩:=aN1 s b q0 q1 q2 q3 q4 q5 q6 q7 a2 f2 c2 o2 (by omega)
    refine .jB e2 ?_
    simp only[oD,eC,wC,cC,dF,aH,eD,uB,qC,zB,yE,bH,wH,gA,jA,rA,iA]
    refine .ite (fun e=> .some ⟨true,fun h=>(by cases h),_,rfl⟩) fun e=> .some ⟨_,fun h=> ?_,_,rfl⟩
    have:=of_decide_eq_false h;omega
   rintro dR ⟨f3,hf,w,rfl⟩
   simp only[List.cons_append,List.nil_append,oD,eC,wC,cC,dF,aH,eD,uB,qC,zB,yE,bH,wH,gA,jA,rA,iA]
   refine .ite (fun e=> ?_) fun e=> .some (.inr ⟨a2,f3,c2,o2,row,u1,u2,u3,rfl⟩)
   have:=hf (by simpa using e)
   rw[iK (show 0≤a2+1 by omega) (by omega)]
   exact .some (.inr ⟨a2+1,f3,c2,o2,row,by omega,by omega,u3,rfl⟩)
  ·obtain ⟨k,ek⟩:=aVJ [.int 0,.int 0,.int 0,.int 0]
   refine .jB ek ?_
   exact .some (.inl ⟨a+1,f,c,o,_,k,by omega,by omega,hI,rfl⟩)
  ·refine .bind (bAg s b q0 q1 q2 q3 q4 q5 q6 q7 hs (a+1) f c o (by omega) (by omega)) ?_
   rintro j9 ⟨row,a2,f2,u1,u2,rfl⟩
   simp only[oD,eC,wC,cC,dF,aH,eD,uB,qC,zB,yE,bH,wH,gA,jA,rA,iA]
   exact .some (.inl ⟨a2,f2,c,o,_,row,u1,u2,hI,rfl⟩)
  ·refine .ite (fun e=> .some (.inr ⟨a+1,true,c,o,_,by omega,by omega,hI,rfl⟩)) fun e=> ?_
   have e':a+1<(s.length:Int):=by simpa using e
   rw[if_pos ⟨by omega,e'⟩]
   obtain ⟨k,ek⟩:=aSz (i:=((s.getD (a+1).toNat 0).toNat:Int)) (by omega) (by have:=(s.getD (a+1).toNat 0).toNat_lt;omega) [.int 0,.int 0,.int 0,.int 0]
   refine .jB ek ?_
   rw[iK (show 0≤a+1+1 by omega) (by omega)]
   exact .some (.inl ⟨a+1+1,f,c,o,_,k,by omega,by omega,hI,rfl⟩)
  ·refine .jB (indexByte _ x) ?_
   refine .ite (fun e=> .some (.inr ⟨a+1,true,c,o,_,by omega,by omega,hI,rfl⟩)) fun e=> ?_
   obtain ⟨k,ek⟩:=aSz x0 x1 [.int 0,.int 0,.int 0,.int 0]
   refine .jB ek ?_
   exact .some (.inl ⟨a+1,f,c,o,_,k,by omega,by omega,hI,rfl⟩)
 ·rintro gV (⟨a2,f2,c2,o2,w,k,u1,u2,u3,rfl⟩|⟨a2,f2,c2,o2,row,u1,u2,u3,rfl⟩)
  ·simp only[List.cons_append,List.nil_append,oD,eC,wC,cC,dF,aH,eD,uB,qC,zB,yE,bH,wH,gA,jA,rA,iA]
   obtain ⟨row,f3,c3,o3,h3,e3⟩:=a23 s b q0 q1 q2 q3 q4 q5 q6 q7 k a2 f2 c2 o2 u3
   refine .jB e3 ?_
   exact .some ⟨row,a2,f3,c3,o3,u1,u2,h3,rfl⟩
  ·simp only[List.cons_append,List.nil_append,oD,eC,wC,cC,dF,aH,eD,uB,qC,zB,yE,bH,wH,gA,jA,rA,iA]
   exact .some ⟨row,a2,f2,c2,o2,u1,u2,u3,rfl⟩
theorem bEo (hs:s.length≤200) (n:Int) (hA:aTi s b q0 q1 q2 q3 q4 q5 q6 q7 n) (a:Int) (f:Bool) (c o:C) (g0:0≤a) (g1:a<(s.length:Int)) (gn:(s.length:Int) - a≤n+1) (hI:Inv c o):
 yH (Post s b q0 q1 q2 q3 q4 q5 q6 q7 (a+1)) ((eA T).ic oP (st s a b q0 q1 q2 q3 q4 q5 q6 q7 f c o)):=by
 rw[aIb];unfold cS
 refine .bind (bEn s b q0 q1 q2 q3 q4 q5 q6 q7 hs n hA a f c o g0 g1 gn hI) ?_
 rintro y1 ⟨row,a2,f2,c2,o2,u1,u2,u3,rfl⟩
 simp only[oD,eC,wC,cC,dF,aH,eD,uB,qC,zB,yE,bH,wH,gA,jA,rA,iA]
 refine .jB (aVM s b q0 q1 q2 q3 q4 q5 q6 q7 a2 f2 c2 o2) ?_
 simp only[oD,eC,wC,cC,dF,aH,eD,uB,qC,zB,yE,bH,wH,gA,jA,rA,iA]
 refine .ite (fun e=> .some ⟨row,a2,f2,c2,o2,u1,u2,u3,rfl⟩) fun e=> ?_
 have hlt:a2<(s.length:Int):=by simp at e;exact e.2
 obtain ⟨x,x0,x1,_,e1⟩:=aN1 s b q0 q1 q2 q3 q4 q5 q6 q7 a2 f2 c2 o2 (by omega)
 refine .jB e1 ?_
 simp only[oD,eC,wC,cC,dF,aH,eD,uB,qC,zB,yE,bH,wH,gA,jA,rA,iA]
 refine .bind (R:=fun r=>∃(q:Bool) (w:Row),r=(0,.r [.int x]:: .r [.bool q]::(st s a2 b q0 q1 q2 q3 q4 q5 q6 q7 f2 c2 o2++[.r w,.r row]))) ?_ ?_
 ·exact .ite (fun _=> .ite (fun _=> .some ⟨_,_,rfl⟩) fun _=> .some ⟨_,_,rfl⟩) fun _=> .some ⟨_,_,rfl⟩
 rintro x8 ⟨q,w,rfl⟩
 simp only[List.cons_append,List.nil_append,oD,eC,wC,cC,dF,aH,eD,uB,qC,zB,yE,bH,wH,gA,jA,rA,iA]
 refine .ite (fun e=> .some ⟨row,a2,f2,c2,o2,u1,u2,u3,rfl⟩) fun e=> ?_
 rw[iK (show 0≤a2+1 by omega) (by omega)]
 refine .ite (fun e=> ?_) fun e=> ?_
 ·refine .bind (a8A s b q0 q1 q2 q3 q4 q5 q6 q7 _ _ (a2+1) f2 c2 o2 u3) ?_
  rintro y9 ⟨o3,h3,rfl⟩
  simp only[List.cons_append,List.nil_append,oD,eC,wC,cC,dF,aH,eD,uB,qC,zB,yE,bH,wH,gA,jA,rA,iA]
  exact .ite (fun e=> .some ⟨_,a2+1,f2,c2,o3,by omega,by omega,h3,rfl⟩) fun e=> .some ⟨_,a2+1,f2,c2,o3,by omega,by omega,h3,rfl⟩
 ·exact .ite (fun e=> .some ⟨_,a2+1,f2,c2,o2,by omega,by omega,u3,rfl⟩) fun e=> .some ⟨_,a2+1,f2,c2,o2,by omega,by omega,u3,rfl⟩
theorem a8B (hs:s.length≤200) (n:Int) (hA:aTi s b q0 q1 q2 q3 q4 q5 q6 q7 n):∀(j:Nat) (a:Int) (f:Bool) (c o:C) (w r0:Row),0≤a→a≤(s.length:Int)→(s.length:Int)<a+j→(s.length:Int) - a≤n+1→Inv c o→
 yH (fun r=>∃a' f' c' o' w' r',a≤a'∧a'≤(s.length:Int)∧Inv c' o'∧r=(0,st s a' b q0 q1 q2 q3 q4 q5 q6 q7 f' c' o'++[.r w',.r r'])) (wF (eA T) s a b q0 q1 q2 q3 q4 q5 q6 q7 f c o w r0)
 |0,a,f,c,o,w,r0,g0,g1,g2,gn,hI=>by omega
 |j+1,a,f,c,o,w,r0,g0,g1,g2,gn,hI=>by
  rw[aC6];unfold eK
  refine .bind (R:=fun r=>∃q:Bool,(q=true→a<(s.length:Int))∧r=(0,.r [.bool q]::(st s a b q0 q1 q2 q3 q4 q5 q6 q7 f c o++[.r w,.r r0]))) ?_ ?_
  ·refine .jB (aVM s b q0 q1 q2 q3 q4 q5 q6 q7 a f c o) ?_
   simp only[oD,eC,wC,cC,dF,aH,eD,uB,qC,zB,yE,bH,wH,gA,jA,rA,iA]
   refine .ite (fun e=> ?_) (fun _=> .some ⟨false,fun h=>(by cases h),rfl⟩)
   have hlt:a<(s.length:Int):=by simp at e;exact e.2
   obtain ⟨x,_,_,_,e2⟩:=aN1 s b q0 q1 q2 q3 q4 q5 q6 q7 a f c o g0
   refine .jB e2 ?_
   simp only[oD,eC,wC,cC,dF,aH,eD,uB,qC,zB,yE,bH,wH,gA,jA,rA,iA]
   refine .ite (fun e=> ?_) (fun _=> .some ⟨false,fun h=>(by cases h),rfl⟩)
   refine .jB e2 ?_
   simp only[oD,eC,wC,cC,dF,aH,eD,uB,qC,zB,yE,bH,wH,gA,jA,rA,iA]
   exact .some ⟨_,fun _=>hlt,rfl⟩
  rintro x14 ⟨q,hq,rfl⟩
  simp only[List.cons_append,List.nil_append,oD,eC,wC,cC,dF,aH,eD,uB,qC,zB,yE,bH,wH,gA,jA,rA,iA]
  refine .ite (fun e=> ?_) (fun _=> .some ⟨a,f,c,o,w,r0,Int.le_refl _,g1,hI,rfl⟩)
  have hlt:=hq e
  refine .bind (bEo s b q0 q1 q2 q3 q4 q5 q6 q7 hs n hA a f c o g0 hlt gn hI) ?_
  rintro y15 ⟨x,a2,f2,c2,o2,u1,u2,u3,rfl⟩
  simp only[List.cons_append,List.nil_append,oD,eC,wC,cC,dF,aH,eD,uB,qC,zB,yE,bH,wH,gA,jA,rA,iA]
  refine .bind (a8A s b q0 q1 q2 q3 q4 q5 q6 q7 _ _ a2 f2 c2 o2 u3) ?_
  rintro y16 ⟨o3,h3,rfl⟩
  simp only[List.cons_append,List.nil_append,oD,eC,wC,cC,dF,aH,eD,uB,qC,zB,yE,bH,wH,gA,jA,rA,iA]
  refine .bind (R:=fun r=>∃r1:Row,r=(0,st s a2 b q0 q1 q2 q3 q4 q5 q6 q7 f2 c2 o3++[.r w,.r r1,.r x])) ?_ ?_
  ·refine .ite (fun e=> ?_) fun e=> .some ⟨_,rfl⟩
   obtain ⟨r1,e1⟩:=aVK [at_ x 1,at_ x 2,at_ x 3,at_ x 4] r0
   exact .jB e1 (.some ⟨r1,rfl⟩)
  rintro qM ⟨r1,rfl⟩
  simp only[List.cons_append,List.nil_append,oD,eC,wC,cC,dF,aH,eD,uB,qC,zB,yE,bH,wH,gA,jA,rA,iA]
  refine .bind (R:=fun r=>∃r2:Row,r=(0,st s a2 b q0 q1 q2 q3 q4 q5 q6 q7 f2 c2 o3++[.r w,.r r2,.r x])) ?_ ?_
  ·exact .ite (fun e=> .some ⟨_,rfl⟩) fun e=> .some ⟨_,rfl⟩
  rintro x19 ⟨r2,rfl⟩
  simp only[List.cons_append,List.nil_append,oD,eC,wC,cC,dF,aH,eD,uB,qC,zB,yE,bH,wH,gA,jA,rA,iA]
  obtain ⟨r3,e3⟩:=aVL [at_ x 5,at_ x 6,at_ x 7,at_ x 8] r2
  refine .jB e3 ?_
  simp only[eD,wH]
  refine .ite (fun e=> ?_) fun e=> ?_
  ·refine (a8B hs n hA j a2 f2 c2 o3 w _ (by omega) u2 (by omega) (by omega) h3).mono ?_
   rintro r ⟨a',f',c',o',w',r',v1,v2,v3,rfl⟩
   exact ⟨a',f',c',o',w',r',by omega,v2,v3,rfl⟩
  ·refine (a8B hs n hA j a2 f2 c2 o3 w _ (by omega) u2 (by omega) (by omega) h3).mono ?_
   rintro r ⟨a',f',c',o',w',r',v1,v2,v3,rfl⟩
   exact ⟨a',f',c',o',w',r',by omega,v2,v3,rfl⟩
theorem bCw (hs:s.length≤200) (n:Int) (hA:aTi s b q0 q1 q2 q3 q4 q5 q6 q7 n) (a:Int) (f:Bool) (c o:C) (g0:0≤a) (g1:a≤(s.length:Int)) (gn:(s.length:Int) - a≤n+1) (hI:Inv c o):
 yH (Post s b q0 q1 q2 q3 q4 q5 q6 q7 a) ((eA T).ic jG (st s a b q0 q1 q2 q3 q4 q5 q6 q7 f c o)):=by
 rw[aE2];unfold nN
 refine .bind (a8B s b q0 q1 q2 q3 q4 q5 q6 q7 hs n hA 400 a f c o _ _ g0 g1 (by omega) gn hI) ?_
 rintro x ⟨a',f',c',o',w',r',v1,v2,v3,rfl⟩
 simp only[List.cons_append,List.nil_append,oD,eC,wC,cC,dF,aH,eD,uB,qC,zB,yE,bH,wH,gA,jA,rA,iA]
 exact .some ⟨r',a',f',c',o',v1,v2,v3,rfl⟩
theorem bCx (hs:s.length≤200) (n:Int) (hA:aTi s b q0 q1 q2 q3 q4 q5 q6 q7 n):∀(j:Nat) (a:Int) (f:Bool) (c o:C) (w r0:Row),0≤a→a≤(s.length:Int)→(s.length:Int)<a+j→(s.length:Int) - a≤n+1→Inv c o→
 yH (fun r=>∃a' f' c' o' w' r',a≤a'∧a'≤(s.length:Int)∧Inv c' o'∧r=(0,st s a' b q0 q1 q2 q3 q4 q5 q6 q7 f' c' o'++[.r w',.r r'])) (bD (eA T) s a b q0 q1 q2 q3 q4 q5 q6 q7 f c o w r0)
 |0,a,f,c,o,w,r0,g0,g1,g2,gn,hI=>by omega
 |j+1,a,f,c,o,w,r0,g0,g1,g2,gn,hI=>by
  rw[s8];unfold yG
  refine .bind (R:=fun r=>∃q:Bool,(q=true→a<(s.length:Int))∧r=(0,.r [.bool q]::(st s a b q0 q1 q2 q3 q4 q5 q6 q7 f c o++[.r w,.r r0]))) ?_ ?_
  ·refine .jB (aVM s b q0 q1 q2 q3 q4 q5 q6 q7 a f c o) ?_
   simp only[oD,eC,wC,cC,dF,aH,eD,uB,qC,zB,yE,bH,wH,gA,jA,rA,iA]
   refine .ite (fun e=> ?_) (fun _=> .some ⟨false,fun h=>(by cases h),rfl⟩)
   have hlt:a<(s.length:Int):=by simp at e;exact e.2
   obtain ⟨x,_,_,_,e2⟩:=aN1 s b q0 q1 q2 q3 q4 q5 q6 q7 a f c o g0
   refine .jB e2 ?_
   simp only[oD,eC,wC,cC,dF,aH,eD,uB,qC,zB,yE,bH,wH,gA,jA,rA,iA]
   exact .some ⟨_,fun _=>hlt,rfl⟩
  rintro x7 ⟨q,hq,rfl⟩
  simp only[List.cons_append,List.nil_append,oD,eC,wC,cC,dF,aH,eD,uB,qC,zB,yE,bH,wH,gA,jA,rA,iA]
  refine .ite (fun e=> ?_) (fun _=> .some ⟨a,f,c,o,w,r0,Int.le_refl _,g1,hI,rfl⟩)
  have hlt:=hq e
  rw[iK (show 0≤a+1 by omega) (by omega)]
  refine .bind (bCw s b q0 q1 q2 q3 q4 q5 q6 q7 hs n hA (a+1) f c o (by omega) (by omega) (by omega) hI) ?_
  rintro y8 ⟨x,a2,f2,c2,o2,u1,u2,u3,rfl⟩
  simp only[List.cons_append,List.nil_append,oD,eC,wC,cC,dF,aH,eD,uB,qC,zB,yE,bH,wH,gA,jA,rA,iA]
  have fin:∀row:Row,yH (fun r=>∃a' f' c' o' w' r',a≤a'∧a'≤(s.length:Int)∧Inv c' o'∧r=(0,st s a' b q0 q1 q2 q3 q4 q5 q6 q7 f' c' o'++[.r w',.r r'])) (((eA T).ic sH [.r [at_ x 1,at_ x 2,at_ x 3,at_ x 4],.r row]).bind fun y11=>
        ((eA T).ic tH [.r [at_ x 5,at_ x 6,at_ x 7,at_ x 8],.r (gR 0 y11)]).bind fun y12=>
          bD (eA T) s a2 b q0 q1 q2 q3 q4 q5 q6 q7 f2 c2 o2 w (gR 0 y12)):=by
   intro row
   obtain ⟨r1,e1⟩:=aVK [at_ x 1,at_ x 2,at_ x 3,at_ x 4] row
   refine .jB e1 ?_
   obtain ⟨r2,e2⟩:=aVL [at_ x 5,at_ x 6,at_ x 7,at_ x 8] r1
   refine .jB e2 ?_
   refine (bCx hs n hA j a2 f2 c2 o2 w _ (by omega) u2 (by omega) (by omega) u3).mono ?_
   rintro r ⟨a',f',c',o',w',r',v1,v2,v3,rfl⟩
   exact ⟨a',f',c',o',w',r',by omega,v2,v3,rfl⟩
  exact .ite (fun _=>fin _) fun _=>fin _
theorem bHl (hs:s.length≤200):∀n:Nat,aTi s b q0 q1 q2 q3 q4 q5 q6 q7 n:=by
 have step:∀n:Int,aTi s b q0 q1 q2 q3 q4 q5 q6 q7 n→aTi s b q0 q1 q2 q3 q4 q5 q6 q7 (n+1):=by
  intro n hA a f c o g0 g1 gn hI
  rw[aBX];unfold aJ
  refine .bind (bCw s b q0 q1 q2 q3 q4 q5 q6 q7 hs n hA a f c o g0 g1 gn hI) ?_
  rintro y1 ⟨x,a2,f2,c2,o2,u1,u2,u3,rfl⟩
  simp only[List.cons_append,List.nil_append,oD,eC,wC,cC,dF,aH,eD,uB,qC,zB,yE,bH,wH,gA,jA,rA,iA]
  refine .bind (bCx s b q0 q1 q2 q3 q4 q5 q6 q7 hs n hA 400 a2 f2 c2 o2 _ _ (by omega) u2 (by omega) (by omega) u3) ?_
  rintro x13 ⟨a',f',c',o',w',r',v1,v2,v3,rfl⟩
  simp only[List.cons_append,List.nil_append,oD,eC,wC,cC,dF,aH,eD,uB,qC,zB,yE,bH,wH,gA,jA,rA,iA]
  exact .some ⟨r',a',f',c',o',by omega,v2,v3,rfl⟩
 intro n
 induction n with
 |zero=>exact step (-1) (fun a f c o g0 g1 gn hI=>by omega)
 |succ n ih=>exact step n ih
end
end Go.Ev.dJ
namespace Go.Ev.dJ
@[simp] theorem bHm (x:List (Row×Row)):(PV.m x).es=x:=rfl
@[simp] theorem a4l (p q:PV) (x:List PV):(p::x).headD q=p:=rfl
def a8C (row:Row):Prop:=Inv (at_ row 0) (at_ row 1)
theorem a5G (s:List UInt8):yH (fun r=>∃(row:Row) (e:Int),r=[row,[.int e]]∧(e=0→a8C row)) ((eA T).pc aFs [[.str s]]):=by
 rw[aSi];unfold aJe
 refine .ite (fun e=> .some ⟨_,2,rfl,fun h=>by cases h⟩) fun e=> ?_
 have hs:s.length≤200:=by have:=of_decide_eq_false (by simpa using e:decide ((s.length:Int)>200)=false);omega
 refine .bind (bHl s false 0 0 0 0 0 0 0 0 hs 400 0 false (.sl [[.int 0,.int 0,.int 0,.int 0]]) (.sl [[.int 0,.int 0,.int 0,.int 0]]) (by omega) (by omega) (by omega) ⟨rfl,by simp[C.rows],by simp[C.rows]⟩) ?_
 rintro y1 ⟨row,a,f,c,o,u1,u2,u3,rfl⟩
 simp only[List.cons_append,List.nil_append,oD,eC,wC,cC,dF,aH,eD,uB,qC,zB,yE,bH,wH,gA,jA,rA,iA]
 refine .bind (R:=fun r=>∃(q:Bool) (w:Row),r=(0,.r [.bool q]:: .r w::[.r [.str s],.r [.int a],.r [.bool false],.r [.int 0],.r [.int 0],.r [.int 0],.r [.int 0],.r [.int 0],.r [.int 0],.r [.int 0],.r [.int 0],.r [.bool f],.r row,.r [c],.r [o]])) ?_ ?_
 ·exact .ite (fun e=> .some ⟨_,_,rfl⟩) fun e=> .some ⟨_,_,rfl⟩
 rintro x4 ⟨q,w,rfl⟩
 simp only[List.cons_append,List.nil_append,oD,eC,wC,cC,dF,aH,eD,uB,qC,zB,yE,bH,wH,gA,jA,rA,iA]
 refine .ite (fun e=> .some ⟨_,14,rfl,fun h=>by cases h⟩) fun e=> ?_
 obtain ⟨i1,i2,i3⟩:=u3
 have hl:0<o.rows.length:=by omega
 refine .pos ⟨by omega,by omega⟩ (.pos hl ?_)
 exact .some ⟨_,0,rfl,fun _=>⟨by show c.rows.length=(o.rows.set 0 _).length;rw[List.length_set];exact i1,i2,i3⟩⟩
theorem a8D (p:Row) (b:Int) (hb0:0≤b) (hb1:b<256) (v2:Int) (hm:(at_ p 0).rows.length≤256):∀(j:Nat) (i:Int) (out:Row),0≤i→i+j=(at_ p 0).rows.length→
 yH (fun r=>∃out',r=(0,[.r [.dp p],.r [.int v2],.r out'])) (eS (eA T) (.dp p) b v2 ((at_ p 0).rows.length:Int) i out)
 |0,i,out,h0,h=>by
  rw[aDn];unfold fS
  have:¬i<((at_ p 0).rows.length:Int):=by omega
  simp only[this,decide_false,Bool.false_eq_true,if_false]
  exact .some ⟨_,rfl⟩
 |j+1,i,out,h0,h=>by
  rw[aDn];unfold fS
  have hlt:i<((at_ p 0).rows.length:Int):=by omega
  simp only[hlt,decide_true,if_true,dB,sA,h0,and_self]
  rw[aZE hb0 hb1]
  obtain ⟨q,e⟩:=a5C (.dp (aA ((at_ p 0).rows) i.toNat)) rfl hb0 hb1
  refine .jB e ?_
  simp only[cA,gA,jA,iK (show 0≤i+1 by omega) (show i+1≤1000000000000 by omega)]
  refine .ite (fun _=> ?_) fun _=>a8D p b hb0 hb1 v2 hm j (i+1) out (by omega) (by omega)
  simp only[hb0,hb1,and_self,if_true]
  obtain ⟨out',e'⟩:=a5F (p:=((0+(b.toNat*4):Nat):Int)) (i:=i) (by omega) (by omega) h0 (by omega) out
  refine .jB e' ?_
  exact a8D p b hb0 hb1 v2 hm j (i+1) _ (by omega) (by omega)
theorem bCy (p:Row) (hm:(at_ p 0).rows.length≤256):∀(j:Nat) (i:Int) (out:Row),0≤i→i+j=256→
 yH (fun r=>∃out',r=(0,[.r out'])) (jS (eA T) (.dp p) i out)
 |0,i,out,h0,h=>by
  rw[aDo];unfold mS
  have:¬i<256:=by omega
  simp only[this,decide_false,Bool.false_eq_true,if_false]
  exact .some ⟨_,rfl⟩
 |j+1,i,out,h0,h=>by
  rw[aDo];unfold mS
  have hlt:i<256:=by omega
  simp only[hlt,decide_true,if_true,dB,sA]
  refine .bind (a8D p i h0 hlt i hm _ 0 out (by omega) (by rw[Int.zero_add])) ?_
  rintro x3 ⟨out',rfl⟩
  simp only[List.cons_append,List.nil_append,oD,eC,wC,cC,dF,aH,eD,uB,qC,zB,yE,bH,wH,gA,jA,rA,iA,iK (show 0≤i+1 by omega) (show i+1≤1000000000000 by omega)]
  exact bCy p hm j (i+1) _ (by omega) (by omega)
theorem bEp (p:Row) (hm:(at_ p 0).rows.length≤256):yH (fun r=>∃out,r=[[.dp out]]) ((eA T).pc aCt [[.dp p]]):=by
 rw[aPN];unfold aFr
 refine .bind (bCy p hm 256 0 _ (by omega) (by omega)) ?_
 rintro x ⟨out,rfl⟩
 exact .some ⟨out,rfl⟩
theorem aVN (p t:Row) (v4:Row) (hm:(at_ p 1).rows.length≤256):∀(j:Nat) (i:Int) (out:Row),0≤i→i+j=(at_ p 1).rows.length→
 yH (fun r=>∃out',r=(0,[.r v4,.r out'])) (hM (eA T) (.dp p) (.dp t) ((at_ p 1).rows.length:Int) i v4 out)
 |0,i,out,h0,h=>by
  rw[j4];unfold iM
  have:¬i<((at_ p 1).rows.length:Int):=by omega
  simp only[this,decide_false,Bool.false_eq_true,if_false]
  exact .some ⟨_,rfl⟩
 |j+1,i,out,h0,h=>by
  rw[j4];unfold iM
  have hlt:i<((at_ p 1).rows.length:Int):=by omega
  simp only[hlt,decide_true,if_true]
  obtain ⟨q,e⟩:=aZF (.dp t) rfl h0 (show i<256 by omega)
  refine .jB e ?_
  simp only[cA,gA,jA,iK (show 0≤i+1 by omega) (show i+1≤1000000000000 by omega)]
  refine .ite (fun _=> ?_) fun _=>aVN p t v4 hm j (i+1) out (by omega) (by omega)
  simp only[dB,sA,hlt,h0,and_self,if_true]
  obtain ⟨out',e'⟩:=a2Z (aA ((at_ p 1).rows) i.toNat) out
  refine .jB e' ?_
  exact aVN p t v4 hm j (i+1) _ (by omega) (by omega)
theorem a27 (p t:Row) (hm:(at_ p 1).rows.length≤256):yH (fun r=>∃out,r=[out]) ((eA T).pc gU [[.dp p],t]):=by
 rw[aMr];unfold u7
 simp only[dB,sA,if_true]
 refine .bind (aVN p t _ hm _ 0 _ (by omega) (by rw[Int.zero_add])) ?_
 rintro x ⟨out,rfl⟩
 exact .some ⟨out,rfl⟩
theorem a8E (p t:Row):∀(j:Nat) (i:Int),0≤i→i+j=4→
 yH (fun r=>r=(0,[])∨r=(1,[.r [.bool true]])) (xO (eA T) (.dp p) (.dp t) i)
 |0,i,h0,h=>by
  rw[aBM];unfold yO
  have:¬i<4:=by omega
  simp only[this,decide_false,Bool.false_eq_true,if_false]
  exact .some (.inl rfl)
 |j+1,i,h0,h=>by
  rw[aBM];unfold yO
  have hlt:i<4:=by omega
  simp only[hlt,decide_true,if_true,h0,dB,sA,and_self,iK (show 0≤i+1 by omega) (show i+1≤1000000000000 by omega)]
  exact .ite (fun _=> .some (.inr rfl)) fun _=>a8E p t j (i+1) (by omega) (by omega)
theorem a8F (p t:Row):yH (fun r=>∃b,r=[[.bool b]]) ((eA T).pc j8 [[.dp p],t]):=by
 rw[aNO];unfold aCs
 refine .bind (R:=fun r=>∃q:Bool,r=(0,[.r [.dp p],.r [.dp t],.r [.bool q]])) ?_ ?_
 ·obtain ⟨q,e⟩:=aZF (.dp t) rfl (i:=0) (by omega) (by omega)
  refine .jB e ?_
  simp only[dB,sA,if_true]
  exact .ite (fun _=> .some ⟨_,rfl⟩) fun _=> .some ⟨_,rfl⟩
 rintro x4 ⟨q,rfl⟩
 simp only[List.cons_append,List.nil_append,oD,eC,wC,cC,dF,aH,eD,uB,qC,zB,yE,bH,wH,gA,jA,rA,iA]
 refine .ite (fun _=> .some ⟨_,rfl⟩) fun _=> .bind (a8E p t 4 0 (by omega) (by omega)) ?_
 rintro x (rfl |rfl)
 ·exact .some ⟨_,rfl⟩
 ·exact .some ⟨_,rfl⟩
theorem a1d (v0:C) (m:Row) (v2 v3 v4:Int) (v6:Row) (v7:List (Row×Row)) (v8:C) (v9 v10:Row) (v12 nG:C) (h30:0≤v3) (h31:v3<256):∀(j:Nat) (i:Int) (t:Row),0≤i→i+j=4→
 yH (fun r=>∃t',r=(0,[.r [v0],.r [.dp m],.r [.int v2],.r [.int v3],.r [.int v4],.r v6,.m v7,.r [v8],.r v9,.r v10,.r t',.r [v12],.r [nG]])) (eY (eA T) v0 (.dp m) v2 v3 v4 i v6 v7 v8 v9 v10 t v12 nG)
 |0,i,t,h0,h=>by
  rw[aFY];unfold fY
  have:¬i<4:=by omega
  simp only[this,decide_false,Bool.false_eq_true,if_false]
  exact .some ⟨_,rfl⟩
 |j+1,i,t,h0,h=>by
  rw[aFY];unfold fY
  have hlt:i<4:=by omega
  simp only[hlt,decide_true,if_true,h0,dB,sA,and_self,h30,h31,iK (show 0≤i+1 by omega) (show i+1≤1000000000000 by omega)]
  rw[aN0 (k4 h0 hlt),aKP (k4 h0 hlt)]
  exact a1d v0 m v2 v3 v4 v6 v7 v8 v9 v10 v12 nG h30 h31 j (i+1) _ (by omega) (by omega)
theorem bHn {i:Int} (h0:0≤i) (h1:i<256):(List.replicate 256 (K.int .i16))[0+i.toNat*1]? =some (.int .i16):=by
 rw[List.getElem?_replicate,if_pos (by omega)]
theorem aVO (v0:C) (m:Row) (v2:Int) (v4:Row) (v8:Row) (v9 v10:C):∀(j:Nat) (i:Int) (v5:List (Row×Row)) (v6:C) (v7:Row),0≤i→i+j=256→v6.rows.length≤400→
 yH (fun r=>(∃v5' v6' v7',v6.rows.length≤v6'.rows.length∧v6'.rows.length≤400∧r=(0,[.r [v0],.r [.dp m],.r [.int v2],.r v4,.m v5',.r [v6'],.r v7',.r [v9],.r [v10]]))∨r=(1,[.r [.int 2],.r [.bA,.bA]])) (iY (eA T) v0 (.dp m) v2 i v4 v5 v6 v7 v8 v9 v10)
 |0,i,v5,v6,v7,h0,h,hl=>by
  rw[aFZ];unfold jY
  have:¬i<256:=by omega
  simp only[this,decide_false,Bool.false_eq_true,if_false]
  exact .some (.inl ⟨_,_,_,Nat.le_refl _,hl,rfl⟩)
 |j+1,i,v5,v6,v7,h0,h,hl=>by
  rw[aFZ];unfold jY
  have hlt:i<256:=by omega
  simp only[hlt,decide_true,if_true]
  refine .bind (a1d v0 m v2 i i v4 v5 v6 v7 v8 v9 v10 h0 hlt 4 0 v8 (by omega) (by omega)) ?_
  rintro x7 ⟨t,rfl⟩
  simp only[List.cons_append,List.nil_append,oD,eC,wC,cC,dF,aH,eD,uB,qC,zB,yE,bH,wH,gA,jA,rA,iA,a4l,bHm,iK (show 0≤i+1 by omega) (show i+1≤1000000000000 by omega)]
  refine .ite (fun _=> ?_) fun _=> ?_
  ·refine .pos (by simp;omega) (.ite (fun _=> .some (.inr rfl)) fun e=> ?_)
   have hl2:(wE v6 [t]).rows.length≤400:=by
    have:=of_decide_eq_false (by simpa using e:decide (((wE v6 [t]).rows.length:Int)>400)=false);omega
   refine .pos ⟨h0,hlt⟩ ?_
   rw[aKP (bHn h0 hlt)]
   refine (aVO v0 m v2 v4 v8 v9 v10 j (i+1) _ _ _ (by omega) (by omega) hl2).mono ?_
   rintro r (⟨a,b,c,g1,g2,rfl⟩|rfl)
   ·exact .inl ⟨a,b,c,by simp at g1;omega,g2,rfl⟩
   ·exact .inr rfl
  ·refine .pos ⟨h0,hlt⟩ ?_
   rw[aKP (bHn h0 hlt)]
   exact aVO v0 m v2 v4 v8 v9 v10 j (i+1) _ _ _ (by omega) (by omega) hl
theorem a1e (p m:Row) (hp:a8C p) (v3:Row):∀(j:Nat) (i:Int) (v4:List (Row×Row)) (v5 v6 v7:C),0≤i→401≤i+j→i≤v5.rows.length→v5.rows.length≤400→(v6.rows.length:Int)=i→(v7.rows.length:Int)=i→
 yH (fun r=>(∃a b c,r=(0,[.r a,.r [b],.r [c]]))∨r=(1,[.r [.int 2],.r [.bA,.bA]])) (lY (eA T) (.dp p) (.dp m) i v3 v4 v5 v6 v7)
 |0,i,v4,v5,v6,v7,h0,h,hl,hl2,h6,h7=>by omega
 |j+1,i,v4,v5,v6,v7,h0,h,hl,hl2,h6,h7=>by
  rw[aOB];unfold aDG
  refine .ite (fun e=> ?_) fun _=> .some (.inl ⟨_,_,_,rfl⟩)
  have hlt:=of_decide_eq_true e
  refine .pos ⟨h0,hlt⟩ ?_
  refine .bind (a27 p (aA v5.rows i.toNat) (by have:=hp.1;have:=hp.2.2;omega)) ?_
  rintro y4 ⟨all,rfl⟩
  simp only[cA]
  refine .bind (aVO (.dp p) m i v3 all v6 v7 256 0 v4 v5 _ (by omega) (by omega) hl2) ?_
  rintro x10 (⟨v4',v5',v7',g1,g2,rfl⟩|rfl)
  ·simp only[List.cons_append,List.nil_append,oD,eC,wC,cC,dF,aH,eD,uB,qC,zB,yE,bH,wH,gA,jA,rA,iA,a4l,bHm,iK (show 0≤i+1 by omega) (show i+1≤1000000000000 by omega)]
   refine .pos (by simp;omega) (.pos ⟨h0,by omega⟩ ?_)
   refine .bind (a8F p _) ?_
   rintro y12 ⟨b,rfl⟩
   refine .pos (by simp;omega) ?_
   exact a1e p m hp v3 j (i+1) _ _ _ _ (by omega) (by omega) (by omega) g2 (by simp;omega) (by simp;omega)
  ·exact .some (.inr rfl)
theorem a5H (s:List UInt8):yH (fun r=>∃(row:Row) (e:Int),r=[row,[.int e]]) ((eA T).pc aFt [[.str s]]):=by
 rw[aSj];unfold aJf
 refine .bind (a5G s) ?_
 rintro y1 ⟨p,e,rfl,hp⟩
 have e1:aA [p,[.int e]] 1=[.int e]:=rfl
 simp only[cA,e1,gA,iA]
 refine .ite (fun _=> .some ⟨_,e,rfl⟩) fun h=> ?_
 have hp':=hp (by simpa using h)
 obtain ⟨z,ez⟩:=a8y (i:=0) (by omega) (by omega) [.int 0,.int 0,.int 0,.int 0]
 refine .jB ez ?_
 refine .bind (bEp p hp'.2.2) ?_
 rintro y3 ⟨m,rfl⟩
 simp only[cA,gA,eD]
 refine .bind (a1e p m hp' _ 401 0 _ _ _ _ (by omega) (by omega) (by simp[C.rows]) (by simp[C.rows]) rfl rfl) ?_
 rintro x (⟨a,b,c,rfl⟩|rfl)
 ·exact .some ⟨_,_,rfl⟩
 ·exact .some ⟨_,_,rfl⟩
theorem aZG (s:List UInt8):∃e:Int,(eA T).pc bI [[.str s]]=some [[.int e]]:=by
 have:yH (fun r=>∃e:Int,r=[[.int e]]) ((eA T).pc bI [[.str s]]):=by
  rw[aSk];unfold aJg
  refine .bind (a5H s) ?_
  rintro y ⟨row,e,rfl⟩
  exact .some ⟨_,rfl⟩
 obtain ⟨r,h,e,rfl⟩:=this
 exact ⟨e,h⟩
end Go.Ev.dJ
namespace Go.Ev.dJ
abbrev big:Nat:=4294967296
theorem bEq {i:Nat} (h:i≤big):aB5 ((i:Int)+1):=by unfold big at h;exact ⟨by omega,by omega⟩
theorem xB {i:Nat} (h:i≤big):IntKind.wrap .i64 ((i:Int)+1)=((i+1:Nat):Int):=by rw[wrap_i64 (bEq h)];omega
theorem a5I (a:Int):(eA T).pc aAz [[.int a]]=some [[.bool false]]:=by
 rw[aSg];simp[cmp_isNaN_int]
theorem aTj (a b:Int):(eA T).pc dV [[.int a],[.int b]]=some [[.int (aOw a b)]]:=by
 rw[aPK]
 unfold cmp_Compare_int aOw
 simp only[a5I,Option.bind_some,cA,gA,jA,Bool.false_eq_true,if_false,decide_eq_true_eq]
 split
 ·rfl
 ·split<;>rfl
theorem aN2 (a b:Bytes):(eA T).pc cV [[.str a],[.str b]]=some [[.int (nF a b)]]:=by
 rw[aPL]
 unfold strings_Compare
 rw[aBW]
 simp[xI]
def aVP (n:Int):Row:=[.int n]
theorem a1f (l:List Int) (hN:l.length≤big):∀(j i:Nat),i+j=l.length→
 aD8 (eA T) 0 (.sl (l.map aVP)) (l.length:Int) (i:Int)=if orI (l.drop i)=0 then some (0,[.r [.int 0]])else some (1,[.r [.int (orI (l.drop i))]])
 |0,i,h=>by
  rw[aKu]
  unfold aD9
  have:¬(i:Int)<(l.length:Int):=by omega
  rw[List.drop_eq_nil_of_le (by omega)]
  simp[this,orI]
 |j+1,i,h=>by
  rw[aKu]
  unfold aD9
  have h1:i<l.length:=by omega
  have ih:=a1f l hN j (i+1) (by omega)
  rw[List.drop_eq_getElem_cons h1]
  simp only[aB4,iC,List.length_map,Int.toNat_natCast,h1,xB (show i≤big by omega),ih,orI,aVP,gA,iA]
  have g1:(i:Int)<(l.length:Int):=by omega
  have g0:(0:Int)≤(i:Int):=by omega
  simp only[g1,g0,decide_true,and_self,if_true]
  by_cases hc:l[i]=0<;>simp[hc]
theorem a8G (l:List Int) (hN:l.length≤big):(eA T).pc aGj [[.sl (l.map aVP)]]=some [[.int (orI l)]]:=by
 rw[aWT]
 unfold aPl
 simp only[aB4,List.length_map]
 have:=a1f l hN l.length 0 (by omega)
 simp only[Int.ofNat_zero,Int.natCast_zero]at this
 rw[this,List.drop_zero]
 by_cases h:orI l=0<;>simp[h]
theorem aVQ (n:Int) (h:aB5 n):(eA T).pc aEb [[.int n]]=some [[.int (aNj n)]]:=by
 rw[aVn]
 unfold aNx aNj
 by_cases hn:n<0
 ·have h':=h
  obtain ⟨h1,h2⟩:=h'
  simp only[hn,decide_true,if_true,a9C h hn]
  rw[wrap_i64 ⟨by omega,by omega⟩]
 ·simp only[hn,decide_false,Bool.false_eq_true,if_false]
theorem aN3 (b b':Bool) (l r:List (Bytes×aB)) (hN:l.length≤big) (hc:∀p∈l,∀q∈r,(eA T).pc fJ [vD p,vD q]=some [[.int (aA1 p q)]]):∀(j i:Nat),i+j=l.length→i≤r.length→
 sE (eA T) (nK b (l.map vD)) (nK b' (r.map vD)) (.fn fJ []) (nK b (l.map vD)) (l.length:Int) (i:Int)=
  if aRC aA1 (l.drop i) (r.drop i)=0 then some (0,[.r [nK b (l.map vD)],.r [nK b' (r.map vD)]])else some (1,[.r [.int (aRC aA1 (l.drop i) (r.drop i))]])
 |0,i,h,_=>by
  rw[qN]
  unfold tE
  have:¬(i:Int)<(l.length:Int):=by omega
  rw[List.drop_eq_nil_of_le (by omega)]
  simp[this,aRC]
 |j+1,i,h,hir=>by
  rw[qN]
  unfold tE
  have h1:i<l.length:=by omega
  have g1:(i:Int)<(l.length:Int):=by omega
  have g0:(0:Int)≤(i:Int):=by omega
  rw[List.drop_eq_getElem_cons h1]
  by_cases h2:i<r.length
  ·have ih:=aN3 b b' l r hN hc j (i+1) (by omega) (by omega)
   rw[List.drop_eq_getElem_cons h2]
   have g2:(i:Int)<(r.length:Int):=by omega
   have g3:¬(i:Int)≥(r.length:Int):=by omega
   have hcc:=hc l[i] (List.getElem_mem h1) r[i] (List.getElem_mem h2)
   have bJT:aOH (eA T) (.fn fJ []) [vD l[i],vD r[i]]=some [[.int (aA1 l[i] r[i])]]:=hcc
   simp only[kC,iC,List.length_map,Int.toNat_natCast,h1,h2,xB (show i≤big by omega),ih,aRC,g1,g2,g0,g3,decide_true,decide_false,Bool.false_eq_true,if_false,and_self,if_true,bJT,Option.bind_some,cA,gA,iA]
   by_cases hz:aA1 l[i] r[i]=0<;>simp[hz]
  ·have g3:(i:Int)≥(r.length:Int):=by omega
   rw[List.drop_eq_nil_of_le (show r.length≤i by omega)]
   simp only[kC,List.length_map,g1,g0,g3,decide_true,and_self,if_true,aRC]
   simp
theorem aZH (b b':Bool) (l r:List (Bytes×aB)) (hN:l.length≤big) (hc:∀p∈l,∀q∈r,(eA T).pc fJ [vD p,vD q]=some [[.int (aA1 p q)]]):
 (eA T).pc yI [[nK b (l.map vD)],[nK b' (r.map vD)],[.fn fJ []]]=some [[.int (aK8 aA1 l r)]]:=by
 rw[aDg]
 unfold rL
 have:=aN3 b b' l r hN hc l.length 0 (by omega) (by omega)
 simp only[Int.ofNat_zero,Int.natCast_zero,List.drop_zero]at this
 simp only[kC,List.length_map]
 rw[this,aXm]
 by_cases h:aRC aA1 l r=0
 ·by_cases h':l.length<r.length<;>simp[h,h']
 ·simp[h]
theorem a1g (v w:aB) (hv:v.wf) (hw:w.wf) (hN:v.fB≤big):(eA T).pc aIr [v.row,w.row]=some [[.int (v.cmp w)]]:=by
 have aBk:∀p∈v.fs,∀q∈w.fs,(eA T).pc fJ [vD p,vD q]=some [[.int (aA1 p q)]]:=by
  intro p hp q hq
  have:=aB.sD hp
  have hb:=aB.aJ5 hp
  have ih:=a1g p.2 q.2 (aB.aYz hv hp) (aB.aYz hw hq) (by omega)
  rw[aVo]
  unfold aNy
  have ho:=a8G [nF p.1 q.1,p.2.cmp q.2] (by simp[big])
  simp only[List.map_cons,List.map_nil,aVP]at ho
  simp only[a3u,aYB,aYC,aYD,aYE,rA,aHe,aN2,ih,Option.bind_some,cA,gA,iA,ho,aA1]
 rw[aZn]
 unfold aRT
 have hf:=aZH v.nil w.nil v.fs w.fs (by have:=v.aHd;omega) aBk
 rw[←v.aZW,←w.aZW]at hf
 have ho:=a8G [aOw v.k w.k,aOw (if v.k=3 then aNj v.n else v.n) (if v.k=3 then aNj w.n else w.n),nF v.s w.s] (by simp[big])
 simp only[List.map_cons,List.map_nil,aVP]at ho
 rw[v.cmp_eq]
 by_cases k3:v.k=3
 ·simp only[k3,if_true]at ho
  simp only[aIh,aK5,aK6,yX,iA,rA,k3,beq_self_eq_true,if_true,aVQ _ (aB.aWd hv),aVQ _ (aB.aWd hw),Option.bind_some,cA,gA,oD,eC,wC,cC,dF,aH,eD,uB,qC,zB,yE,bH,wH,List.tail_cons,dB,sA,aTj,aN2,ho,hf]
  generalize orI _=c
  by_cases hc:c=0<;>simp[hc]
 ·simp only[k3,if_false]at ho
  have k3':(v.k==3)=false:=by simp[k3]
  simp only[aIh,aK5,aK6,yX,iA,rA,k3,k3',Bool.false_eq_true,if_false,Option.bind_some,cA,gA,oD,eC,wC,cC,dF,aH,eD,uB,qC,zB,yE,bH,wH,List.tail_cons,dB,sA,aTj,aN2,ho,hf,if_true]
  generalize orI _=c
  by_cases hc:c=0<;>simp[hc]
 termination_by SizeOf.sizeOf v
theorem aSr (v w:aB) (hv:v.wf) (hw:w.wf) (hN:v.fB≤big):(eA T).pc mY [v.row,w.row]=some [[.bool (v.eqv w)]]:=by
 rw[aWU]
 unfold aPo
 simp only[a1g v w hv hw hN,Option.bind_some,cA,gA,iA]
 have:=aB.a0a v w hv hw
 cases he:v.eqv w with
 |true=>rw[this.2 he];rfl
 |false=>
  have hne:¬v.cmp w=0:=fun h=>by rw[this.1 h]at he;cases he
  simp[hne]
theorem a4m (v w:aB) (hl:v.fs.length=w.fs.length) (hN:v.fs.length≤big) (hc:∀p∈v.fs,∀u:aB,(eA T).pc bF [p.2.row,u.row]=some [[.bool (p.2.eqv u)]]):∀(j i:Nat),i+j=v.fs.length→
 rY (eA T) (.dp w.row) v.fc (v.fs.length:Int) (i:Int)=if nL aNi (v.fs.drop i) (w.fs.drop i)=true then some (0,[])else some (1,[.r [.bool false]])
 |0,i,h=>by
  rw[aF0]
  unfold sY
  have:¬(i:Int)<(v.fs.length:Int):=by omega
  rw[List.drop_eq_nil_of_le (by omega),List.drop_eq_nil_of_le (by omega)]
  simp[this,nL]
 |j+1,i,h=>by
  rw[aF0]
  unfold sY
  have h1:i<v.fs.length:=by omega
  have h2:i<w.fs.length:=by omega
  have ih:=a4m v w hl hN hc j (i+1) (by omega)
  rw[List.drop_eq_getElem_cons h1,List.drop_eq_getElem_cons h2]
  have hcc:=hc _ (List.getElem_mem h1) (w.fs[i].2)
  have g1:(i:Int)<(v.fs.length:Int):=by omega
  have g2:(i:Int)<(w.fs.length:Int):=by omega
  have g0:(0:Int)≤(i:Int):=by omega
  simp only[aB.xX,dB,sA,yX,iC,List.length_map,Int.toNat_natCast,h1,h2,a3u,aYB,aYC,aYD,aYE,rA,aHe,hcc,xB (show i≤big by omega),ih,nL,g1,g2,g0,decide_true,and_self,if_true,Option.bind_some,cA,gA,jA,aNi]
  by_cases hc:v.fs[i].1=w.fs[i].1
  ·simp only[hc,beq_self_eq_true,Bool.not_true,Bool.false_eq_true,if_false,Bool.true_and]
   cases he:v.fs[i].2.eqv w.fs[i].2<;>simp
  ·simp[hc]
theorem aDY (v w:aB) (hN:v.fB≤big):(eA T).pc bF [v.row,w.row]=some [[.bool (v.eqv w)]]:=by
 have aBk:∀p∈v.fs,∀u:aB,(eA T).pc bF [p.2.row,u.row]=some [[.bool (p.2.eqv u)]]:=by
  intro p hp u
  have:=aB.sD hp
  have hb:=aB.aJ5 hp
  exact aDY p.2 u (by omega)
 rw[aSl]
 unfold aJD
 rw[v.aPc]
 simp only[aIh,aK5,aK6,yX,iA,rA,aB.xX,List.length_map]
 by_cases h1:v.k=w.k
 ·by_cases h2:v.n=w.n
  ·by_cases h3:v.s=w.s
   ·by_cases h4:v.fs.length=w.fs.length
    ·have:=a4m v w h4 (by have:=v.aHd;omega) aBk v.fs.length 0 (by omega)
     simp only[Int.ofNat_zero,Int.natCast_zero,List.drop_zero]at this
     have e4:((v.fs.length:Int) !=(w.fs.length:Int))=false:=by simp[h4]
     simp only[h1,h2,h3,e4,bne_self_eq_false,beq_self_eq_true,Bool.not_true,Bool.false_eq_true,if_false,Option.bind_some,oD,eC,wC,cC,dF,aH,eD,uB,qC,zB,yE,bH,wH,List.tail_cons,gA,jA,dB,if_true,sA,yX,aB.xX,List.length_map,this,Bool.true_and]
     cases nL aNi v.fs w.fs<;>simp
    ·have e4:((v.fs.length:Int) !=(w.fs.length:Int))=true:=by simp;omega
     have e5:nL aNi v.fs w.fs=false:=by
      cases h:nL aNi v.fs w.fs
      ·rfl
      ·exact absurd (aUD h) h4
     simp[h1,h2,h3,e4,e5]
   ·simp[h1,h2,h3]
  ·simp[h1,h2]
 ·simp[h1]
 termination_by SizeOf.sizeOf v
end Go.Ev.dJ
namespace Go.Ev.dJ
theorem a8H (s:List UInt8) (hN:s.length≤big):∀(j i:Nat),i+j=s.length→
 yH (fun r=>r=(0,[])∨r=(1,[.r [.bool false]])) (aEd (eA T) (.sl (s.map uU)) (s.length:Int) (i:Int))
 |0,i,h=>by
  rw[aKv];unfold aEe
  have:¬(i:Int)<(s.length:Int):=by omega
  simp only[this,decide_false,Bool.false_eq_true,if_false]
  exact .some (.inl rfl)
 |j+1,i,h=>by
  rw[aKv];unfold aEe
  have hlt:(i:Int)<(s.length:Int):=by omega
  simp only[hlt,decide_true,if_true]
  refine .bind (R:=fun r=>r=(0,[.r [.sl (s.map uU)],.r [.int (s.length:Int)],.r [.int (i:Int)]])∨r=(1,[.r [.bool false]])) ?_ ?_
  ·refine .pos ⟨by omega,by simpa[C.rows]using hlt⟩ ?_
   repeat' (first |exact .some (.inl rfl)|exact .some (.inr rfl)|refine .ite (fun _=> ?_) fun _=> ?_)
  ·rintro r (rfl |rfl)
   ·simp only[uB,eC,qC,wC]
    rw[xB (by omega)]
    exact a8H s hN j (i+1) (by omega)
   ·exact .some (.inr rfl)
theorem a1h (s:List UInt8):∃b:Bool,(eA T).pc fH [[.str s]]=some [[.bool b]]:=by
 have:yH (fun r=>∃b:Bool,r=[[.bool b]]) ((eA T).pc fH [[.str s]]):=by
  rw[aWV];unfold aPp
  refine .bind (R:=fun r=>∃q:Bool,(q=false→s.length≤16)∧r=(0,[.r [.str s],.r [.bool q]])) ?_ ?_
  ·refine .ite (fun _=> ?_) fun hne=> ?_
   ·simp only[if_true];exact .some ⟨true,fun h=>(by cases h),rfl⟩
   have hpos:0<s.length:=by
    rcases s with _ |⟨a,s⟩
    ·simp at hne
    ·simp
   refine .ite (fun _=> ?_) fun h=> ?_
   ·simp only[if_true];exact .some ⟨true,fun h=>(by cases h),rfl⟩
   have h16:s.length≤16:=by have:=of_decide_eq_false (by simpa using h:decide ((s.length:Int)>16)=false);omega
   refine .pos ⟨by omega,by omega⟩ ?_
   refine .ite (fun _=> .some ⟨true,fun h=>(by cases h),rfl⟩) fun _=> .pos ⟨by omega,by omega⟩ (.some ⟨_,fun _=>h16,rfl⟩)
  rintro r ⟨q,hq,rfl⟩
  simp only[cC,zB,yE,List.length_map]
  refine .ite (fun _=> .some ⟨_,rfl⟩) fun h=> ?_
  refine .bind (a8H s (by have:=hq (by simpa using h);unfold big;omega) s.length 0 (by omega)) ?_
  rintro r (rfl |rfl)
  ·exact .some ⟨_,rfl⟩
  ·exact .some ⟨_,rfl⟩
 obtain ⟨r,h,b,rfl⟩:=this
 exact ⟨b,h⟩
noncomputable def nm (s:List UInt8):Bool:=(a1h s).choose
theorem aG8 (s:List UInt8):(eA T).pc fH [[.str s]]=some [[.bool (nm s)]]:=(a1h s).choose_spec
theorem aZI (p:Bytes×aB):([at_ (vD p) 1,at_ (vD p) 2,at_ (vD p) 3,at_ (vD p) 4]:Row)=p.2.row:=rfl
theorem dec_lt {i n:Nat} (h:i<n):decide ((i:Int)<(n:Int))=true:=decide_eq_true (by omega)
theorem aC8 {n:Nat}:¬decide ((n:Int)<(n:Int))=true:=by simp
theorem aFc {i:Nat} {rows:List Row} (h:i<rows.length):(0:Int)≤(i:Int)∧(i:Int)<(rows.length:Int):=⟨by omega,by omega⟩
abbrev aRi (x:Option (List Row)):Prop:=yH (fun r=>∃n:Int,r=[[.int n]]) x
theorem a4n (v:aB) (hN:v.fs.length≤big) (hc:∀p∈v.fs,aRi ((eA T).pc bY [p.2.row])):∀(j i:Nat) (a:Int),i+j=v.fs.length→
 yH (fun r=>∃n:Int,r=(0,[.r [.int n]])) (aEg (eA T) a v.fc (v.fs.length:Int) (i:Int))
 |0,i,a,h=>by
  rw[aKw];unfold aEh
  obtain rfl:i=v.fs.length:=by omega
  exact .ite (fun h=>absurd h aC8) fun _=> .some ⟨_,rfl⟩
 |j+1,i,a,h=>by
  rw[aKw];unfold aEh
  have hi:i<v.fs.length:=by omega
  refine .pos (dec_lt hi) (.pos (aFc (by simpa using hi)) ?_)
  rw[v.xX,Int.toNat_natCast,iC _ _ _ hi,aZI,xB (by omega)]
  refine .bind (hc _ (List.getElem_mem hi)) ?_
  rintro r ⟨n,rfl⟩
  exact a4n v hN hc j (i+1) _ (by omega)
theorem aYe (v:aB) (hN:v.fB≤big):aRi ((eA T).pc bY [v.row]):=by
 have aBk:∀p∈v.fs,aRi ((eA T).pc bY [p.2.row]):=fun p hp=>by
  have:=aB.sD hp
  have hb:=aB.aJ5 hp
  exact aYe p.2 (by omega)
 rw[aWW];unfold aPq
 simp only[yX,aB.xX,List.length_map]
 refine .bind (a4n v (by have:=v.aHd;omega) aBk v.fs.length 0 1 (by omega)) ?_
 rintro r ⟨n,rfl⟩
 exact .some ⟨_,rfl⟩
 termination_by SizeOf.sizeOf v
theorem a4o (v:aB) (hN:v.fs.length≤big) (hc:∀p∈v.fs,aRi ((eA T).pc cY [p.2.row])):∀(j i:Nat) (a:Int),i+j=v.fs.length→
 yH (fun r=>∃n:Int,r=(0,[.r [.int n]])) (aEj (eA T) a v.fc (v.fs.length:Int) (i:Int))
 |0,i,a,h=>by
  rw[aKx];unfold aEk
  obtain rfl:i=v.fs.length:=by omega
  exact .ite (fun h=>absurd h aC8) fun _=> .some ⟨_,rfl⟩
 |j+1,i,a,h=>by
  rw[aKx];unfold aEk
  have hi:i<v.fs.length:=by omega
  refine .pos (dec_lt hi) (.pos (aFc (by simpa using hi)) ?_)
  rw[v.xX,Int.toNat_natCast,iC _ _ _ hi,aZI,xB (by omega)]
  refine .bind (hc _ (List.getElem_mem hi)) ?_
  rintro r ⟨n,rfl⟩
  exact a4o v hN hc j (i+1) _ (by omega)
theorem aYf (v:aB) (hN:v.fB≤big):aRi ((eA T).pc cY [v.row]):=by
 have aBk:∀p∈v.fs,aRi ((eA T).pc cY [p.2.row]):=fun p hp=>by
  have:=aB.sD hp
  have hb:=aB.aJ5 hp
  exact aYf p.2 (by omega)
 rw[aWX];unfold aPr
 simp only[yX,aB.xX,List.length_map]
 refine .bind (a4o v (by have:=v.aHd;omega) aBk v.fs.length 0 0 (by omega)) ?_
 rintro r ⟨n,rfl⟩
 exact .some ⟨_,rfl⟩
 termination_by SizeOf.sizeOf v
def a8I (k:Int):Bool:=(decide (k≥1)&&decide (k≤4))||k==11
def a29 (k:Int):Bool:=(decide (k≥0)&&decide (k≤5))||k==11
def aO (v:aB):Bool:=(!a8I v.k&&v.n !=0)||(v.k !=5&& !(v.s==[]))||(a29 v.k&&decide ((v.fs.length:Int)>0))
theorem a1i (k:Int):(eA T).pc aCc [[.int k]]=some [[.bool (a29 k)]]:=by
 rw[aTO];unfold aLz a29
 by_cases h:k≥0
 ·by_cases h2:k≤5
  ·simp[h,h2]
  ·simp[h,h2]
 ·simp[h]
theorem yH.eq {β:Type} {x:Option β} {y:β} (h:yH (fun r=>r=y) x):x=Option.some y:=by
 obtain ⟨r,e,rfl⟩:=h;exact e
theorem a1j (v:aB):(eA T).pc aCk [v.row]=some [[.bool (aO v)]]:=by
 refine yH.eq ?_
 rw[aTP];unfold aLA
 refine .bind (R:=fun r=>r=(0,[.r [.dp v.row],.r [.bool (a8I v.k)]])) ?_ ?_
 ·simp only[aIh,iA]
  unfold a8I
  by_cases h:v.k≥1
  ·by_cases h2:v.k≤4
   ·simp only[h,h2,decide_true,if_true];exact .some rfl
   ·simp only[h,h2,decide_true,decide_false,if_true,Bool.false_eq_true,if_false];exact .some rfl
  ·simp only[h,decide_false,if_true,Bool.false_eq_true,if_false];exact .some rfl
 rintro r rfl
 simp only[cC,zB,uB,sA,dB,if_true,aIh,aK5,aK6,yX,iA,rA,aB.xX,List.length_map]
 unfold aO
 have fin:∀a f:Bool,yH (fun r:List Row=>r=[[C.bool (a ||(a29 v.k&&f))]]) (if a=true then some [[C.bool true]]else ((eA T).pc aCc [[C.int v.k]]).bind fun y12=>if (at_ (aA y12 0) 0).rJ=true then some [[C.bool f]]else some [[C.bool false]]):=by
  intro a f
  cases a
  ·refine .jB (a1i v.k) ?_
   simp only[cA,gA,jA]
   cases a29 v.k
   ·exact .some rfl
   ·exact .some rfl
  ·exact .some rfl
 generalize a8I v.k=a
 generalize (v.n !=0)=b
 generalize (v.k !=5)=c
 generalize (v.s==[])=d
 generalize decide ((v.fs.length:Int)>0)=f at fin⊢
 cases a<;>cases b<;>cases c<;>cases d<;>first |exact .some rfl |exact fin false f
theorem a3a (v:aB):yH (fun r=>∃b:Bool,r=[[.bool b]]) ((eA T).pc aHn [v.row]):=by
 rw[aTQ];unfold aLB
 repeat' (first |exact .some ⟨_,rfl⟩|refine .ite (fun _=> ?_) fun _=> ?_)
theorem aTZ (c0:C) (c:Row) (h0:c0.rows.length≤big):yH (fun r=>∃b:Bool,r=[[.bool b]]) ((eA T).pc fI [[c0],[.fn uL [.dp c]]]):=by
 rw[aC5];unfold zJ
 have:aRi ((eA T).pc sL [[c0],[.fn uL [.dp c]]]):=by
  rw[aEZ];unfold bN
  refine .bind (R:=fun r=>r=(0,[])∨∃n:Int,r=(1,[.r [.int n]])) ?_ ?_
  ·have key:∀(j i:Nat),i+j=c0.rows.length→
    yH (fun r=>r=(0,[])∨∃n:Int,r=(1,[.r [.int n]])) (rF (eA T) c0 (.fn uL [.dp c]) (c0.rows.length:Int) (i:Int)):=by
    intro j
    induction j with
    |zero=>
     intro i h
     rw[gP];unfold sF
     obtain rfl:i=c0.rows.length:=by omega
     exact .ite (fun h=>absurd h aC8) fun _=> .some (.inl rfl)
    |succ j ih=>
     intro i h
     rw[gP];unfold sF
     have hi:i<c0.rows.length:=by omega
     refine .pos (dec_lt hi) (.pos (aFc hi) ?_)
     have e:aOH (eA T) (.fn uL [.dp c]) [aA c0.rows (i:Int).toNat]=some [[.bool (((at_ (aA c0.rows (i:Int).toNat) 0).qE)==((at_ c 0).qE))]]:=by
      show (eA T).pc uL [aA c0.rows (i:Int).toNat,[.dp c]]=_
      rw[aSh];unfold aI4
      simp only[dB,if_true,sA]
     refine .jB e ?_
     rw[xB (show i≤big by omega)]
     exact .ite (fun _=> .some (.inr ⟨_,rfl⟩)) fun _=>ih (i+1) (by omega)
   exact key _ 0 (Nat.zero_add _)
  rintro r (rfl |⟨n,rfl⟩)
  ·exact .some ⟨_,rfl⟩
  ·exact .some ⟨_,rfl⟩
 refine .bind this ?_
 rintro r ⟨n,rfl⟩
 exact .some ⟨_,rfl⟩
theorem a8J (c:C) (i:Nat) (h:i≤c.rows.length):(eR c 0 (i:Int)).rows.length=i:=by
 have h0:(C.rows c).length=c.rows.length:=rfl
 unfold eR
 split
 ·simp[C.rows]at h⊢;omega
 ·simp[C.rows]at h⊢
  split<;>simp_all
theorem a3b (c:C) (h0:c.rows.length≤big):aRi ((eA T).pc aAd [[c]]):=by
 rw[aVp];unfold aNz
 refine .bind (R:=fun r=>r=(0,[])∨∃n:Int,r=(1,[.r [.int n]])) ?_ ?_
 ·have key:∀(j i:Nat),i+j=c.rows.length→yH (fun r=>r=(0,[])∨∃n:Int,r=(1,[.r [.int n]])) (aCg (eA T) c c (c.rows.length:Int) (i:Int)):=by
   intro j
   induction j with
   |zero=>
    intro i h
    rw[aIC];unfold aCh
    obtain rfl:i=c.rows.length:=by omega
    exact .ite (fun h=>absurd h aC8) fun _=> .some (.inl rfl)
   |succ j ih=>
    intro i h
    rw[aIC];unfold aCh
    have hi:i<c.rows.length:=by omega
    refine .pos (dec_lt hi) (.pos (aFc hi) ?_)
    refine .jB (aG8 _) ?_
    refine .ite (fun _=> .some (.inr ⟨_,rfl⟩)) fun _=> ?_
    refine .pos ⟨by omega,by omega,by omega⟩ ?_
    refine .bind (aTZ _ _ (by rw[a8J c i (by omega)];omega)) ?_
    rintro r ⟨b,rfl⟩
    rw[xB (show i≤big by omega)]
    exact .ite (fun _=> .some (.inr ⟨_,rfl⟩)) fun _=>ih (i+1) (by omega)
  exact key _ 0 (Nat.zero_add _)
 rintro r (rfl |⟨n,rfl⟩)
 ·exact .some ⟨_,rfl⟩
 ·exact .some ⟨_,rfl⟩
theorem a5J (p:Row) (h0:(at_ p 3).rows.length≤big):aRi ((eA T).pc aCj [p]):=by
 rw[aWY];unfold aPs
 refine .bind (R:=fun r=>r=(0,[])∨∃n:Int,r=(1,[.r [.int n]])) ?_ ?_
 ·have key:∀(j i:Nat),i+j=(at_ p 3).rows.length→yH (fun r=>r=(0,[])∨∃n:Int,r=(1,[.r [.int n]])) (aEn (eA T) (.dp p) (at_ p 3) ((at_ p 3).rows.length:Int) (i:Int)):=by
   intro j
   induction j with
   |zero=>
    intro i h
    rw[aKy];unfold aEo
    obtain rfl:i=(at_ p 3).rows.length:=by omega
    exact .ite (fun h=>absurd h aC8) fun _=> .some (.inl rfl)
   |succ j ih=>
    intro i h
    rw[aKy];unfold aEo
    have hi:i<(at_ p 3).rows.length:=by omega
    refine .pos (dec_lt hi) ?_
    refine .bind (R:=fun r=>r=(0,[.r [.dp p],.r [at_ p 3],.r [.int ((at_ p 3).rows.length:Int)],.r [.int (i:Int)]])∨∃n:Int,r=(1,[.r [.int n]])) ?_ ?_
    ·refine .pos (aFc hi) ?_
     refine .bind (R:=fun r=>∃(q:Bool) (w:Row),r=(0,[.r [.dp p],.r [.int (i:Int)],.r [at_ p 3],.r [.int ((at_ p 3).rows.length:Int)],.r [.int (i:Int)],.r [.bool q],.r w])) ?_ ?_
     ·simp only[dB,if_true]
      exact .ite (fun _=> .some ⟨_,_,rfl⟩) fun _=> .some ⟨_,_,rfl⟩
     rintro r ⟨q,w,rfl⟩
     simp only[cC,zB,eC,uB,wC,qC,dB,if_true,sA]
     refine .ite (fun _=> .some (.inr ⟨_,rfl⟩)) fun _=> .ite (fun _=> .some (.inl rfl)) fun _=> .ite (fun _=> .some (.inr ⟨_,rfl⟩)) fun _=> ?_
     refine .ite (fun hpos=> ?_) fun _=> ?_
     ·have hp:(0:Int)<(i:Int):=of_decide_eq_true hpos
      have ew:IntKind.wrap .i64 ((i:Int) - 1)=(i:Int) - 1:=iK (by omega) (by unfold big at h0;omega)
      refine .pos (by rw[ew];omega) ?_
      exact .ite (fun _=> .some (.inr ⟨_,rfl⟩)) fun _=> .some (.inl rfl)
     ·exact .ite (fun _=> .some (.inr ⟨_,rfl⟩)) fun _=> .some (.inl rfl)
    rintro r (rfl |⟨n,rfl⟩)
    ·simp only[eC,uB,wC,qC]
     rw[xB (show i≤big by omega)]
     exact ih (i+1) (by omega)
    ·exact .some (.inr ⟨_,rfl⟩)
  exact key _ 0 (Nat.zero_add _)
 rintro r (rfl |⟨n,rfl⟩)
 ·exact .some ⟨_,rfl⟩
 ·exact .some ⟨_,rfl⟩
theorem a1k (v:aB) (h0:v.fs.length≤big):aRi ((eA T).pc aHo [v.row]):=by
 rw[aTR];unfold aLC
 have h1:(at_ v.row 3).rows.length≤big:=by rw[yX,aB.xX,List.length_map];exact h0
 have kn:∀{f:List Row→Option (List Row)},(∀r,∃n:Int,f r=some [[.int n]])→aRi (((eA T).pc aAd [[at_ v.row 3]]).bind f):=fun hf=> .bind (a3b _ h1) fun r _=>by obtain ⟨n,e⟩:=hf r;rw[e];exact .some ⟨n,rfl⟩
 have kk:∀{f:List Row→Option (List Row)},(∀r,∃n:Int,f r=some [[.int n]])→aRi (((eA T).pc aCj [v.row]).bind f):=fun hf=> .bind (a5J _ h1) fun r _=>by obtain ⟨n,e⟩:=hf r;rw[e];exact .some ⟨n,rfl⟩
 repeat' (first |exact .some ⟨_,rfl⟩|exact kn fun r=>⟨_,rfl⟩|exact kk fun r=>⟨_,rfl⟩|refine .ite (fun _=> ?_) fun _=> ?_)
theorem a4p (v:aB) (hN:v.fs.length≤big) (hc:∀p∈v.fs,aRi ((eA T).pc xR [p.2.row,[.bool false]])):∀(j i:Nat),i+j=v.fs.length→
 yH (fun r=>r=(0,[])∨∃n:Int,r=(1,[.r [.int n]])) (aEq (eA T) v.fc (v.fs.length:Int) (i:Int))
 |0,i,h=>by
  rw[aKz];unfold aEr
  obtain rfl:i=v.fs.length:=by omega
  exact .ite (fun h=>absurd h aC8) fun _=> .some (.inl rfl)
 |j+1,i,h=>by
  rw[aKz];unfold aEr
  have hi:i<v.fs.length:=by omega
  refine .pos (dec_lt hi) (.pos (aFc (by simpa using hi)) ?_)
  rw[v.xX,Int.toNat_natCast,iC _ _ _ hi,aZI,xB (by omega)]
  refine .bind (hc _ (List.getElem_mem hi)) ?_
  rintro r ⟨n,rfl⟩
  exact .ite (fun _=> .some (.inr ⟨_,rfl⟩)) fun _=>a4p v hN hc j (i+1) (by omega)
theorem aYg (v:aB) (b:Bool) (hN:v.fB≤big):yH (fun r=>∃n:Int,r=[[.int n]]∧(n=0→aO v=false)) ((eA T).pc xR [v.row,[.bool b]]):=by
 have aBk:∀p∈v.fs,aRi ((eA T).pc xR [p.2.row,[.bool false]]):=fun p hp=>by
  have:=aB.sD hp
  have hb:=aB.aJ5 hp
  exact (aYg p.2 false (by omega)).mono fun r ⟨n,e,_⟩=>⟨n,e⟩
 have hlen:v.fs.length≤big:=by have:=v.aHd;omega
 rw[aWZ];unfold aPt
 refine .bind (R:=fun r=>(r=(0,[.r [.dp v.row]])∧aO v=false)∨∃n:Int,n≠0∧r=(1,[.r [.int n]])) ?_ ?_
 ·refine .bind (R:=fun r=>∃q:Bool,r=(0,[.r [.dp v.row],.r [.bool q]])∧(q=false→aO v=false)) ?_ ?_
  ·have fin:yH (fun r=>∃q:Bool,r=(0,[.r [.dp v.row],.r [.bool q]])∧(q=false→aO v=false)) (((eA T).pc aCk [v.row]).bind fun y9=>some ((0:Nat),([.r [.dp v.row],.r [.bool (at_ (aA y9 0) 0).rJ]]:List PV))):=
    .jB (a1j v) (.some ⟨aO v,rfl,fun h=>h⟩)
   repeat' (first |exact fin |exact .some ⟨true,rfl,fun h=>by cases h⟩|refine .ite (fun _=> ?_) fun _=> ?_)
  rintro r ⟨q,rfl,hq⟩
  simp only[cC,zB,uB,dB,if_true,sA]
  refine .ite (fun _=> .some (.inr ⟨3,by decide,rfl⟩)) fun h=> ?_
  refine .bind (a3a v) ?_
  rintro r ⟨b',rfl⟩
  exact .ite (fun _=> .some (.inr ⟨11,by decide,rfl⟩)) fun _=> .some (.inl ⟨rfl,hq (by simpa using h)⟩)
 rintro r (⟨rfl,hu⟩|⟨n,hn,rfl⟩)
 ·simp only[uB,dB,if_true,sA]
  refine .bind (a1k v hlen) ?_
  rintro r ⟨n,rfl⟩
  refine .ite (fun _=> .some ⟨n,rfl,fun _=>hu⟩) fun _=> ?_
  simp only[yX,aB.xX,List.length_map]
  refine .bind (a4p v hlen aBk v.fs.length 0 (by omega)) ?_
  rintro r (rfl |⟨n,rfl⟩)
  ·exact .some ⟨_,rfl,fun _=>hu⟩
  ·exact .some ⟨_,rfl,fun _=>hu⟩
 ·exact .some ⟨n,rfl,fun h=>absurd h hn⟩
 termination_by SizeOf.sizeOf v
theorem a3c (v:aB) (hN:v.fB≤big):∃n:Int,(eA T).pc oJ [v.row]=some [[.int n]]∧(n=0→aO v=false):=by
 have:yH (fun r=>∃n:Int,r=[[.int n]]∧(n=0→aO v=false)) ((eA T).pc oJ [v.row]):=by
  rw[aVq];unfold aNA
  refine .bind (aYe v hN) ?_
  rintro r ⟨n,rfl⟩
  have fin:∀q:Bool,yH (fun r=>∃n:Int,r=[[.int n]]∧(n=0→aO v=false)) (if q=true then some [[C.int 2]]else ((eA T).pc xR [v.row,[.bool true]]).bind fun y4=>some [[C.int (at_ (aA y4 0) 0).uA]]):=by
   intro q
   refine .ite (fun _=> .some ⟨2,rfl,fun h=>by cases h⟩) fun _=> .bind (aYg v true hN) ?_
   rintro r ⟨n,rfl,h⟩
   exact .some ⟨n,rfl,h⟩
  refine .ite (fun _=> .some ⟨2,rfl,fun h=>by cases h⟩) fun _=> .bind (aYf v hN) ?_
  rintro r ⟨n,rfl⟩
  exact fin _
 obtain ⟨r,h,n,rfl,h2⟩:=this
 exact ⟨n,h,h2⟩
end Go.Ev.dJ
