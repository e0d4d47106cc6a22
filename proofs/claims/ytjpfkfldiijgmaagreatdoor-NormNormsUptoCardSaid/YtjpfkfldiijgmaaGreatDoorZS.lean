/-
  A part of the proof: what the functions of the program compute.
-/
import Derived.Test.YtjpfkfldiijgmaaGreatDoorZEq
import Derived.Test.YtjpfkfldiijgmaaGreatDoorEvDa
set_option linter.all false
set_option maxRecDepth 100000
namespace Go.Ev.jJ
theorem oK {n:Int} (h0:0≤n) (h1:n≤1000000000000):Go.IntKind.wrap .i64 n=n:=wrap_i64 ⟨by omega,by omega⟩
theorem aZN {n:Int} (h0:0≤n) (h1:n<256):Go.IntKind.wrap .u8 n=n:=by
 rw[IntKind.wrap_u8];omega
theorem aP2 {i:Int} (h0:0≤i) (h1:i<256):0≤i.tdiv 64∧i.tdiv 64<4:=by
 rw[Int.tdiv_eq_ediv_of_nonneg h0];omega
theorem aP3 {i:Int} (h0:0≤i):¬i.tmod 64<0:=by
 have:=Int.tmod_nonneg 64 h0;omega
theorem a1h (k:IntKind):aE2 [.int k] [.int k]=true:=by simp[aE2,K.beq]
theorem bCG {ks:List K} {off:Nat} {k:K} (h:ks[off]? =some k):(ks.drop off).take 1=[k]:=by
 have hl:off<ks.length:=(List.getElem?_eq_some_iff.1 h).1
 rw[List.drop_eq_getElem_cons hl]
 have:ks[off]=k:=by rw[List.getElem?_eq_getElem hl]at h;simpa using h
 simp[this]
theorem aN7 {A:Type} {k:IntKind} {ks:List K} {off:Nat} {r:Row} {f:Row→Option A} (h:ks[off]? =some (.int k)):
 part (.one (.int k)) (.agg ks) off r f=f (nrm (.one (.int k)) (sub r off 1)):=by
 unfold part
 have e:(Nat.beq off 0&&L.beq (.one (.int k)) (.agg ks))=false:=by simp[L.beq]
 rw[e]
 simp only[L.ks,L.n,List.length_singleton,bCG h,a1h,check]
theorem aK0 {A:Type} {k:IntKind} {ks:List K} {off:Nat} {r row:Row} {f:Row→Option A} (h:ks[off]? =some (.int k)):
 aFz (.one (.int k)) (.agg ks) off r row f=f (put r off 1 row 0 ks.length):=by
 unfold aFz
 have e:(Nat.beq off 0&&L.beq (.one (.int k)) (.agg ks))=false:=by simp[L.beq]
 rw[e]
 simp only[L.ks,L.n,List.length_singleton,bCG h,a1h,check]
theorem four {i:Int} (h0:0≤i) (h1:i<4):i=0∨i=1∨i=2∨i=3:=by omega
theorem aZO (c:C) (hc:c.yA=true) {i:Int} (h0:0≤i) (h1:i<256):∃b,(cA T).pc cP [[c],[.int i]]=some [[.bool b]]:=by
 rw[aPU]
 unfold aFE
 obtain ⟨a,b⟩:=aP2 h0 h1
 rw[oK a (by omega)]
 simp only[hc,a,b,and_self,if_true,if_neg (aP3 h0)]
 exact ⟨_,rfl⟩
theorem a5P (c:C) (hc:c.yA=true) {i:Int} (h0:0≤i) (h1:i<256):∃b,(cA T).pc s9 [[c],[.int i]]=some [[.bool b]]:=by
 rw[aNV]
 unfold aCD
 obtain ⟨a,b⟩:=aP2 h0 h1
 rw[aZN a (by omega)]
 simp only[hc,a,b,and_self,if_true,if_neg (aP3 h0)]
 exact ⟨_,rfl⟩
theorem a8M {i:Int} (h0:0≤i) (h1:i<256) (r:Row):∃r',(cA T).ic nX [.r [.int i],.r r]=some [.r r']:=by
 rw[aNa]
 unfold aBo
 obtain ⟨a,b⟩:=aP2 h0 h1
 rw[oK a (by omega)]
 simp only[a,b,and_self,if_true,if_neg (aP3 h0)]
 rcases four a b with h |h |h |h<;>rw[h]<;>rw[aN7 (by rfl),aK0 (by rfl)]<;>exact ⟨_,rfl⟩
theorem a5Q {i:Int} (h0:0≤i) (h1:i<256) (r:Row):∃r',(cA T).ic sU [.r [.int i],.r r]=some [.r r']:=by
 rw[aMw]
 unfold s8
 obtain ⟨a,b⟩:=aP2 h0 h1
 rw[oK a (by omega)]
 simp only[a,b,and_self,if_true,if_neg (aP3 h0)]
 rcases four a b with h |h |h |h<;>rw[h]<;>rw[aN7 (by rfl),aK0 (by rfl)]<;>exact ⟨_,rfl⟩
theorem a5R {i:Int} (h0:0≤i) (h1:i<256) (r:Row):∃r',(cA T).ic uU [.r [.int i],.r r]=some [.r r']:=by
 rw[aMx]
 unfold j9
 obtain ⟨a,b⟩:=aP2 h0 h1
 rw[oK a (by omega)]
 simp only[a,b,and_self,if_true,if_neg (aP3 h0)]
 rcases four a b with h |h |h |h<;>rw[h]<;>rw[aN7 (by rfl),aK0 (by rfl)]<;>exact ⟨_,rfl⟩
theorem a5S {p:Int} {i:Int} (hp0:0≤p) (hp1:p≤1020) (h0:0≤i) (h1:i<256) (r:Row):∃r',(cA T).ic vU [.r [.int p],.r [.int i],.r r]=some [.r r']:=by
 rw[aMy]
 unfold n9
 obtain ⟨a,b⟩:=aP2 h0 h1
 rw[oK a (by omega)]
 simp only[a,b,and_self,if_true,if_neg (aP3 h0)]
 have hk:(List.replicate 1024 (K.int .u64))[p.toNat+(i.tdiv 64).toNat*1]? =some (.int .u64):=by
  rw[List.getElem?_replicate,if_pos (by omega)]
 rw[aN7 hk,aK0 hk]
 exact ⟨_,rfl⟩
theorem aSF {i:Int} (h0:0≤i) (h1:i<256) (r:Row):∃r',(cA T).ic kE [.r [.int i],.r r]=some [.r r']:=by
 rw[aJ3]
 unfold rU
 obtain ⟨a,b⟩:=aP2 h0 h1
 rw[aZN a (by omega)]
 simp only[a,b,and_self,if_true,if_neg (aP3 h0)]
 rcases four a b with h |h |h |h<;>rw[h]<;>rw[aN7 (by rfl),aK0 (by rfl)]<;>exact ⟨_,rfl⟩
theorem k4 {i:Int} (h0:0≤i) (h4:i<4):([.int .u64,.int .u64,.int .u64,.int .u64]:List K)[0+(i.toNat*1)]? =some (.int .u64):=by
 rcases four h0 h4 with rfl |rfl |rfl |rfl<;>rfl
theorem k91 {i:Int} (h0:0≤i) (h4:i<4):([.bool,.int .u64,.int .u64,.int .u64,.int .u64,.int .u64,.int .u64,.int .u64,.int .u64]:List K)[1+(i.toNat*1)]? =some (.int .u64):=by
 rcases four h0 h4 with rfl |rfl |rfl |rfl<;>rfl
theorem k95 {i:Int} (h0:0≤i) (h4:i<4):([.bool,.int .u64,.int .u64,.int .u64,.int .u64,.int .u64,.int .u64,.int .u64,.int .u64]:List K)[5+(i.toNat*1)]? =some (.int .u64):=by
 rcases four h0 h4 with rfl |rfl |rfl |rfl<;>rfl
theorem a8N:∀(j:Nat) (i:Int) (r:Row),0≤i→i+j=4→∃r',oJ (cA T) i r=some (0,[.r r'])
 |0,i,r,h0,h=>by
  rw[uW];unfold pJ
  obtain rfl:i=4:=by omega
  exact ⟨_,rfl⟩
 |j+1,i,r,h0,h=>by
  rw[uW];unfold pJ
  have h4:i<4:=by omega
  simp only[h0,h4,decide_true,and_self,if_true]
  rw[aN7 (k4 h0 h4),aK0 (k4 h0 h4),oK (by omega) (by omega)]
  exact a8N j (i+1) _ (by omega) (by omega)
theorem aVR (r:Row):∃r',(cA T).ic wK [.r r]=some [.r r']:=by
 rw[aJ2];unfold qU
 obtain ⟨r',h⟩:=a8N 4 0 r (by omega) (by omega)
 rw[h];exact ⟨_,rfl⟩
theorem a1i (c:Row):∀(j:Nat) (i:Int) (r:Row),0≤i→i+j=4→∃r',bL (cA T) (.dp c) i r=some (0,[.r r'])
 |0,i,r,h0,h=>by
  rw[yX];unfold cL
  obtain rfl:i=4:=by omega
  exact ⟨_,rfl⟩
 |j+1,i,r,h0,h=>by
  rw[yX];unfold cL
  have h4:i<4:=by omega
  simp only[h0,h4,decide_true,fB,and_self,if_true]
  rw[aN7 (k91 h0 h4),aK0 (k91 h0 h4),oK (by omega) (by omega)]
  exact a1i c j (i+1) _ (by omega) (by omega)
theorem aVS (c r:Row):∃r',(cA T).ic wH [.r c,.r r]=some [.r r']:=by
 rw[aKK];unfold gX
 obtain ⟨r',h⟩:=a1i c 4 0 r (by omega) (by omega)
 rw[h];exact ⟨_,rfl⟩
theorem a1j (c:Row):∀(j:Nat) (i:Int) (r:Row),0≤i→i+j=4→∃r',eL (cA T) (.dp c) i r=some (0,[.r r'])
 |0,i,r,h0,h=>by
  rw[zX];unfold fL
  obtain rfl:i=4:=by omega
  exact ⟨_,rfl⟩
 |j+1,i,r,h0,h=>by
  rw[zX];unfold fL
  have h4:i<4:=by omega
  simp only[h0,h4,decide_true,fB,and_self,if_true]
  rw[aN7 (k95 h0 h4),aK0 (k95 h0 h4),oK (by omega) (by omega)]
  exact a1j c j (i+1) _ (by omega) (by omega)
theorem aVT (c r:Row):∃r',(cA T).ic xH [.r c,.r r]=some [.r r']:=by
 rw[aKL];unfold iX
 obtain ⟨r',h⟩:=a1j c 4 0 r (by omega) (by omega)
 rw[h];exact ⟨_,rfl⟩
theorem a1k (c:Row):∀(j:Nat) (i:Int) (r:Row),0≤i→i+j=4→∃r',iL (cA T) (.dp c) i r=some (0,[.r r'])
 |0,i,r,h0,h=>by
  rw[aY];unfold jL
  obtain rfl:i=4:=by omega
  exact ⟨_,rfl⟩
 |j+1,i,r,h0,h=>by
  rw[aY];unfold jL
  have h4:i<4:=by omega
  simp only[h0,h4,decide_true,fB,and_self,if_true]
  rw[aN7 (k4 h0 h4),aK0 (k4 h0 h4),oK (by omega) (by omega)]
  exact a1k c j (i+1) _ (by omega) (by omega)
theorem a3g (c r:Row):∃r',(cA T).ic bT [.r c,.r r]=some [.r r']:=by
 rw[aKM];unfold jX
 obtain ⟨r',h⟩:=a1k c 4 0 r (by omega) (by omega)
 rw[h];exact ⟨_,rfl⟩
abbrev st (s:List UInt8) (a:Int) (b:Bool) (q0 q1 q2 q3 q4 q5 q6 q7:Int) (f:Bool) (c o:C):List PV:=
 [.r [.str s],.r [.int a],.r [.bool b],.r [.int q0],.r [.int q1],.r [.int q2],.r [.int q3],.r [.int q4],.r [.int q5],.r [.int q6],.r [.int q7],.r [.bool f],.r [c],.r [o]]
section
variable (s:List UInt8) (b:Bool) (q0 q1 q2 q3 q4 q5 q6 q7:Int)
theorem a1l (c:Row) (x:Int) (a:Int) (f:Bool) (cl:C) (hx:0≤x):∀(j:Nat) (i:Int) (o:C),0≤i→i+j=4→x.toNat<o.rows.length→∃o',o'.rows.length=o.rows.length∧yK (cA T) [.int x,.int 0] (.dp c) i o s a b q0 q1 q2 q3 q4 q5 q6 q7 f cl=some (0,.r [o']::(st s a b q0 q1 q2 q3 q4 q5 q6 q7 f cl o').take 13)
 |0,i,o,h0,h,hl=>by
  rw[xX];unfold zK
  obtain rfl:i=4:=by omega
  exact ⟨o,rfl,rfl⟩
 |j+1,i,o,h0,h,hl=>by
  rw[xX];unfold zK
  have h4:i<4:=by omega
  have e0:((at_ ([.int x,.int 0]:Row) 0).tA).toNat=x.toNat:=rfl
  have e1:((at_ ([.int x,.int 0]:Row) 1).tA).toNat=0:=rfl
  simp only[h0,h4,decide_true,fB,and_self,if_true,e0,e1,hl]
  rw[aN7 (k4 h0 h4),aK0 (k4 h0 h4),oK (by omega) (by omega)]
  have ex:((x.toNat:Nat):Int)=x:=by omega
  obtain ⟨o',g1,g2⟩:=a1l c x a f cl hx j (i+1) (.sl (o.rows.set x.toNat (put (aA o.rows x.toNat) (0+i.toNat*1) 1 [.int (bitsOf .or .u64 ((at_ (nrm (.one (.int .u64)) (sub (aA o.rows x.toNat) (0+i.toNat*1) 1)) 0).tA) ((at_ c (i.toNat*1)).tA))] 0 4))) (by omega) (by omega) (by simpa[C.rows]using hl)
  refine ⟨o',by rw[g1];simp[C.rows], ?_⟩
  rw[ex]
  exact g2
theorem a3h (c:Row) (x:Int) (a:Int) (f:Bool) (cl o:C) (hx:0≤x) (hl:x.toNat<o.rows.length):∃o',o'.rows.length=o.rows.length∧
 (cA T).ic nS [.r [.int x,.int 0],.r c,.r [o],.r [.str s],.r [.int a],.r [.bool b],.r [.int q0],.r [.int q1],.r [.int q2],.r [.int q3],.r [.int q4],.r [.int q5],.r [.int q6],.r [.int q7],.r [.bool f],.r [cl]]=some (.r [o']::(st s a b q0 q1 q2 q3 q4 q5 q6 q7 f cl o').take 13):=by
 obtain ⟨o',g1,g2⟩:=a1l s b q0 q1 q2 q3 q4 q5 q6 q7 c x a f cl hx 4 0 o (by omega) (by omega) hl
 refine ⟨o',g1, ?_⟩
 rw[aKJ];unfold dX
 have ex:((x.toNat:Nat):Int)=x:=by omega
 have e0:((at_ ([.int x,.int 0]:Row) 0).tA).toNat=x.toNat:=rfl
 have e1:((at_ ([.int x,.int 0]:Row) 1).tA).toNat=0:=rfl
 rw[e0,e1,ex]
 have e2:((0:Nat):Int)=0:=rfl
 rw[e2,g2]
 rfl
end
end Go.Ev.jJ
namespace Go.Ev.jJ
def Inv (c o:C):Prop:=c.rows.length=o.rows.length∧1≤c.rows.length∧c.rows.length≤256
def cH {β:Type} (Q:β→Prop) (x:Option β):Prop:=∃r,x=some r∧Q r
theorem cH.some {β:Type} {Q:β→Prop} {r:β} (h:Q r):cH Q (some r):=⟨r,rfl,h⟩
theorem cH.bind {α β:Type} {R:α→Prop} {Q:β→Prop} {x:Option α} {f:α→Option β} (h:cH R x) (k:∀r,R r→cH Q (f r)):cH Q (x.bind f):=by
 obtain ⟨r,rfl,hr⟩:=h
 exact k r hr
theorem cH.jB {α β:Type} {Q:β→Prop} {x:Option α} {y:α} {f:α→Option β} (h:x=Option.some y) (k:cH Q (f y)):cH Q (x.bind f):=by rw[h];exact k
theorem cH.ite {β:Type} {c:Prop} [Decidable c] {Q:β→Prop} {x y:Option β} (h:c→cH Q x) (k:¬c→cH Q y):cH Q (if c then x else y):=by
 split
 ·exact h ‹_›
 ·exact k ‹_›
theorem cH.pos {β:Type} {c:Prop} [Decidable c] {Q:β→Prop} {x y:Option β} (h:c) (k:cH Q x):cH Q (if c then x else y):=by rw[if_pos h];exact k
theorem cH.mono {β:Type} {R Q:β→Prop} {x:Option β} (h:cH R x) (k:∀r,R r→Q r):cH Q x:=by
 obtain ⟨r,h1,h2⟩:=h;exact ⟨r,h1,k r h2⟩
section
variable (s:List UInt8) (b:Bool) (q0 q1 q2 q3 q4 q5 q6 q7:Int)
theorem aVU (a:Int) (f:Bool) (c o:C):(cA T).ic bD (st s a b q0 q1 q2 q3 q4 q5 q6 q7 f c o)=some (.r [.bool (!f&&decide (a<(s.length:Int)))]::st s a b q0 q1 q2 q3 q4 q5 q6 q7 f c o):=by
 rw[aIl];unfold iS
 cases f<;>simp
theorem aN8 (a:Int) (f:Bool) (c o:C) (h0:0≤a):∃x:Int,0≤x∧x<256∧(¬a<(s.length:Int)→x=0)∧
 (cA T).ic bC (st s a b q0 q1 q2 q3 q4 q5 q6 q7 f c o)=some (.r [.int x]::st s a b q0 q1 q2 q3 q4 q5 q6 q7 f c o):=by
 rw[aIm];unfold jS
 by_cases h:a<(s.length:Int)
 ·refine ⟨((s.getD a.toNat 0).toNat:Int),by omega,by have:=(s.getD a.toNat 0).toNat_lt;omega,fun h'=>absurd h h', ?_⟩
  have h2:¬a≥(s.length:Int):=by omega
  simp[h0,h,h2]
 ·refine ⟨0,by omega,by omega,fun _=>rfl, ?_⟩
  have h2:a≥(s.length:Int):=by omega
  simp[h2]
theorem a3i (k:Row) (a:Int) (f:Bool) (c o:C) (hI:Inv c o):∃row f' c' o',Inv c' o'∧
 (cA T).ic fK (.r k::st s a b q0 q1 q2 q3 q4 q5 q6 q7 f c o)=some (.r row::st s a b q0 q1 q2 q3 q4 q5 q6 q7 f' c' o'):=by
 obtain ⟨i1,i2,i3⟩:=hI
 rw[aEd];unfold iM
 by_cases h:(c.rows.length:Int)>255
 ·refine ⟨[.bool false,.int 0,.int 0,.int 0,.int 0,.int 0,.int 0,.int 0,.int 0],true,c,o,⟨i1,i2,i3⟩, ?_⟩
  simp[h]
 ·have g1:(c.rows.length+([k]:List Row).length)*32≤140737488355328:=by simp;omega
  have g2:(o.rows.length+([[.int 0,.int 0,.int 0,.int 0]]:List Row).length)*32≤140737488355328:=by simp;omega
  obtain ⟨r1,e1⟩:=a5Q (i:=(c.rows.length:Int)) (by omega) (by omega) [.bool false,.int 0,.int 0,.int 0,.int 0,.int 0,.int 0,.int 0,.int 0]
  obtain ⟨r2,e2⟩:=a5R (i:=(c.rows.length:Int)) (by omega) (by omega) r1
  refine ⟨r2,f,uE c [k],uE o [[.int 0,.int 0,.int 0,.int 0]],⟨by simp[i1],by simp,by simp;omega⟩, ?_⟩
  simp only[h,decide_false,Bool.false_eq_true,if_false,if_pos g1,if_pos g2,e1,Option.bind_some,jD,e2]
theorem a3j (a a1:Int) (c o:C) (x:Int) (q:Bool) (h0:0≤a) (h2:a<(s.length:Int)) (hs:s.length≤200) (x0:0≤x) (x1:x<256) (ha:a1=a+1):
 cH (fun r=>∃(x a':Int) (f':Bool),0≤x∧x<256∧a<a'∧a'≤(s.length:Int)∧r= .r [.int x]::st s a' b q0 q1 q2 q3 q4 q5 q6 q7 f' c o)
  (if (x==92)=true then
        if (decide (a1≥(s.length:Int)))=true then some (.r [.int 0]::st s a1 b q0 q1 q2 q3 q4 q5 q6 q7 true c o)
        else if (0:Int)≤a1∧a1<(s.length:Int)then some (.r [.int ((s.getD a1.toNat 0).toNat:Int)]::st s (IntKind.wrap .i64 (a1+1)) b q0 q1 q2 q3 q4 q5 q6 q7 q c o)else none
      else some (.r [.int x]::st s a1 b q0 q1 q2 q3 q4 q5 q6 q7 q c o)):=by
 refine .ite (fun _=> .ite (fun e=> .some ⟨0,a1,true,by omega,by omega,by omega,by omega,rfl⟩) fun e=> ?_) fun _=> .some ⟨x,a1,q,x0,x1,by omega,by omega,rfl⟩
 have e':a1<(s.length:Int):=by simpa using e
 rw[oK (show 0≤a1+1 by omega) (by omega),if_pos ⟨by omega,e'⟩]
 exact .some ⟨_,a1+1,q,by omega,by have:=(s.getD a1.toNat 0).toNat_lt;omega,by omega,by omega,rfl⟩
theorem a1m (a:Int) (f:Bool) (c o:C) (h0:0≤a) (h1:a≤(s.length:Int)) (hs:s.length≤200):∃(x a':Int) (f':Bool),0≤x∧x<256∧a≤a'∧a'≤(s.length:Int)∧(a<(s.length:Int)→a<a')∧
 (cA T).ic sH (st s a b q0 q1 q2 q3 q4 q5 q6 q7 f c o)=some (.r [.int x]::st s a' b q0 q1 q2 q3 q4 q5 q6 q7 f' c o):=by
 rw[aG8];unfold zD
 by_cases h:a<(s.length:Int)
 ·have h2:¬a≥(s.length:Int):=by omega
  rw[oK (show 0≤a+1 by omega) (by omega)]
  generalize hx:((s.getD a.toNat 0).toNat:Int)=x
  have hxb:0≤x∧x<256:=by rw[←hx];exact ⟨by omega,by have:=(s.getD a.toNat 0).toNat_lt;omega⟩
  have key:∀q:Bool,cH (fun r=>r=(0,.r [.int x]:: .r [.bool q]::st s (a+1) b q0 q1 q2 q3 q4 q5 q6 q7 f c o)) (some ((0:Nat),(.r [.int x]:: .r [.bool q]::st s (a+1) b q0 q1 q2 q3 q4 q5 q6 q7 f c o:List PV))):=fun q=> .some rfl
  have main:cH (fun r=>∃(x a':Int) (f':Bool),0≤x∧x<256∧a<a'∧a'≤(s.length:Int)∧r= .r [.int x]::st s a' b q0 q1 q2 q3 q4 q5 q6 q7 f' c o) (zD (cA T) s a b q0 q1 q2 q3 q4 q5 q6 q7 f c o):=by
   unfold zD
   rw[oK (show 0≤a+1 by omega) (by omega),hx]
   simp only[h0,h,h2,decide_false,Bool.false_eq_true,if_false,and_self,if_true]
   refine .bind (R:=fun r=>∃q:Bool,r=(0,.r [.int x]:: .r [.bool q]::st s (a+1) b q0 q1 q2 q3 q4 q5 q6 q7 f c o)) ?_ ?_
   ·exact .ite (fun _=> .some ⟨_,rfl⟩) fun _=> .ite (fun _=> .some ⟨_,rfl⟩) fun _=> .some ⟨_,rfl⟩
   rintro x5 ⟨q,rfl⟩
   simp only[nD,iC,wC,cC,aF,eH,jD,xB,rC,aC,wE,fH,bI,gA,iA,rA,jA]
   refine .bind (R:=fun r=>∃f':Bool,r=(0,.r [.int x]::st s (a+1) b q0 q1 q2 q3 q4 q5 q6 q7 f' c o)) ?_ ?_
   ·exact .ite (fun _=> .some ⟨_,rfl⟩) fun _=> .some ⟨_,rfl⟩
   rintro x6 ⟨f',rfl⟩
   simp only[nD,iC,wC,cC,aF,eH,jD,xB,rC,aC,wE,fH,bI,gA,iA,rA,jA]
   exact a3j s b q0 q1 q2 q3 q4 q5 q6 q7 a (a+1) c o x f' h0 h hs hxb.1 hxb.2 rfl
  unfold zD at main
  rw[oK (show 0≤a+1 by omega) (by omega),hx]at main
  obtain ⟨r,e,x',a',f',k1,k2,k3,k4,rfl⟩:=main
  exact ⟨x',a',f',k1,k2,by omega,k4,fun _=>k3,e⟩
 ·have h2:a≥(s.length:Int):=by omega
  exact ⟨0,a,true,by omega,by omega,by omega,by omega,fun h'=>absurd h' h,by simp[h2]⟩
end
end Go.Ev.jJ
namespace Go.Ev.jJ
section
variable (s:List UInt8) (b:Bool) (q0 q1 q2 q3 q4 q5 q6 q7:Int)
theorem a1n (v0:Bool) (hi:Int) (a:Int) (f:Bool) (c o:C) (v17:Row) (h0:0≤hi) (h1:hi<256):∀(j:Nat) (i:Int) (k:Row),0≤i→i≤256→256≤i+j→
 cH (fun r=>∃k',r=(0,.r [.bool v0]::(st s a b q0 q1 q2 q3 q4 q5 q6 q7 f c o++[.r v17,.r k']))) (xE (cA T) v0 hi i s a b q0 q1 q2 q3 q4 q5 q6 q7 f c o v17 k)
 |0,i,k,g0,g1,g2=>by
  rw[zR];unfold oH
  rw[oK h0 (by omega)]
  have:¬i≤hi:=by omega
  simp only[this,decide_false,Bool.false_eq_true,if_false]
  exact .some ⟨_,rfl⟩
 |j+1,i,k,g0,g1,g2=>by
  rw[zR];unfold oH
  rw[oK h0 (by omega)]
  have key:∀q:Bool,(q=true→i≤hi)→cH (fun r=>∃k',r=(0,.r [.bool v0]::(st s a b q0 q1 q2 q3 q4 q5 q6 q7 f c o++[.r v17,.r k'])))
   (if q=true then ((cA T).ic kE [.r [.int (IntKind.wrap .u8 i)],.r k]).bind fun y26=>
     xE (cA T) v0 hi (IntKind.wrap .i64 (i+1)) s a b q0 q1 q2 q3 q4 q5 q6 q7 f c o v17 (gR 0 y26)
   else some (0,.r [.bool v0]::(st s a b q0 q1 q2 q3 q4 q5 q6 q7 f c o++[.r v17,.r k]))):=by
   intro q hq
   refine .ite (fun e=> ?_) (fun _=> .some ⟨_,rfl⟩)
   have:=hq e
   rw[aZN g0 (by omega),oK (show 0≤i+1 by omega) (by omega)]
   obtain ⟨k',e'⟩:=aSF g0 (show i<256 by omega) k
   refine .jB e' ?_
   exact a1n v0 hi a f c o v17 h0 h1 j (i+1) _ (by omega) (by omega) (by omega)
  refine .ite (fun e=> ?_) (fun e=> ?_)
  ·exact key (!f) (fun _=>by simpa using e)
  ·exact key false (fun h=>by cases h)
theorem a1o (hs:s.length≤200) (t:Bool) (c o:C) (dH:Row):∀(j:Nat) (a:Int) (f:Bool) (k:Row),0≤a→a≤(s.length:Int)→(s.length:Int)<a+j→
 cH (fun r=>∃a' f' k',a≤a'∧a'≤(s.length:Int)∧r=(0,.r [.bool t]::(st s a' b q0 q1 q2 q3 q4 q5 q6 q7 f' c o++[.r dH,.r k']))) (rH (cA T) t s a b q0 q1 q2 q3 q4 q5 q6 q7 f c o dH k)
 |0,a,f,k,g0,g1,g2=>by omega
 |j+1,a,f,k,g0,g1,g2=>by
  rw[aFh];unfold sN
  refine .bind (R:=fun x=>∃q:Bool,(q=true→a<(s.length:Int))∧x=(0,.r [.bool t]:: .r [.bool q]::(st s a b q0 q1 q2 q3 q4 q5 q6 q7 f c o++[.r dH,.r k]))) ?_ ?_
  ·refine .jB (aVU s b q0 q1 q2 q3 q4 q5 q6 q7 a f c o) ?_
   simp only[nD,iC,wC,cC,aF,eH,jD,xB,rC,aC,wE,fH,bI,gA,iA,rA,jA]
   refine .ite (fun e=> ?_) (fun _=> .some ⟨false,fun h=>(by cases h),rfl⟩)
   obtain ⟨x,_,_,_,e2⟩:=aN8 s b q0 q1 q2 q3 q4 q5 q6 q7 a f c o g0
   refine .jB e2 ?_
   simp only[nD,iC,wC,cC,aF,eH,jD,xB,rC,aC,wE,fH,bI,gA,iA,rA,jA]
   refine .some ⟨_,fun _=> ?_,rfl⟩
   simp at e;exact e.2
  ·rintro oR ⟨q,hq,rfl⟩
   simp only[List.cons_append,List.nil_append,nD,iC,wC,cC,aF,eH,jD,xB,rC,aC,wE,fH,bI,gA,iA,rA,jA]
   refine .ite (fun e=> ?_) (fun _=> .some ⟨a,f,k,Int.le_refl _,g1,rfl⟩)
   have hlt:=hq e
   obtain ⟨x,a1,f1,x0,x1,x2,x3,x4,e3⟩:=a1m s b q0 q1 q2 q3 q4 q5 q6 q7 a f c o g0 g1 hs
   refine .jB e3 ?_
   have ha1:=x4 hlt
   simp only[nD,iC,wC,cC,aF,eH,jD,xB,rC,aC,wE,fH,bI,gA,iA,rA,jA]
   refine .bind (R:=fun r=>∃q:Bool,(q=true→a1<(s.length:Int))∧r=(0,.r [.bool t]:: .r [.int x]:: .r [.int x]:: .r [.bool q]::(st s a1 b q0 q1 q2 q3 q4 q5 q6 q7 f1 c o++[.r dH,.r k]))) ?_ ?_
   ·refine .jB (aVU s b q0 q1 q2 q3 q4 q5 q6 q7 a1 f1 c o) ?_
    simp only[nD,iC,wC,cC,aF,eH,jD,xB,rC,aC,wE,fH,bI,gA,iA,rA,jA]
    refine .ite (fun e=> ?_) (fun _=> .some ⟨false,fun h=>(by cases h),rfl⟩)
    obtain ⟨x',_,_,_,e2⟩:=aN8 s b q0 q1 q2 q3 q4 q5 q6 q7 a1 f1 c o (by omega)
    refine .jB e2 ?_
    simp only[nD,iC,wC,cC,aF,eH,jD,xB,rC,aC,wE,fH,bI,gA,iA,rA,jA]
    refine .some ⟨_,fun _=> ?_,rfl⟩
    simp at e;exact e.2
   rintro xM ⟨qq,hq2,rfl⟩
   simp only[List.cons_append,List.nil_append,nD,iC,wC,cC,aF,eH,jD,xB,rC,aC,wE,fH,bI,gA,iA,rA,jA]
   refine .bind (R:=fun r=>∃(y a2:Int) (f2:Bool),0≤y∧y<256∧a1≤a2∧a2≤(s.length:Int)∧r=(0,.r [.bool t]:: .r [.int x]:: .r [.int y]::(st s a2 b q0 q1 q2 q3 q4 q5 q6 q7 f2 c o++[.r dH,.r k]))) ?_ ?_
   ·refine .ite (fun e=> ?_) (fun _=> .some ⟨x,a1,f1,x0,x1,Int.le_refl _,x3,rfl⟩)
    have hl2:=hq2 e
    rw[oK (show 0≤a1+1 by omega) (by omega)]
    obtain ⟨y,a2,f2,y0,y1,y2,y3,y4,e4⟩:=a1m s b q0 q1 q2 q3 q4 q5 q6 q7 (a1+1) f1 c o (by omega) (by omega) hs
    refine .jB e4 ?_
    simp only[nD,iC,wC,cC,aF,eH,jD,xB,rC,aC,wE,fH,bI,gA,iA,rA,jA]
    exact .some ⟨y,a2,f2,y0,y1,by omega,y3,rfl⟩
   rintro x20 ⟨y,a2,f2,y0,y1,y2,y3,rfl⟩
   simp only[List.cons_append,List.nil_append,nD,iC,wC,cC,aF,eH,jD,xB,rC,aC,wE,fH,bI,gA,iA,rA,jA]
   refine .bind (R:=fun r=>∃f3:Bool,r=(0,.r [.bool t]:: .r [.int x]:: .r [.int y]::(st s a2 b q0 q1 q2 q3 q4 q5 q6 q7 f3 c o++[.r dH,.r k]))) ?_ ?_
   ·exact .ite (fun e=> .some ⟨_,rfl⟩) (fun _=> .some ⟨_,rfl⟩)
   rintro x23 ⟨f3,rfl⟩
   simp only[List.cons_append,List.nil_append,nD,iC,wC,cC,aF,eH,jD,xB,rC,aC,wE,fH,bI,gA,iA,rA,jA]
   rw[oK x0 (by omega)]
   refine .bind (a1n s b q0 q1 q2 q3 q4 q5 q6 q7 t y a2 f3 c o dH y0 y1 256 x k x0 (by omega) (by omega)) ?_
   rintro x27 ⟨k',rfl⟩
   simp only[List.cons_append,List.nil_append,nD,iC,wC,cC,aF,eH,jD,xB,rC,aC,wE,fH,bI,gA,iA,rA,jA]
   refine (a1o hs t c o dH j a2 f3 k' (by omega) y3 (by omega)).mono ?_
   rintro r ⟨a',f',k',u1,u2,rfl⟩
   exact ⟨a',f',k',by omega,u2,rfl⟩
theorem bAu (hs:s.length≤200) (a:Int) (f:Bool) (c o:C) (g0:0≤a) (g1:a≤(s.length:Int)):
 cH (fun r=>∃row a' f',a≤a'∧a'≤(s.length:Int)∧r= .r row::st s a' b q0 q1 q2 q3 q4 q5 q6 q7 f' c o) ((cA T).ic rO (st s a b q0 q1 q2 q3 q4 q5 q6 q7 f c o)):=by
 rw[aHS];unfold rQ
 refine .bind (R:=fun r=>∃q:Bool,(q=true→a<(s.length:Int))∧r=(0,.r [.bool q]::(st s a b q0 q1 q2 q3 q4 q5 q6 q7 f c o++[.r [.int 0,.int 0,.int 0,.int 0],.r [.int 0,.int 0,.int 0,.int 0]]))) ?_ ?_
 ·obtain ⟨x,_,_,_,e2⟩:=aN8 s b q0 q1 q2 q3 q4 q5 q6 q7 a f c o g0
  refine .jB e2 ?_
  simp only[nD,iC,wC,cC,aF,eH,jD,xB,rC,aC,wE,fH,bI,gA,iA,rA,jA]
  exact .ite (fun e=> .some ⟨_,fun h=>of_decide_eq_true h,rfl⟩) (fun _=> .some ⟨false,fun h=>(by cases h),rfl⟩)
 rintro x4 ⟨t,ht,rfl⟩
 simp only[List.cons_append,List.nil_append,nD,iC,wC,cC,aF,eH,jD,xB,rC,aC,wE,fH,bI,gA,iA,rA,jA]
 refine .bind (R:=fun r=>∃a1:Int,a≤a1∧a1≤(s.length:Int)∧r=(0,.r [.bool t]::(st s a1 b q0 q1 q2 q3 q4 q5 q6 q7 f c o++[.r [.int 0,.int 0,.int 0,.int 0],.r [.int 0,.int 0,.int 0,.int 0]]))) ?_ ?_
 ·refine .ite (fun e=> ?_) (fun _=> .some ⟨a,Int.le_refl _,g1,rfl⟩)
  have:=ht e
  rw[oK (show 0≤a+1 by omega) (by omega)]
  exact .some ⟨a+1,by omega,by omega,rfl⟩
 rintro x5 ⟨a1,u1,u2,rfl⟩
 simp only[List.cons_append,List.nil_append,nD,iC,wC,cC,aF,eH,jD,xB,rC,aC,wE,fH,bI,gA,iA,rA,jA]
 refine .bind (a1o s b q0 q1 q2 q3 q4 q5 q6 q7 hs t c o _ 400 a1 f _ (by omega) u2 (by omega)) ?_
 rintro x28 ⟨a2,f2,k2,w1,w2,rfl⟩
 simp only[List.cons_append,List.nil_append,nD,iC,wC,cC,aF,eH,jD,xB,rC,aC,wE,fH,bI,gA,iA,rA,jA]
 refine .bind (R:=fun r=>∃f3:Bool,(f3=false→a2<(s.length:Int))∧r=(0,.r [.bool t]::(st s a2 b q0 q1 q2 q3 q4 q5 q6 q7 f3 c o++[.r [.int 0,.int 0,.int 0,.int 0],.r k2]))) ?_ ?_
 ·exact .ite (fun e=> .some ⟨true,fun h=>(by cases h),rfl⟩) (fun _=> .some ⟨_,fun h=>by simpa using h,rfl⟩)
 rintro x31 ⟨f3,hf,rfl⟩
 simp only[List.cons_append,List.nil_append,nD,iC,wC,cC,aF,eH,jD,xB,rC,aC,wE,fH,bI,gA,iA,rA,jA]
 refine .ite (fun e=> .some ⟨k2,a2,f3,by omega,w2,rfl⟩) (fun e=> ?_)
 have hlt:=hf (by simpa using e)
 rw[oK (show 0≤a2+1 by omega) (by omega)]
 refine .ite (fun e=> ?_) (fun _=> .some ⟨k2,a2+1,_,by omega,by omega,rfl⟩)
 obtain ⟨k3,e3⟩:=aVR k2
 refine .jB e3 ?_
 simp only[jD,bI]
 exact .some ⟨k3,a2+1,_,by omega,by omega,rfl⟩
theorem a3k (r1 r2:Row) (a:Int) (f:Bool) (c:C) (m:Nat) (hm:m≤256):∀(j:Nat) (i:Int) (o:C),0≤i→i+j=m→o.rows.length=m→
 cH (fun r=>∃o':C,o'.rows.length=m∧r=(0,st s a b q0 q1 q2 q3 q4 q5 q6 q7 f c o')) (uH (cA T) (.dp r1) (.dp r2) (m:Int) i s a b q0 q1 q2 q3 q4 q5 q6 q7 f c o)
 |0,i,o,h0,h,ho=>by
  rw[aS];unfold vH
  have:¬i<(m:Int):=by omega
  simp only[this,decide_false,Bool.false_eq_true,if_false]
  exact .some ⟨o,ho,rfl⟩
 |j+1,i,o,h0,h,ho=>by
  rw[aS];unfold vH
  have hlt:i<(m:Int):=by omega
  obtain ⟨q,e1⟩:=aZO (.dp r1) rfl h0 (show i<256 by omega)
  rw[oK (show 0≤i+1 by omega) (by omega)]
  simp only[hlt,decide_true,if_true]
  refine .jB e1 ?_
  simp only[fA,gA,iA]
  refine .ite (fun _=> ?_) (fun _=>a3k r1 r2 a f c m hm j (i+1) o (by omega) (by omega) ho)
  have hl:i<(o.rows.length:Int):=by omega
  simp only[h0,hl,and_self,if_true,fB,wA]
  have ex:((i.toNat:Nat):Int)=i:=by omega
  have e2:((0:Nat):Int)=0:=rfl
  rw[ex,e2]
  obtain ⟨o',g1,g2⟩:=a3h s b q0 q1 q2 q3 q4 q5 q6 q7 r2 i a f c o h0 (by omega)
  refine .jB g2 ?_
  simp only[List.take_succ_cons,List.take_zero,nD,iC,wC,cC,aF,eH,jD,xB,rC,aC,wE,fH,bI,gA,iA,rA,jA]
  exact a3k r1 r2 a f c m hm j (i+1) o' (by omega) (by omega) (by omega)
theorem a8O (r1 r2:Row) (a:Int) (f:Bool) (c o:C) (hI:Inv c o):
 cH (fun r=>∃o':C,Inv c o'∧r=st s a b q0 q1 q2 q3 q4 q5 q6 q7 f c o') ((cA T).ic rI (.r r1:: .r r2::st s a b q0 q1 q2 q3 q4 q5 q6 q7 f c o)):=by
 obtain ⟨i1,i2,i3⟩:=hI
 rw[aHT];unfold xQ
 refine .bind (a3k s b q0 q1 q2 q3 q4 q5 q6 q7 r1 r2 a f c o.rows.length (by omega) o.rows.length 0 o (by omega) (by omega) rfl) ?_
 rintro x3 ⟨o',ho,rfl⟩
 simp only[List.cons_append,List.nil_append,nD,iC,wC,cC,aF,eH,jD,xB,rC,aC,wE,fH,bI,gA,iA,rA,jA]
 exact .some ⟨o',⟨by omega,by omega,by omega⟩,rfl⟩
end
end Go.Ev.jJ
namespace Go.Ev.jJ
theorem indexByte (l:List UInt8) (x:Int):(cA T).pc aQ [[.str l],[.int x]]=some [[.int (aNg l x.toNat.toUInt8)]]:=by
 rw[aFg];unfold strings_IndexByte
 have:(cA T).pc lH [[.str l],[.int x]]=some [[.int (aNg l x.toNat.toUInt8)]]:=by
  rw[nO];unfold fF;rfl
 rw[this];rfl
section
variable (s:List UInt8) (b:Bool) (q0 q1 q2 q3 q4 q5 q6 q7:Int)
abbrev Post (a:Int) (r:List PV):Prop:=∃row a' f' c' o',a≤a'∧a'≤(s.length:Int)∧Inv c' o'∧r= .r row::st s a' b q0 q1 q2 q3 q4 q5 q6 q7 f' c' o'
abbrev aTq (n:Int):Prop:=∀a f c o,0≤a→a≤(s.length:Int)→(s.length:Int) - a≤n→Inv c o→cH (Post s b q0 q1 q2 q3 q4 q5 q6 q7 a) ((cA T).ic gE (st s a b q0 q1 q2 q3 q4 q5 q6 q7 f c o))
theorem bEw (hs:s.length≤200) (n:Int) (hA:aTq s b q0 q1 q2 q3 q4 q5 q6 q7 n) (a:Int) (f:Bool) (c o:C) (g0:0≤a) (g1:a<(s.length:Int)) (gn:(s.length:Int) - a≤n+1) (hI:Inv c o):
 cH (Post s b q0 q1 q2 q3 q4 q5 q6 q7 (a+1)) ((cA T).ic sP (st s a b q0 q1 q2 q3 q4 q5 q6 q7 f c o)):=by
 rw[aIn];unfold mS
 obtain ⟨x,x0,x1,_,e1⟩:=aN8 s b q0 q1 q2 q3 q4 q5 q6 q7 a f c o g0
 refine .jB e1 ?_
 simp only[nD,iC,wC,cC,aF,eH,jD,xB,rC,aC,wE,fH,bI,gA,iA,rA,jA]
 simp only[oK (show 0≤a+1 by omega) (show a+1≤1000000000000 by omega)]
 refine .bind (R:=fun r=>(∃a' f' c' o' w k,a+1≤a'∧a'≤(s.length:Int)∧Inv c' o'∧r=(0,st s a' b q0 q1 q2 q3 q4 q5 q6 q7 f' c' o'++[.r w,.r k]))∨(∃a' f' c' o' row,a+1≤a'∧a'≤(s.length:Int)∧Inv c' o'∧r=(1,st s a' b q0 q1 q2 q3 q4 q5 q6 q7 f' c' o'++[.r row]))) ?_ ?_
 ·refine .ite (fun e=> ?_) fun e=> .ite (fun e=> ?_) fun e=> .ite (fun e=> ?_) fun e=> .ite (fun e=> ?_) fun e=> ?_
  ·refine .bind (hA (a+1) f c o (by omega) (by omega) (by omega) hI) ?_
   rintro y2 ⟨row,a2,f2,c2,o2,u1,u2,u3,rfl⟩
   simp only[nD,iC,wC,cC,aF,eH,jD,xB,rC,aC,wE,fH,bI,gA,iA,rA,jA]
   refine .bind (R:=fun r=>∃f3:Bool,(f3=false→a2<(s.length:Int))∧∃w,r=(0,st s a2 b q0 q1 q2 q3 q4 q5 q6 q7 f3 c2 o2++[.r w,.r row])) ?_ ?_
   ·refine .ite (fun e=> .some ⟨true,fun h=>(by cases h),_,rfl⟩) fun e=> ?_
    obtain ⟨x',_,_,_,e2⟩:=aN8 s b q0 q1 q2 q3 q4 q5 q6 q7 a2 f2 c2 o2 (by omega)
    refine .jB e2 ?_
    simp only[nD,iC,wC,cC,aF,eH,jD,xB,rC,aC,wE,fH,bI,gA,iA,rA,jA]
    refine .ite (fun e=> .some ⟨true,fun h=>(by cases h),_,rfl⟩) fun e=> .some ⟨_,fun h=> ?_,_,rfl⟩
    have:=of_decide_eq_false h;omega
   rintro oR ⟨f3,hf,w,rfl⟩
   simp only[List.cons_append,List.nil_append,nD,iC,wC,cC,aF,eH,jD,xB,rC,aC,wE,fH,bI,gA,iA,rA,jA]
   refine .ite (fun e=> ?_) fun e=> .some (.inr ⟨a2,f3,c2,o2,row,u1,u2,u3,rfl⟩)
   have:=hf (by simpa using e)
   rw[oK (show 0≤a2+1 by omega) (by omega)]
   exact .some (.inr ⟨a2+1,f3,c2,o2,row,by omega,by omega,u3,rfl⟩)
  ·obtain ⟨k,ek⟩:=aVR [.int 0,.int 0,.int 0,.int 0]
   refine .jB ek ?_
   exact .some (.inl ⟨a+1,f,c,o,_,k,by omega,by omega,hI,rfl⟩)
  ·refine .bind (bAu s b q0 q1 q2 q3 q4 q5 q6 q7 hs (a+1) f c o (by omega) (by omega)) ?_
   rintro y13 ⟨row,a2,f2,u1,u2,rfl⟩
   simp only[nD,iC,wC,cC,aF,eH,jD,xB,rC,aC,wE,fH,bI,gA,iA,rA,jA]
   exact .some (.inl ⟨a2,f2,c,o,_,row,u1,u2,hI,rfl⟩)
  ·refine .ite (fun e=> .some (.inr ⟨a+1,true,c,o,_,by omega,by omega,hI,rfl⟩)) fun e=> ?_
   have e':a+1<(s.length:Int):=by simpa using e
   rw[if_pos ⟨by omega,e'⟩]
   obtain ⟨k,ek⟩:=aSF (i:=((s.getD (a+1).toNat 0).toNat:Int)) (by omega) (by have:=(s.getD (a+1).toNat 0).toNat_lt;omega) [.int 0,.int 0,.int 0,.int 0]
   refine .jB ek ?_
   rw[oK (show 0≤a+1+1 by omega) (by omega)]
   exact .some (.inl ⟨a+1+1,f,c,o,_,k,by omega,by omega,hI,rfl⟩)
  ·refine .jB (indexByte _ x) ?_
   refine .ite (fun e=> .some (.inr ⟨a+1,true,c,o,_,by omega,by omega,hI,rfl⟩)) fun e=> ?_
   obtain ⟨k,ek⟩:=aSF x0 x1 [.int 0,.int 0,.int 0,.int 0]
   refine .jB ek ?_
   exact .some (.inl ⟨a+1,f,c,o,_,k,by omega,by omega,hI,rfl⟩)
 ·rintro qV (⟨a2,f2,c2,o2,w,k,u1,u2,u3,rfl⟩|⟨a2,f2,c2,o2,row,u1,u2,u3,rfl⟩)
  ·simp only[List.cons_append,List.nil_append,nD,iC,wC,cC,aF,eH,jD,xB,rC,aC,wE,fH,bI,gA,iA,rA,jA]
   obtain ⟨row,f3,c3,o3,h3,e3⟩:=a3i s b q0 q1 q2 q3 q4 q5 q6 q7 k a2 f2 c2 o2 u3
   refine .jB e3 ?_
   exact .some ⟨row,a2,f3,c3,o3,u1,u2,h3,rfl⟩
  ·simp only[List.cons_append,List.nil_append,nD,iC,wC,cC,aF,eH,jD,xB,rC,aC,wE,fH,bI,gA,iA,rA,jA]
   exact .some ⟨row,a2,f2,c2,o2,u1,u2,u3,rfl⟩
theorem bEx (hs:s.length≤200) (n:Int) (hA:aTq s b q0 q1 q2 q3 q4 q5 q6 q7 n) (a:Int) (f:Bool) (c o:C) (g0:0≤a) (g1:a<(s.length:Int)) (gn:(s.length:Int) - a≤n+1) (hI:Inv c o):
 cH (Post s b q0 q1 q2 q3 q4 q5 q6 q7 (a+1)) ((cA T).ic uP (st s a b q0 q1 q2 q3 q4 q5 q6 q7 f c o)):=by
 rw[aIo];unfold oS
 refine .bind (bEw s b q0 q1 q2 q3 q4 q5 q6 q7 hs n hA a f c o g0 g1 gn hI) ?_
 rintro y1 ⟨row,a2,f2,c2,o2,u1,u2,u3,rfl⟩
 simp only[nD,iC,wC,cC,aF,eH,jD,xB,rC,aC,wE,fH,bI,gA,iA,rA,jA]
 refine .jB (aVU s b q0 q1 q2 q3 q4 q5 q6 q7 a2 f2 c2 o2) ?_
 simp only[nD,iC,wC,cC,aF,eH,jD,xB,rC,aC,wE,fH,bI,gA,iA,rA,jA]
 refine .ite (fun e=> .some ⟨row,a2,f2,c2,o2,u1,u2,u3,rfl⟩) fun e=> ?_
 have hlt:a2<(s.length:Int):=by simp at e;exact e.2
 obtain ⟨x,x0,x1,_,e1⟩:=aN8 s b q0 q1 q2 q3 q4 q5 q6 q7 a2 f2 c2 o2 (by omega)
 refine .jB e1 ?_
 simp only[nD,iC,wC,cC,aF,eH,jD,xB,rC,aC,wE,fH,bI,gA,iA,rA,jA]
 refine .bind (R:=fun r=>∃(q:Bool) (w:Row),r=(0,.r [.int x]:: .r [.bool q]::(st s a2 b q0 q1 q2 q3 q4 q5 q6 q7 f2 c2 o2++[.r w,.r row]))) ?_ ?_
 ·exact .ite (fun _=> .ite (fun _=> .some ⟨_,_,rfl⟩) fun _=> .some ⟨_,_,rfl⟩) fun _=> .some ⟨_,_,rfl⟩
 rintro x8 ⟨q,w,rfl⟩
 simp only[List.cons_append,List.nil_append,nD,iC,wC,cC,aF,eH,jD,xB,rC,aC,wE,fH,bI,gA,iA,rA,jA]
 refine .ite (fun e=> .some ⟨row,a2,f2,c2,o2,u1,u2,u3,rfl⟩) fun e=> ?_
 rw[oK (show 0≤a2+1 by omega) (by omega)]
 refine .ite (fun e=> ?_) fun e=> ?_
 ·refine .bind (a8O s b q0 q1 q2 q3 q4 q5 q6 q7 _ _ (a2+1) f2 c2 o2 u3) ?_
  rintro y9 ⟨o3,h3,rfl⟩
  simp only[List.cons_append,List.nil_append,nD,iC,wC,cC,aF,eH,jD,xB,rC,aC,wE,fH,bI,gA,iA,rA,jA]
  exact .ite (fun e=> .some ⟨_,a2+1,f2,c2,o3,by omega,by omega,h3,rfl⟩) fun e=> .some ⟨_,a2+1,f2,c2,o3,by omega,by omega,h3,rfl⟩
 ·exact .ite (fun e=> .some ⟨_,a2+1,f2,c2,o2,by omega,by omega,u3,rfl⟩) fun e=> .some ⟨_,a2+1,f2,c2,o2,by omega,by omega,u3,rfl⟩
theorem a8P (hs:s.length≤200) (n:Int) (hA:aTq s b q0 q1 q2 q3 q4 q5 q6 q7 n):∀(j:Nat) (a:Int) (f:Bool) (c o:C) (w r0:Row),0≤a→a≤(s.length:Int)→(s.length:Int)<a+j→(s.length:Int) - a≤n+1→Inv c o→
 cH (fun r=>∃a' f' c' o' w' r',a≤a'∧a'≤(s.length:Int)∧Inv c' o'∧r=(0,st s a' b q0 q1 q2 q3 q4 q5 q6 q7 f' c' o'++[.r w',.r r'])) (vF (cA T) s a b q0 q1 q2 q3 q4 q5 q6 q7 f c o w r0)
 |0,a,f,c,o,w,r0,g0,g1,g2,gn,hI=>by omega
 |j+1,a,f,c,o,w,r0,g0,g1,g2,gn,hI=>by
  rw[aDk];unfold lK
  refine .bind (R:=fun r=>∃q:Bool,(q=true→a<(s.length:Int))∧r=(0,.r [.bool q]::(st s a b q0 q1 q2 q3 q4 q5 q6 q7 f c o++[.r w,.r r0]))) ?_ ?_
  ·refine .jB (aVU s b q0 q1 q2 q3 q4 q5 q6 q7 a f c o) ?_
   simp only[nD,iC,wC,cC,aF,eH,jD,xB,rC,aC,wE,fH,bI,gA,iA,rA,jA]
   refine .ite (fun e=> ?_) (fun _=> .some ⟨false,fun h=>(by cases h),rfl⟩)
   have hlt:a<(s.length:Int):=by simp at e;exact e.2
   obtain ⟨x,_,_,_,e2⟩:=aN8 s b q0 q1 q2 q3 q4 q5 q6 q7 a f c o g0
   refine .jB e2 ?_
   simp only[nD,iC,wC,cC,aF,eH,jD,xB,rC,aC,wE,fH,bI,gA,iA,rA,jA]
   refine .ite (fun e=> ?_) (fun _=> .some ⟨false,fun h=>(by cases h),rfl⟩)
   refine .jB e2 ?_
   simp only[nD,iC,wC,cC,aF,eH,jD,xB,rC,aC,wE,fH,bI,gA,iA,rA,jA]
   exact .some ⟨_,fun _=>hlt,rfl⟩
  rintro x14 ⟨q,hq,rfl⟩
  simp only[List.cons_append,List.nil_append,nD,iC,wC,cC,aF,eH,jD,xB,rC,aC,wE,fH,bI,gA,iA,rA,jA]
  refine .ite (fun e=> ?_) (fun _=> .some ⟨a,f,c,o,w,r0,Int.le_refl _,g1,hI,rfl⟩)
  have hlt:=hq e
  refine .bind (bEx s b q0 q1 q2 q3 q4 q5 q6 q7 hs n hA a f c o g0 hlt gn hI) ?_
  rintro y15 ⟨x,a2,f2,c2,o2,u1,u2,u3,rfl⟩
  simp only[List.cons_append,List.nil_append,nD,iC,wC,cC,aF,eH,jD,xB,rC,aC,wE,fH,bI,gA,iA,rA,jA]
  refine .bind (a8O s b q0 q1 q2 q3 q4 q5 q6 q7 _ _ a2 f2 c2 o2 u3) ?_
  rintro y16 ⟨o3,h3,rfl⟩
  simp only[List.cons_append,List.nil_append,nD,iC,wC,cC,aF,eH,jD,xB,rC,aC,wE,fH,bI,gA,iA,rA,jA]
  refine .bind (R:=fun r=>∃r1:Row,r=(0,st s a2 b q0 q1 q2 q3 q4 q5 q6 q7 f2 c2 o3++[.r w,.r r1,.r x])) ?_ ?_
  ·refine .ite (fun e=> ?_) fun e=> .some ⟨_,rfl⟩
   obtain ⟨r1,e1⟩:=aVS [at_ x 1,at_ x 2,at_ x 3,at_ x 4] r0
   exact .jB e1 (.some ⟨r1,rfl⟩)
  rintro xM ⟨r1,rfl⟩
  simp only[List.cons_append,List.nil_append,nD,iC,wC,cC,aF,eH,jD,xB,rC,aC,wE,fH,bI,gA,iA,rA,jA]
  refine .bind (R:=fun r=>∃r2:Row,r=(0,st s a2 b q0 q1 q2 q3 q4 q5 q6 q7 f2 c2 o3++[.r w,.r r2,.r x])) ?_ ?_
  ·exact .ite (fun e=> .some ⟨_,rfl⟩) fun e=> .some ⟨_,rfl⟩
  rintro x19 ⟨r2,rfl⟩
  simp only[List.cons_append,List.nil_append,nD,iC,wC,cC,aF,eH,jD,xB,rC,aC,wE,fH,bI,gA,iA,rA,jA]
  obtain ⟨r3,e3⟩:=aVT [at_ x 5,at_ x 6,at_ x 7,at_ x 8] r2
  refine .jB e3 ?_
  simp only[jD,bI]
  refine .ite (fun e=> ?_) fun e=> ?_
  ·refine (a8P hs n hA j a2 f2 c2 o3 w _ (by omega) u2 (by omega) (by omega) h3).mono ?_
   rintro r ⟨a',f',c',o',w',r',v1,v2,v3,rfl⟩
   exact ⟨a',f',c',o',w',r',by omega,v2,v3,rfl⟩
  ·refine (a8P hs n hA j a2 f2 c2 o3 w _ (by omega) u2 (by omega) (by omega) h3).mono ?_
   rintro r ⟨a',f',c',o',w',r',v1,v2,v3,rfl⟩
   exact ⟨a',f',c',o',w',r',by omega,v2,v3,rfl⟩
theorem bCH (hs:s.length≤200) (n:Int) (hA:aTq s b q0 q1 q2 q3 q4 q5 q6 q7 n) (a:Int) (f:Bool) (c o:C) (g0:0≤a) (g1:a≤(s.length:Int)) (gn:(s.length:Int) - a≤n+1) (hI:Inv c o):
 cH (Post s b q0 q1 q2 q3 q4 q5 q6 q7 a) ((cA T).ic jG (st s a b q0 q1 q2 q3 q4 q5 q6 q7 f c o)):=by
 rw[aFi];unfold wN
 refine .bind (a8P s b q0 q1 q2 q3 q4 q5 q6 q7 hs n hA 400 a f c o _ _ g0 g1 (by omega) gn hI) ?_
 rintro x ⟨a',f',c',o',w',r',v1,v2,v3,rfl⟩
 simp only[List.cons_append,List.nil_append,nD,iC,wC,cC,aF,eH,jD,xB,rC,aC,wE,fH,bI,gA,iA,rA,jA]
 exact .some ⟨r',a',f',c',o',v1,v2,v3,rfl⟩
theorem bCI (hs:s.length≤200) (n:Int) (hA:aTq s b q0 q1 q2 q3 q4 q5 q6 q7 n):∀(j:Nat) (a:Int) (f:Bool) (c o:C) (w r0:Row),0≤a→a≤(s.length:Int)→(s.length:Int)<a+j→(s.length:Int) - a≤n+1→Inv c o→
 cH (fun r=>∃a' f' c' o' w' r',a≤a'∧a'≤(s.length:Int)∧Inv c' o'∧r=(0,st s a' b q0 q1 q2 q3 q4 q5 q6 q7 f' c' o'++[.r w',.r r'])) (zC (cA T) s a b q0 q1 q2 q3 q4 q5 q6 q7 f c o w r0)
 |0,a,f,c,o,w,r0,g0,g1,g2,gn,hI=>by omega
 |j+1,a,f,c,o,w,r0,g0,g1,g2,gn,hI=>by
  rw[aAf];unfold yG
  refine .bind (R:=fun r=>∃q:Bool,(q=true→a<(s.length:Int))∧r=(0,.r [.bool q]::(st s a b q0 q1 q2 q3 q4 q5 q6 q7 f c o++[.r w,.r r0]))) ?_ ?_
  ·refine .jB (aVU s b q0 q1 q2 q3 q4 q5 q6 q7 a f c o) ?_
   simp only[nD,iC,wC,cC,aF,eH,jD,xB,rC,aC,wE,fH,bI,gA,iA,rA,jA]
   refine .ite (fun e=> ?_) (fun _=> .some ⟨false,fun h=>(by cases h),rfl⟩)
   have hlt:a<(s.length:Int):=by simp at e;exact e.2
   obtain ⟨x,_,_,_,e2⟩:=aN8 s b q0 q1 q2 q3 q4 q5 q6 q7 a f c o g0
   refine .jB e2 ?_
   simp only[nD,iC,wC,cC,aF,eH,jD,xB,rC,aC,wE,fH,bI,gA,iA,rA,jA]
   exact .some ⟨_,fun _=>hlt,rfl⟩
  rintro x7 ⟨q,hq,rfl⟩
  simp only[List.cons_append,List.nil_append,nD,iC,wC,cC,aF,eH,jD,xB,rC,aC,wE,fH,bI,gA,iA,rA,jA]
  refine .ite (fun e=> ?_) (fun _=> .some ⟨a,f,c,o,w,r0,Int.le_refl _,g1,hI,rfl⟩)
  have hlt:=hq e
  rw[oK (show 0≤a+1 by omega) (by omega)]
  refine .bind (bCH s b q0 q1 q2 q3 q4 q5 q6 q7 hs n hA (a+1) f c o (by omega) (by omega) (by omega) hI) ?_
  rintro y8 ⟨x,a2,f2,c2,o2,u1,u2,u3,rfl⟩
  simp only[List.cons_append,List.nil_append,nD,iC,wC,cC,aF,eH,jD,xB,rC,aC,wE,fH,bI,gA,iA,rA,jA]
  have fin:∀row:Row,cH (fun r=>∃a' f' c' o' w' r',a≤a'∧a'≤(s.length:Int)∧Inv c' o'∧r=(0,st s a' b q0 q1 q2 q3 q4 q5 q6 q7 f' c' o'++[.r w',.r r'])) (((cA T).ic wH [.r [at_ x 1,at_ x 2,at_ x 3,at_ x 4],.r row]).bind fun y11=>
        ((cA T).ic xH [.r [at_ x 5,at_ x 6,at_ x 7,at_ x 8],.r (gR 0 y11)]).bind fun y12=>
          zC (cA T) s a2 b q0 q1 q2 q3 q4 q5 q6 q7 f2 c2 o2 w (gR 0 y12)):=by
   intro row
   obtain ⟨r1,e1⟩:=aVS [at_ x 1,at_ x 2,at_ x 3,at_ x 4] row
   refine .jB e1 ?_
   obtain ⟨r2,e2⟩:=aVT [at_ x 5,at_ x 6,at_ x 7,at_ x 8] r1
   refine .jB e2 ?_
   refine (bCI hs n hA j a2 f2 c2 o2 w _ (by omega) u2 (by omega) (by omega) u3).mono ?_
   rintro r ⟨a',f',c',o',w',r',v1,v2,v3,rfl⟩
   exact ⟨a',f',c',o',w',r',by omega,v2,v3,rfl⟩
  exact .ite (fun _=>fin _) fun _=>fin _
theorem bHv (hs:s.length≤200):∀n:Nat,aTq s b q0 q1 q2 q3 q4 q5 q6 q7 n:=by
 have step:∀n:Int,aTq s b q0 q1 q2 q3 q4 q5 q6 q7 n→aTq s b q0 q1 q2 q3 q4 q5 q6 q7 (n+1):=by
  intro n hA a f c o g0 g1 gn hI
  rw[aCa];unfold eJ
  refine .bind (bCH s b q0 q1 q2 q3 q4 q5 q6 q7 hs n hA a f c o g0 g1 gn hI) ?_
  rintro y1 ⟨x,a2,f2,c2,o2,u1,u2,u3,rfl⟩
  simp only[List.cons_append,List.nil_append,nD,iC,wC,cC,aF,eH,jD,xB,rC,aC,wE,fH,bI,gA,iA,rA,jA]
  refine .bind (bCI s b q0 q1 q2 q3 q4 q5 q6 q7 hs n hA 400 a2 f2 c2 o2 _ _ (by omega) u2 (by omega) (by omega) u3) ?_
  rintro x13 ⟨a',f',c',o',w',r',v1,v2,v3,rfl⟩
  simp only[List.cons_append,List.nil_append,nD,iC,wC,cC,aF,eH,jD,xB,rC,aC,wE,fH,bI,gA,iA,rA,jA]
  exact .some ⟨r',a',f',c',o',by omega,v2,v3,rfl⟩
 intro n
 induction n with
 |zero=>exact step (-1) (fun a f c o g0 g1 gn hI=>by omega)
 |succ n ih=>exact step n ih
end
end Go.Ev.jJ
namespace Go.Ev.jJ
@[simp] theorem bHw (x:List (Row×Row)):(PV.m x).es=x:=rfl
@[simp] theorem a4z (p q:PV) (x:List PV):(p::x).headD q=p:=rfl
def a8Q (row:Row):Prop:=Inv (at_ row 0) (at_ row 1)
theorem a5T (s:List UInt8):cH (fun r=>∃(row:Row) (e:Int),r=[row,[.int e]]∧(e=0→a8Q row)) ((cA T).pc aFH [[.str s]]):=by
 rw[aSo];unfold aJq
 refine .ite (fun e=> .some ⟨_,2,rfl,fun h=>by cases h⟩) fun e=> ?_
 have hs:s.length≤200:=by have:=of_decide_eq_false (by simpa using e:decide ((s.length:Int)>200)=false);omega
 refine .bind (bHv s false 0 0 0 0 0 0 0 0 hs 400 0 false (.sl [[.int 0,.int 0,.int 0,.int 0]]) (.sl [[.int 0,.int 0,.int 0,.int 0]]) (by omega) (by omega) (by omega) ⟨rfl,by simp[C.rows],by simp[C.rows]⟩) ?_
 rintro y1 ⟨row,a,f,c,o,u1,u2,u3,rfl⟩
 simp only[List.cons_append,List.nil_append,nD,iC,wC,cC,aF,eH,jD,xB,rC,aC,wE,fH,bI,gA,iA,rA,jA]
 refine .bind (R:=fun r=>∃(q:Bool) (w:Row),r=(0,.r [.bool q]:: .r w::[.r [.str s],.r [.int a],.r [.bool false],.r [.int 0],.r [.int 0],.r [.int 0],.r [.int 0],.r [.int 0],.r [.int 0],.r [.int 0],.r [.int 0],.r [.bool f],.r row,.r [c],.r [o]])) ?_ ?_
 ·exact .ite (fun e=> .some ⟨_,_,rfl⟩) fun e=> .some ⟨_,_,rfl⟩
 rintro x4 ⟨q,w,rfl⟩
 simp only[List.cons_append,List.nil_append,nD,iC,wC,cC,aF,eH,jD,xB,rC,aC,wE,fH,bI,gA,iA,rA,jA]
 refine .ite (fun e=> .some ⟨_,14,rfl,fun h=>by cases h⟩) fun e=> ?_
 obtain ⟨i1,i2,i3⟩:=u3
 have hl:0<o.rows.length:=by omega
 refine .pos ⟨by omega,by omega⟩ (.pos hl ?_)
 exact .some ⟨_,0,rfl,fun _=>⟨by show c.rows.length=(o.rows.set 0 _).length;rw[List.length_set];exact i1,i2,i3⟩⟩
theorem a8R (p:Row) (b:Int) (hb0:0≤b) (hb1:b<256) (v2:Int) (hm:(at_ p 0).rows.length≤256):∀(j:Nat) (i:Int) (out:Row),0≤i→i+j=(at_ p 0).rows.length→
 cH (fun r=>∃out',r=(0,[.r [.dp p],.r [.int v2],.r out'])) (rS (cA T) (.dp p) b v2 ((at_ p 0).rows.length:Int) i out)
 |0,i,out,h0,h=>by
  rw[aDC];unfold sS
  have:¬i<((at_ p 0).rows.length:Int):=by omega
  simp only[this,decide_false,Bool.false_eq_true,if_false]
  exact .some ⟨_,rfl⟩
 |j+1,i,out,h0,h=>by
  rw[aDC];unfold sS
  have hlt:i<((at_ p 0).rows.length:Int):=by omega
  simp only[hlt,decide_true,if_true,fB,wA,h0,and_self]
  rw[aZN hb0 hb1]
  obtain ⟨q,e⟩:=a5P (.dp (aA ((at_ p 0).rows) i.toNat)) rfl hb0 hb1
  refine .jB e ?_
  simp only[fA,gA,iA,oK (show 0≤i+1 by omega) (show i+1≤1000000000000 by omega)]
  refine .ite (fun _=> ?_) fun _=>a8R p b hb0 hb1 v2 hm j (i+1) out (by omega) (by omega)
  simp only[hb0,hb1,and_self,if_true]
  obtain ⟨out',e'⟩:=a5S (p:=((0+(b.toNat*4):Nat):Int)) (i:=i) (by omega) (by omega) h0 (by omega) out
  refine .jB e' ?_
  exact a8R p b hb0 hb1 v2 hm j (i+1) _ (by omega) (by omega)
theorem bCJ (p:Row) (hm:(at_ p 0).rows.length≤256):∀(j:Nat) (i:Int) (out:Row),0≤i→i+j=256→
 cH (fun r=>∃out',r=(0,[.r out'])) (wS (cA T) (.dp p) i out)
 |0,i,out,h0,h=>by
  rw[aDD];unfold xS
  have:¬i<256:=by omega
  simp only[this,decide_false,Bool.false_eq_true,if_false]
  exact .some ⟨_,rfl⟩
 |j+1,i,out,h0,h=>by
  rw[aDD];unfold xS
  have hlt:i<256:=by omega
  simp only[hlt,decide_true,if_true,fB,wA]
  refine .bind (a8R p i h0 hlt i hm _ 0 out (by omega) (by rw[Int.zero_add])) ?_
  rintro x3 ⟨out',rfl⟩
  simp only[List.cons_append,List.nil_append,nD,iC,wC,cC,aF,eH,jD,xB,rC,aC,wE,fH,bI,gA,iA,rA,jA,oK (show 0≤i+1 by omega) (show i+1≤1000000000000 by omega)]
  exact bCJ p hm j (i+1) _ (by omega) (by omega)
theorem bEy (p:Row) (hm:(at_ p 0).rows.length≤256):cH (fun r=>∃out,r=[[.dp out]]) ((cA T).pc aCH [[.dp p]]):=by
 rw[aPV];unfold aFG
 refine .bind (bCJ p hm 256 0 _ (by omega) (by omega)) ?_
 rintro x ⟨out,rfl⟩
 exact .some ⟨out,rfl⟩
theorem aVV (p t:Row) (v4:Row) (hm:(at_ p 1).rows.length≤256):∀(j:Nat) (i:Int) (out:Row),0≤i→i+j=(at_ p 1).rows.length→
 cH (fun r=>∃out',r=(0,[.r v4,.r out'])) (oM (cA T) (.dp p) (.dp t) ((at_ p 1).rows.length:Int) i v4 out)
 |0,i,out,h0,h=>by
  rw[o7];unfold pM
  have:¬i<((at_ p 1).rows.length:Int):=by omega
  simp only[this,decide_false,Bool.false_eq_true,if_false]
  exact .some ⟨_,rfl⟩
 |j+1,i,out,h0,h=>by
  rw[o7];unfold pM
  have hlt:i<((at_ p 1).rows.length:Int):=by omega
  simp only[hlt,decide_true,if_true]
  obtain ⟨q,e⟩:=aZO (.dp t) rfl h0 (show i<256 by omega)
  refine .jB e ?_
  simp only[fA,gA,iA,oK (show 0≤i+1 by omega) (show i+1≤1000000000000 by omega)]
  refine .ite (fun _=> ?_) fun _=>aVV p t v4 hm j (i+1) out (by omega) (by omega)
  simp only[fB,wA,hlt,h0,and_self,if_true]
  obtain ⟨out',e'⟩:=a3g (aA ((at_ p 1).rows) i.toNat) out
  refine .jB e' ?_
  exact aVV p t v4 hm j (i+1) _ (by omega) (by omega)
theorem a3l (p t:Row) (hm:(at_ p 1).rows.length≤256):cH (fun r=>∃out,r=[out]) ((cA T).pc wU [[.dp p],t]):=by
 rw[aMz];unfold u9
 simp only[fB,wA,if_true]
 refine .bind (aVV p t _ hm _ 0 _ (by omega) (by rw[Int.zero_add])) ?_
 rintro x ⟨out,rfl⟩
 exact .some ⟨out,rfl⟩
theorem a8S (p t:Row):∀(j:Nat) (i:Int),0≤i→i+j=4→
 cH (fun r=>r=(0,[])∨r=(1,[.r [.bool true]])) (eP (cA T) (.dp p) (.dp t) i)
 |0,i,h0,h=>by
  rw[aBX];unfold fP
  have:¬i<4:=by omega
  simp only[this,decide_false,Bool.false_eq_true,if_false]
  exact .some (.inl rfl)
 |j+1,i,h0,h=>by
  rw[aBX];unfold fP
  have hlt:i<4:=by omega
  simp only[hlt,decide_true,if_true,h0,fB,wA,and_self,oK (show 0≤i+1 by omega) (show i+1≤1000000000000 by omega)]
  exact .ite (fun _=> .some (.inr rfl)) fun _=>a8S p t j (i+1) (by omega) (by omega)
theorem a8T (p t:Row):cH (fun r=>∃b,r=[[.bool b]]) ((cA T).pc w9 [[.dp p],t]):=by
 rw[aNW];unfold aCG
 refine .bind (R:=fun r=>∃q:Bool,r=(0,[.r [.dp p],.r [.dp t],.r [.bool q]])) ?_ ?_
 ·obtain ⟨q,e⟩:=aZO (.dp t) rfl (i:=0) (by omega) (by omega)
  refine .jB e ?_
  simp only[fB,wA,if_true]
  exact .ite (fun _=> .some ⟨_,rfl⟩) fun _=> .some ⟨_,rfl⟩
 rintro x4 ⟨q,rfl⟩
 simp only[List.cons_append,List.nil_append,nD,iC,wC,cC,aF,eH,jD,xB,rC,aC,wE,fH,bI,gA,iA,rA,jA]
 refine .ite (fun _=> .some ⟨_,rfl⟩) fun _=> .bind (a8S p t 4 0 (by omega) (by omega)) ?_
 rintro x (rfl |rfl)
 ·exact .some ⟨_,rfl⟩
 ·exact .some ⟨_,rfl⟩
theorem a1p (v0:C) (m:Row) (v2 v3 v4:Int) (v6:Row) (v7:List (Row×Row)) (v8:C) (v9 v10:Row) (v12 nG:C) (h30:0≤v3) (h31:v3<256):∀(j:Nat) (i:Int) (t:Row),0≤i→i+j=4→
 cH (fun r=>∃t',r=(0,[.r [v0],.r [.dp m],.r [.int v2],.r [.int v3],.r [.int v4],.r v6,.m v7,.r [v8],.r v9,.r v10,.r t',.r [v12],.r [nG]])) (nY (cA T) v0 (.dp m) v2 v3 v4 i v6 v7 v8 v9 v10 t v12 nG)
 |0,i,t,h0,h=>by
  rw[aGd];unfold oY
  have:¬i<4:=by omega
  simp only[this,decide_false,Bool.false_eq_true,if_false]
  exact .some ⟨_,rfl⟩
 |j+1,i,t,h0,h=>by
  rw[aGd];unfold oY
  have hlt:i<4:=by omega
  simp only[hlt,decide_true,if_true,h0,fB,wA,and_self,h30,h31,oK (show 0≤i+1 by omega) (show i+1≤1000000000000 by omega)]
  rw[aN7 (k4 h0 hlt),aK0 (k4 h0 hlt)]
  exact a1p v0 m v2 v3 v4 v6 v7 v8 v9 v10 v12 nG h30 h31 j (i+1) _ (by omega) (by omega)
theorem bHx {i:Int} (h0:0≤i) (h1:i<256):(List.replicate 256 (K.int .i16))[0+i.toNat*1]? =some (.int .i16):=by
 rw[List.getElem?_replicate,if_pos (by omega)]
theorem aVW (v0:C) (m:Row) (v2:Int) (v4:Row) (v8:Row) (v9 v10:C):∀(j:Nat) (i:Int) (v5:List (Row×Row)) (v6:C) (v7:Row),0≤i→i+j=256→v6.rows.length≤400→
 cH (fun r=>(∃v5' v6' v7',v6.rows.length≤v6'.rows.length∧v6'.rows.length≤400∧r=(0,[.r [v0],.r [.dp m],.r [.int v2],.r v4,.m v5',.r [v6'],.r v7',.r [v9],.r [v10]]))∨r=(1,[.r [.int 2],.r [.bA,.bA]])) (qY (cA T) v0 (.dp m) v2 i v4 v5 v6 v7 v8 v9 v10)
 |0,i,v5,v6,v7,h0,h,hl=>by
  rw[aGe];unfold rY
  have:¬i<256:=by omega
  simp only[this,decide_false,Bool.false_eq_true,if_false]
  exact .some (.inl ⟨_,_,_,Nat.le_refl _,hl,rfl⟩)
 |j+1,i,v5,v6,v7,h0,h,hl=>by
  rw[aGe];unfold rY
  have hlt:i<256:=by omega
  simp only[hlt,decide_true,if_true]
  refine .bind (a1p v0 m v2 i i v4 v5 v6 v7 v8 v9 v10 h0 hlt 4 0 v8 (by omega) (by omega)) ?_
  rintro x7 ⟨t,rfl⟩
  simp only[List.cons_append,List.nil_append,nD,iC,wC,cC,aF,eH,jD,xB,rC,aC,wE,fH,bI,gA,iA,rA,jA,a4z,bHw,oK (show 0≤i+1 by omega) (show i+1≤1000000000000 by omega)]
  refine .ite (fun _=> ?_) fun _=> ?_
  ·refine .pos (by simp;omega) (.ite (fun _=> .some (.inr rfl)) fun e=> ?_)
   have hl2:(uE v6 [t]).rows.length≤400:=by
    have:=of_decide_eq_false (by simpa using e:decide (((uE v6 [t]).rows.length:Int)>400)=false);omega
   refine .pos ⟨h0,hlt⟩ ?_
   rw[aK0 (bHx h0 hlt)]
   refine (aVW v0 m v2 v4 v8 v9 v10 j (i+1) _ _ _ (by omega) (by omega) hl2).mono ?_
   rintro r (⟨a,b,c,g1,g2,rfl⟩|rfl)
   ·exact .inl ⟨a,b,c,by simp at g1;omega,g2,rfl⟩
   ·exact .inr rfl
  ·refine .pos ⟨h0,hlt⟩ ?_
   rw[aK0 (bHx h0 hlt)]
   exact aVW v0 m v2 v4 v8 v9 v10 j (i+1) _ _ _ (by omega) (by omega) hl
theorem a1q (p m:Row) (hp:a8Q p) (v3:Row):∀(j:Nat) (i:Int) (v4:List (Row×Row)) (v5 v6 v7:C),0≤i→401≤i+j→i≤v5.rows.length→v5.rows.length≤400→(v6.rows.length:Int)=i→(v7.rows.length:Int)=i→
 cH (fun r=>(∃a b c,r=(0,[.r a,.r [b],.r [c]]))∨r=(1,[.r [.int 2],.r [.bA,.bA]])) (tY (cA T) (.dp p) (.dp m) i v3 v4 v5 v6 v7)
 |0,i,v4,v5,v6,v7,h0,h,hl,hl2,h6,h7=>by omega
 |j+1,i,v4,v5,v6,v7,h0,h,hl,hl2,h6,h7=>by
  rw[aOK];unfold aDV
  refine .ite (fun e=> ?_) fun _=> .some (.inl ⟨_,_,_,rfl⟩)
  have hlt:=of_decide_eq_true e
  refine .pos ⟨h0,hlt⟩ ?_
  refine .bind (a3l p (aA v5.rows i.toNat) (by have:=hp.1;have:=hp.2.2;omega)) ?_
  rintro y4 ⟨all,rfl⟩
  simp only[fA]
  refine .bind (aVW (.dp p) m i v3 all v6 v7 256 0 v4 v5 _ (by omega) (by omega) hl2) ?_
  rintro x10 (⟨v4',v5',v7',g1,g2,rfl⟩|rfl)
  ·simp only[List.cons_append,List.nil_append,nD,iC,wC,cC,aF,eH,jD,xB,rC,aC,wE,fH,bI,gA,iA,rA,jA,a4z,bHw,oK (show 0≤i+1 by omega) (show i+1≤1000000000000 by omega)]
   refine .pos (by simp;omega) (.pos ⟨h0,by omega⟩ ?_)
   refine .bind (a8T p _) ?_
   rintro y12 ⟨b,rfl⟩
   refine .pos (by simp;omega) ?_
   exact a1q p m hp v3 j (i+1) _ _ _ _ (by omega) (by omega) (by omega) g2 (by simp;omega) (by simp;omega)
  ·exact .some (.inr rfl)
theorem a5U (s:List UInt8):cH (fun r=>∃(row:Row) (e:Int),r=[row,[.int e]]) ((cA T).pc aFI [[.str s]]):=by
 rw[aSp];unfold aJr
 refine .bind (a5T s) ?_
 rintro y1 ⟨p,e,rfl,hp⟩
 have e1:aA [p,[.int e]] 1=[.int e]:=rfl
 simp only[fA,e1,gA,jA]
 refine .ite (fun _=> .some ⟨_,e,rfl⟩) fun h=> ?_
 have hp':=hp (by simpa using h)
 obtain ⟨z,ez⟩:=a8M (i:=0) (by omega) (by omega) [.int 0,.int 0,.int 0,.int 0]
 refine .jB ez ?_
 refine .bind (bEy p hp'.2.2) ?_
 rintro y3 ⟨m,rfl⟩
 simp only[fA,gA,jD]
 refine .bind (a1q p m hp' _ 401 0 _ _ _ _ (by omega) (by omega) (by simp[C.rows]) (by simp[C.rows]) rfl rfl) ?_
 rintro x (⟨a,b,c,rfl⟩|rfl)
 ·exact .some ⟨_,_,rfl⟩
 ·exact .some ⟨_,_,rfl⟩
theorem aZP (s:List UInt8):∃e:Int,(cA T).pc fI [[.str s]]=some [[.int e]]:=by
 have:cH (fun r=>∃e:Int,r=[[.int e]]) ((cA T).pc fI [[.str s]]):=by
  rw[aSq];unfold aJs
  refine .bind (a5U s) ?_
  rintro y ⟨row,e,rfl⟩
  exact .some ⟨_,rfl⟩
 obtain ⟨r,h,e,rfl⟩:=this
 exact ⟨e,h⟩
end Go.Ev.jJ
namespace Go.Ev.jJ
abbrev big:Nat:=4294967296
theorem bEz {i:Nat} (h:i≤big):aCj ((i:Int)+1):=by unfold big at h;exact ⟨by omega,by omega⟩
theorem uB {i:Nat} (h:i≤big):IntKind.wrap .i64 ((i:Int)+1)=((i+1:Nat):Int):=by rw[wrap_i64 (bEz h)];omega
theorem a5V (a:Int):(cA T).pc aAL [[.int a]]=some [[.bool false]]:=by
 rw[aSm];simp[cmp_isNaN_int]
theorem aTr (a b:Int):(cA T).pc nV [[.int a],[.int b]]=some [[.int (aOD a b)]]:=by
 rw[aPS]
 unfold cmp_Compare_int aOD
 simp only[a5V,Option.bind_some,fA,gA,iA,Bool.false_eq_true,if_false,decide_eq_true_eq]
 split
 ·rfl
 ·split<;>rfl
theorem aN9 (a b:Bytes):(cA T).pc mV [[.str a],[.str b]]=some [[.int (jF a b)]]:=by
 rw[aPT]
 unfold strings_Compare
 rw[aB9]
 simp[bJ]
def aVX (n:Int):Row:=[.int n]
theorem a1r (l:List Int) (hN:l.length≤big):∀(j i:Nat),i+j=l.length→
 aEn (cA T) 0 (.sl (l.map aVX)) (l.length:Int) (i:Int)=if orI (l.drop i)=0 then some (0,[.r [.int 0]])else some (1,[.r [.int (orI (l.drop i))]])
 |0,i,h=>by
  rw[aKD]
  unfold aEo
  have:¬(i:Int)<(l.length:Int):=by omega
  rw[List.drop_eq_nil_of_le (by omega)]
  simp[this,orI]
 |j+1,i,h=>by
  rw[aKD]
  unfold aEo
  have h1:i<l.length:=by omega
  have ih:=a1r l hN j (i+1) (by omega)
  rw[List.drop_eq_getElem_cons h1]
  simp only[aCi,fC,List.length_map,Int.toNat_natCast,h1,uB (show i≤big by omega),ih,orI,aVX,gA,jA]
  have g1:(i:Int)<(l.length:Int):=by omega
  have g0:(0:Int)≤(i:Int):=by omega
  simp only[g1,g0,decide_true,and_self,if_true]
  by_cases hc:l[i]=0<;>simp[hc]
theorem a8U (l:List Int) (hN:l.length≤big):(cA T).pc aGy [[.sl (l.map aVX)]]=some [[.int (orI l)]]:=by
 rw[aW0]
 unfold aPt
 simp only[aCi,List.length_map]
 have:=a1r l hN l.length 0 (by omega)
 simp only[Int.ofNat_zero,Int.natCast_zero]at this
 rw[this,List.drop_zero]
 by_cases h:orI l=0<;>simp[h]
theorem aVY (n:Int) (h:aCj n):(cA T).pc aEq [[.int n]]=some [[.int (aNr n)]]:=by
 rw[aVv]
 unfold aNF aNr
 by_cases hn:n<0
 ·have h':=h
  obtain ⟨h1,h2⟩:=h'
  simp only[hn,decide_true,if_true,a9Q h hn]
  rw[wrap_i64 ⟨by omega,by omega⟩]
 ·simp only[hn,decide_false,Bool.false_eq_true,if_false]
theorem aOa (b b':Bool) (l r:List (Bytes×aB)) (hN:l.length≤big) (hc:∀p∈l,∀q∈r,(cA T).pc kJ [qD p,qD q]=some [[.int (aBd p q)]]):∀(j i:Nat),i+j=l.length→i≤r.length→
 qE (cA T) (iJ b (l.map qD)) (iJ b' (r.map qD)) (.fn kJ []) (iJ b (l.map qD)) (l.length:Int) (i:Int)=
  if aRJ aBd (l.drop i) (r.drop i)=0 then some (0,[.r [iJ b (l.map qD)],.r [iJ b' (r.map qD)]])else some (1,[.r [.int (aRJ aBd (l.drop i) (r.drop i))]])
 |0,i,h,_=>by
  rw[yN]
  unfold rE
  have:¬(i:Int)<(l.length:Int):=by omega
  rw[List.drop_eq_nil_of_le (by omega)]
  simp[this,aRJ]
 |j+1,i,h,hir=>by
  rw[yN]
  unfold rE
  have h1:i<l.length:=by omega
  have g1:(i:Int)<(l.length:Int):=by omega
  have g0:(0:Int)≤(i:Int):=by omega
  rw[List.drop_eq_getElem_cons h1]
  by_cases h2:i<r.length
  ·have ih:=aOa b b' l r hN hc j (i+1) (by omega) (by omega)
   rw[List.drop_eq_getElem_cons h2]
   have g2:(i:Int)<(r.length:Int):=by omega
   have g3:¬(i:Int)≥(r.length:Int):=by omega
   have hcc:=hc l[i] (List.getElem_mem h1) r[i] (List.getElem_mem h2)
   have bJ4:aMK (cA T) (.fn kJ []) [qD l[i],qD r[i]]=some [[.int (aBd l[i] r[i])]]:=hcc
   simp only[jC,fC,List.length_map,Int.toNat_natCast,h1,h2,uB (show i≤big by omega),ih,aRJ,g1,g2,g0,g3,decide_true,decide_false,Bool.false_eq_true,if_false,and_self,if_true,bJ4,Option.bind_some,fA,gA,jA]
   by_cases hz:aBd l[i] r[i]=0<;>simp[hz]
  ·have g3:(i:Int)≥(r.length:Int):=by omega
   rw[List.drop_eq_nil_of_le (show r.length≤i by omega)]
   simp only[jC,List.length_map,g1,g0,g3,decide_true,and_self,if_true,aRJ]
   simp
theorem aZQ (b b':Bool) (l r:List (Bytes×aB)) (hN:l.length≤big) (hc:∀p∈l,∀q∈r,(cA T).pc kJ [qD p,qD q]=some [[.int (aBd p q)]]):
 (cA T).pc cJ [[iJ b (l.map qD)],[iJ b' (r.map qD)],[.fn kJ []]]=some [[.int (aLj aBd l r)]]:=by
 rw[aDv]
 unfold xL
 have:=aOa b b' l r hN hc l.length 0 (by omega) (by omega)
 simp only[Int.ofNat_zero,Int.natCast_zero,List.drop_zero]at this
 simp only[jC,List.length_map]
 rw[this,aXu]
 by_cases h:aRJ aBd l r=0
 ·by_cases h':l.length<r.length<;>simp[h,h']
 ·simp[h]
theorem a1s (v w:aB) (hv:v.wf) (hw:w.wf) (hN:v.mB≤big):(cA T).pc aIE [v.row,w.row]=some [[.int (v.cmp w)]]:=by
 have aBw:∀p∈v.fs,∀q∈w.fs,(cA T).pc kJ [qD p,qD q]=some [[.int (aBd p q)]]:=by
  intro p hp q hq
  have:=aB.lD hp
  have hb:=aB.aKe hp
  have ih:=a1s p.2 q.2 (aB.aYJ hv hp) (aB.aYJ hw hq) (by omega)
  rw[aVw]
  unfold aNG
  have ho:=a8U [jF p.1 q.1,p.2.cmp q.2] (by simp[big])
  simp only[List.map_cons,List.map_nil,aVX]at ho
  simp only[a3H,aYL,aYM,aYN,aYO,rA,aHs,aN9,ih,Option.bind_some,fA,gA,jA,ho,aBd]
 rw[aZv]
 unfold aR0
 have hf:=aZQ v.nil w.nil v.fs w.fs (by have:=v.aHr;omega) aBw
 rw[←v.aZ5,←w.aZ5]at hf
 have ho:=a8U [aOD v.k w.k,aOD (if v.k=3 then aNr v.n else v.n) (if v.k=3 then aNr w.n else w.n),jF v.s w.s] (by simp[big])
 simp only[List.map_cons,List.map_nil,aVX]at ho
 rw[v.cmp_eq]
 by_cases k3:v.k=3
 ·simp only[k3,if_true]at ho
  simp only[aIu,aLg,aLh,gY,jA,rA,k3,beq_self_eq_true,if_true,aVY _ (aB.aWk hv),aVY _ (aB.aWk hw),Option.bind_some,fA,gA,nD,iC,wC,cC,aF,eH,jD,xB,rC,aC,wE,fH,bI,List.tail_cons,fB,wA,aTr,aN9,ho,hf]
  generalize orI _=c
  by_cases hc:c=0<;>simp[hc]
 ·simp only[k3,if_false]at ho
  have k3':(v.k==3)=false:=by simp[k3]
  simp only[aIu,aLg,aLh,gY,jA,rA,k3,k3',Bool.false_eq_true,if_false,Option.bind_some,fA,gA,nD,iC,wC,cC,aF,eH,jD,xB,rC,aC,wE,fH,bI,List.tail_cons,fB,wA,aTr,aN9,ho,hf,if_true]
  generalize orI _=c
  by_cases hc:c=0<;>simp[hc]
 termination_by SizeOf.sizeOf v
theorem aSx (v w:aB) (hv:v.wf) (hw:w.wf) (hN:v.mB≤big):(cA T).pc uY [v.row,w.row]=some [[.bool (v.eqv w)]]:=by
 rw[aW1]
 unfold aPw
 simp only[a1s v w hv hw hN,Option.bind_some,fA,gA,jA]
 have:=aB.a0i v w hv hw
 cases he:v.eqv w with
 |true=>rw[this.2 he];rfl
 |false=>
  have hne:¬v.cmp w=0:=fun h=>by rw[this.1 h]at he;cases he
  simp[hne]
theorem a4A (v w:aB) (hl:v.fs.length=w.fs.length) (hN:v.fs.length≤big) (hc:∀p∈v.fs,∀u:aB,(cA T).pc yE [p.2.row,u.row]=some [[.bool (p.2.eqv u)]]):∀(j i:Nat),i+j=v.fs.length→
 yY (cA T) (.dp w.row) v.fc (v.fs.length:Int) (i:Int)=if uL aNq (v.fs.drop i) (w.fs.drop i)=true then some (0,[])else some (1,[.r [.bool false]])
 |0,i,h=>by
  rw[aGf]
  unfold zY
  have:¬(i:Int)<(v.fs.length:Int):=by omega
  rw[List.drop_eq_nil_of_le (by omega),List.drop_eq_nil_of_le (by omega)]
  simp[this,uL]
 |j+1,i,h=>by
  rw[aGf]
  unfold zY
  have h1:i<v.fs.length:=by omega
  have h2:i<w.fs.length:=by omega
  have ih:=a4A v w hl hN hc j (i+1) (by omega)
  rw[List.drop_eq_getElem_cons h1,List.drop_eq_getElem_cons h2]
  have hcc:=hc _ (List.getElem_mem h1) (w.fs[i].2)
  have g1:(i:Int)<(v.fs.length:Int):=by omega
  have g2:(i:Int)<(w.fs.length:Int):=by omega
  have g0:(0:Int)≤(i:Int):=by omega
  simp only[aB.fY,fB,wA,gY,fC,List.length_map,Int.toNat_natCast,h1,h2,a3H,aYL,aYM,aYN,aYO,rA,aHs,hcc,uB (show i≤big by omega),ih,uL,g1,g2,g0,decide_true,and_self,if_true,Option.bind_some,fA,gA,iA,aNq]
  by_cases hc:v.fs[i].1=w.fs[i].1
  ·simp only[hc,beq_self_eq_true,Bool.not_true,Bool.false_eq_true,if_false,Bool.true_and]
   cases he:v.fs[i].2.eqv w.fs[i].2<;>simp
  ·simp[hc]
theorem aEe (v w:aB) (hN:v.mB≤big):(cA T).pc yE [v.row,w.row]=some [[.bool (v.eqv w)]]:=by
 have aBw:∀p∈v.fs,∀u:aB,(cA T).pc yE [p.2.row,u.row]=some [[.bool (p.2.eqv u)]]:=by
  intro p hp u
  have:=aB.lD hp
  have hb:=aB.aKe hp
  exact aEe p.2 u (by omega)
 rw[aSr]
 unfold aJP
 rw[v.aPk]
 simp only[aIu,aLg,aLh,gY,jA,rA,aB.fY,List.length_map]
 by_cases h1:v.k=w.k
 ·by_cases h2:v.n=w.n
  ·by_cases h3:v.s=w.s
   ·by_cases h4:v.fs.length=w.fs.length
    ·have:=a4A v w h4 (by have:=v.aHr;omega) aBw v.fs.length 0 (by omega)
     simp only[Int.ofNat_zero,Int.natCast_zero,List.drop_zero]at this
     have e4:((v.fs.length:Int) !=(w.fs.length:Int))=false:=by simp[h4]
     simp only[h1,h2,h3,e4,bne_self_eq_false,beq_self_eq_true,Bool.not_true,Bool.false_eq_true,if_false,Option.bind_some,nD,iC,wC,cC,aF,eH,jD,xB,rC,aC,wE,fH,bI,List.tail_cons,gA,iA,fB,if_true,wA,gY,aB.fY,List.length_map,this,Bool.true_and]
     cases uL aNq v.fs w.fs<;>simp
    ·have e4:((v.fs.length:Int) !=(w.fs.length:Int))=true:=by simp;omega
     have e5:uL aNq v.fs w.fs=false:=by
      cases h:uL aNq v.fs w.fs
      ·rfl
      ·exact absurd (aUM h) h4
     simp[h1,h2,h3,e4,e5]
   ·simp[h1,h2,h3]
  ·simp[h1,h2]
 ·simp[h1]
 termination_by SizeOf.sizeOf v
end Go.Ev.jJ
namespace Go.Ev.jJ
theorem a8V (s:List UInt8) (hN:s.length≤big):∀(j i:Nat),i+j=s.length→
 cH (fun r=>r=(0,[])∨r=(1,[.r [.bool false]])) (aEs (cA T) (.sl (s.map dV)) (s.length:Int) (i:Int))
 |0,i,h=>by
  rw[aKE];unfold aEt
  have:¬(i:Int)<(s.length:Int):=by omega
  simp only[this,decide_false,Bool.false_eq_true,if_false]
  exact .some (.inl rfl)
 |j+1,i,h=>by
  rw[aKE];unfold aEt
  have hlt:(i:Int)<(s.length:Int):=by omega
  simp only[hlt,decide_true,if_true]
  refine .bind (R:=fun r=>r=(0,[.r [.sl (s.map dV)],.r [.int (s.length:Int)],.r [.int (i:Int)]])∨r=(1,[.r [.bool false]])) ?_ ?_
  ·refine .pos ⟨by omega,by simpa[C.rows]using hlt⟩ ?_
   repeat' (first |exact .some (.inl rfl)|exact .some (.inr rfl)|refine .ite (fun _=> ?_) fun _=> ?_)
  ·rintro r (rfl |rfl)
   ·simp only[xB,iC,rC,wC]
    rw[uB (by omega)]
    exact a8V s hN j (i+1) (by omega)
   ·exact .some (.inr rfl)
theorem a1t (s:List UInt8):∃b:Bool,(cA T).pc kH [[.str s]]=some [[.bool b]]:=by
 have:cH (fun r=>∃b:Bool,r=[[.bool b]]) ((cA T).pc kH [[.str s]]):=by
  rw[aW2];unfold aPx
  refine .bind (R:=fun r=>∃q:Bool,(q=false→s.length≤16)∧r=(0,[.r [.str s],.r [.bool q]])) ?_ ?_
  ·refine .ite (fun _=> ?_) fun hne=> ?_
   ·simp only[if_true];exact .some ⟨true,fun h=>(by cases h),rfl⟩
   have hpos:0<s.length:=by
    rcases s with _ |⟨a,s⟩
    ·simp at hne
    ·simp
   refine .ite (fun _=> ?_) fun h=> ?_
   ·simp only[if_true];exact .some ⟨true,fun h=>(by cases h),rfl⟩
   have h16:s.length≤16:=by have:=of_decide_eq_false (by simpa using h:decide ((s.length:Int)>16)=false);omega
   refine .pos ⟨by omega,by omega⟩ ?_
   refine .ite (fun _=> .some ⟨true,fun h=>(by cases h),rfl⟩) fun _=> .pos ⟨by omega,by omega⟩ (.some ⟨_,fun _=>h16,rfl⟩)
  rintro r ⟨q,hq,rfl⟩
  simp only[cC,aC,wE,List.length_map]
  refine .ite (fun _=> .some ⟨_,rfl⟩) fun h=> ?_
  refine .bind (a8V s (by have:=hq (by simpa using h);unfold big;omega) s.length 0 (by omega)) ?_
  rintro r (rfl |rfl)
  ·exact .some ⟨_,rfl⟩
  ·exact .some ⟨_,rfl⟩
 obtain ⟨r,h,b,rfl⟩:=this
 exact ⟨b,h⟩
noncomputable def nm (s:List UInt8):Bool:=(a1t s).choose
theorem aHm (s:List UInt8):(cA T).pc kH [[.str s]]=some [[.bool (nm s)]]:=(a1t s).choose_spec
theorem aZR (p:Bytes×aB):([at_ (qD p) 1,at_ (qD p) 2,at_ (qD p) 3,at_ (qD p) 4]:Row)=p.2.row:=rfl
theorem dec_lt {i n:Nat} (h:i<n):decide ((i:Int)<(n:Int))=true:=decide_eq_true (by omega)
theorem aAg {n:Nat}:¬decide ((n:Int)<(n:Int))=true:=by simp
theorem aDo {i:Nat} {rows:List Row} (h:i<rows.length):(0:Int)≤(i:Int)∧(i:Int)<(rows.length:Int):=⟨by omega,by omega⟩
abbrev aRo (x:Option (List Row)):Prop:=cH (fun r=>∃n:Int,r=[[.int n]]) x
theorem a4B (v:aB) (hN:v.fs.length≤big) (hc:∀p∈v.fs,aRo ((cA T).pc kY [p.2.row])):∀(j i:Nat) (a:Int),i+j=v.fs.length→
 cH (fun r=>∃n:Int,r=(0,[.r [.int n]])) (aEv (cA T) a v.fc (v.fs.length:Int) (i:Int))
 |0,i,a,h=>by
  rw[aKF];unfold aEw
  obtain rfl:i=v.fs.length:=by omega
  exact .ite (fun h=>absurd h aAg) fun _=> .some ⟨_,rfl⟩
 |j+1,i,a,h=>by
  rw[aKF];unfold aEw
  have hi:i<v.fs.length:=by omega
  refine .pos (dec_lt hi) (.pos (aDo (by simpa using hi)) ?_)
  rw[v.fY,Int.toNat_natCast,fC _ _ _ hi,aZR,uB (by omega)]
  refine .bind (hc _ (List.getElem_mem hi)) ?_
  rintro r ⟨n,rfl⟩
  exact a4B v hN hc j (i+1) _ (by omega)
theorem aYo (v:aB) (hN:v.mB≤big):aRo ((cA T).pc kY [v.row]):=by
 have aBw:∀p∈v.fs,aRo ((cA T).pc kY [p.2.row]):=fun p hp=>by
  have:=aB.lD hp
  have hb:=aB.aKe hp
  exact aYo p.2 (by omega)
 rw[aW3];unfold aPy
 simp only[gY,aB.fY,List.length_map]
 refine .bind (a4B v (by have:=v.aHr;omega) aBw v.fs.length 0 1 (by omega)) ?_
 rintro r ⟨n,rfl⟩
 exact .some ⟨_,rfl⟩
 termination_by SizeOf.sizeOf v
theorem a4C (v:aB) (hN:v.fs.length≤big) (hc:∀p∈v.fs,aRo ((cA T).pc lY [p.2.row])):∀(j i:Nat) (a:Int),i+j=v.fs.length→
 cH (fun r=>∃n:Int,r=(0,[.r [.int n]])) (aEy (cA T) a v.fc (v.fs.length:Int) (i:Int))
 |0,i,a,h=>by
  rw[aKG];unfold aEz
  obtain rfl:i=v.fs.length:=by omega
  exact .ite (fun h=>absurd h aAg) fun _=> .some ⟨_,rfl⟩
 |j+1,i,a,h=>by
  rw[aKG];unfold aEz
  have hi:i<v.fs.length:=by omega
  refine .pos (dec_lt hi) (.pos (aDo (by simpa using hi)) ?_)
  rw[v.fY,Int.toNat_natCast,fC _ _ _ hi,aZR,uB (by omega)]
  refine .bind (hc _ (List.getElem_mem hi)) ?_
  rintro r ⟨n,rfl⟩
  exact a4C v hN hc j (i+1) _ (by omega)
theorem aYp (v:aB) (hN:v.mB≤big):aRo ((cA T).pc lY [v.row]):=by
 have aBw:∀p∈v.fs,aRo ((cA T).pc lY [p.2.row]):=fun p hp=>by
  have:=aB.lD hp
  have hb:=aB.aKe hp
  exact aYp p.2 (by omega)
 rw[aW4];unfold aPz
 simp only[gY,aB.fY,List.length_map]
 refine .bind (a4C v (by have:=v.aHr;omega) aBw v.fs.length 0 0 (by omega)) ?_
 rintro r ⟨n,rfl⟩
 exact .some ⟨_,rfl⟩
 termination_by SizeOf.sizeOf v
def a8W (k:Int):Bool:=(decide (k≥1)&&decide (k≤4))||k==11
def a3m (k:Int):Bool:=(decide (k≥0)&&decide (k≤5))||k==11
def hO (v:aB):Bool:=(!a8W v.k&&v.n !=0)||(v.k !=5&& !(v.s==[]))||(a3m v.k&&decide ((v.fs.length:Int)>0))
theorem a1u (k:Int):(cA T).pc aCq [[.int k]]=some [[.bool (a3m k)]]:=by
 rw[aTW];unfold aLK a3m
 by_cases h:k≥0
 ·by_cases h2:k≤5
  ·simp[h,h2]
  ·simp[h,h2]
 ·simp[h]
theorem cH.eq {β:Type} {x:Option β} {y:β} (h:cH (fun r=>r=y) x):x=Option.some y:=by
 obtain ⟨r,e,rfl⟩:=h;exact e
theorem a1v (v:aB):(cA T).pc aCy [v.row]=some [[.bool (hO v)]]:=by
 refine cH.eq ?_
 rw[aTX];unfold aLL
 refine .bind (R:=fun r=>r=(0,[.r [.dp v.row],.r [.bool (a8W v.k)]])) ?_ ?_
 ·simp only[aIu,jA]
  unfold a8W
  by_cases h:v.k≥1
  ·by_cases h2:v.k≤4
   ·simp only[h,h2,decide_true,if_true];exact .some rfl
   ·simp only[h,h2,decide_true,decide_false,if_true,Bool.false_eq_true,if_false];exact .some rfl
  ·simp only[h,decide_false,if_true,Bool.false_eq_true,if_false];exact .some rfl
 rintro r rfl
 simp only[cC,aC,xB,wA,fB,if_true,aIu,aLg,aLh,gY,jA,rA,aB.fY,List.length_map]
 unfold hO
 have fin:∀a f:Bool,cH (fun r:List Row=>r=[[C.bool (a ||(a3m v.k&&f))]]) (if a=true then some [[C.bool true]]else ((cA T).pc aCq [[C.int v.k]]).bind fun y12=>if (at_ (aA y12 0) 0).wJ=true then some [[C.bool f]]else some [[C.bool false]]):=by
  intro a f
  cases a
  ·refine .jB (a1u v.k) ?_
   simp only[fA,gA,iA]
   cases a3m v.k
   ·exact .some rfl
   ·exact .some rfl
  ·exact .some rfl
 generalize a8W v.k=a
 generalize (v.n !=0)=b
 generalize (v.k !=5)=c
 generalize (v.s==[])=d
 generalize decide ((v.fs.length:Int)>0)=f at fin⊢
 cases a<;>cases b<;>cases c<;>cases d<;>first |exact .some rfl |exact fin false f
theorem a3n (v:aB):cH (fun r=>∃b:Bool,r=[[.bool b]]) ((cA T).pc aHB [v.row]):=by
 rw[aTY];unfold aLM
 repeat' (first |exact .some ⟨_,rfl⟩|refine .ite (fun _=> ?_) fun _=> ?_)
theorem aT8 (c0:C) (c:Row) (h0:c0.rows.length≤big):cH (fun r=>∃b:Bool,r=[[.bool b]]) ((cA T).pc nI [[c0],[.fn zL [.dp c]]]):=by
 rw[aDj];unfold eK
 have:aRo ((cA T).pc yL [[c0],[.fn zL [.dp c]]]):=by
  rw[aFf];unfold kN
  refine .bind (R:=fun r=>r=(0,[])∨∃n:Int,r=(1,[.r [.int n]])) ?_ ?_
  ·have key:∀(j i:Nat),i+j=c0.rows.length→
    cH (fun r=>r=(0,[])∨∃n:Int,r=(1,[.r [.int n]])) (qF (cA T) c0 (.fn zL [.dp c]) (c0.rows.length:Int) (i:Int)):=by
    intro j
    induction j with
    |zero=>
     intro i h
     rw[nP];unfold rF
     obtain rfl:i=c0.rows.length:=by omega
     exact .ite (fun h=>absurd h aAg) fun _=> .some (.inl rfl)
    |succ j ih=>
     intro i h
     rw[nP];unfold rF
     have hi:i<c0.rows.length:=by omega
     refine .pos (dec_lt hi) (.pos (aDo hi) ?_)
     have e:aMK (cA T) (.fn zL [.dp c]) [aA c0.rows (i:Int).toNat]=some [[.bool (((at_ (aA c0.rows (i:Int).toNat) 0).mE)==((at_ c 0).mE))]]:=by
      show (cA T).pc zL [aA c0.rows (i:Int).toNat,[.dp c]]=_
      rw[aSn];unfold aJg
      simp only[fB,if_true,wA]
     refine .jB e ?_
     rw[uB (show i≤big by omega)]
     exact .ite (fun _=> .some (.inr ⟨_,rfl⟩)) fun _=>ih (i+1) (by omega)
   exact key _ 0 (Nat.zero_add _)
  rintro r (rfl |⟨n,rfl⟩)
  ·exact .some ⟨_,rfl⟩
  ·exact .some ⟨_,rfl⟩
 refine .bind this ?_
 rintro r ⟨n,rfl⟩
 exact .some ⟨_,rfl⟩
theorem a8X (c:C) (i:Nat) (h:i≤c.rows.length):(qR c 0 (i:Int)).rows.length=i:=by
 have h0:(C.rows c).length=c.rows.length:=rfl
 unfold qR
 split
 ·simp[C.rows]at h⊢;omega
 ·simp[C.rows]at h⊢
  split<;>simp_all
theorem a3o (c:C) (h0:c.rows.length≤big):aRo ((cA T).pc aAp [[c]]):=by
 rw[aVx];unfold aNH
 refine .bind (R:=fun r=>r=(0,[])∨∃n:Int,r=(1,[.r [.int n]])) ?_ ?_
 ·have key:∀(j i:Nat),i+j=c.rows.length→cH (fun r=>r=(0,[])∨∃n:Int,r=(1,[.r [.int n]])) (aCu (cA T) c c (c.rows.length:Int) (i:Int)):=by
   intro j
   induction j with
   |zero=>
    intro i h
    rw[aIO];unfold aCv
    obtain rfl:i=c.rows.length:=by omega
    exact .ite (fun h=>absurd h aAg) fun _=> .some (.inl rfl)
   |succ j ih=>
    intro i h
    rw[aIO];unfold aCv
    have hi:i<c.rows.length:=by omega
    refine .pos (dec_lt hi) (.pos (aDo hi) ?_)
    refine .jB (aHm _) ?_
    refine .ite (fun _=> .some (.inr ⟨_,rfl⟩)) fun _=> ?_
    refine .pos ⟨by omega,by omega,by omega⟩ ?_
    refine .bind (aT8 _ _ (by rw[a8X c i (by omega)];omega)) ?_
    rintro r ⟨b,rfl⟩
    rw[uB (show i≤big by omega)]
    exact .ite (fun _=> .some (.inr ⟨_,rfl⟩)) fun _=>ih (i+1) (by omega)
  exact key _ 0 (Nat.zero_add _)
 rintro r (rfl |⟨n,rfl⟩)
 ·exact .some ⟨_,rfl⟩
 ·exact .some ⟨_,rfl⟩
theorem a5W (p:Row) (h0:(at_ p 3).rows.length≤big):aRo ((cA T).pc aCx [p]):=by
 rw[aW5];unfold aPA
 refine .bind (R:=fun r=>r=(0,[])∨∃n:Int,r=(1,[.r [.int n]])) ?_ ?_
 ·have key:∀(j i:Nat),i+j=(at_ p 3).rows.length→cH (fun r=>r=(0,[])∨∃n:Int,r=(1,[.r [.int n]])) (aEC (cA T) (.dp p) (at_ p 3) ((at_ p 3).rows.length:Int) (i:Int)):=by
   intro j
   induction j with
   |zero=>
    intro i h
    rw[aKH];unfold aED
    obtain rfl:i=(at_ p 3).rows.length:=by omega
    exact .ite (fun h=>absurd h aAg) fun _=> .some (.inl rfl)
   |succ j ih=>
    intro i h
    rw[aKH];unfold aED
    have hi:i<(at_ p 3).rows.length:=by omega
    refine .pos (dec_lt hi) ?_
    refine .bind (R:=fun r=>r=(0,[.r [.dp p],.r [at_ p 3],.r [.int ((at_ p 3).rows.length:Int)],.r [.int (i:Int)]])∨∃n:Int,r=(1,[.r [.int n]])) ?_ ?_
    ·refine .pos (aDo hi) ?_
     refine .bind (R:=fun r=>∃(q:Bool) (w:Row),r=(0,[.r [.dp p],.r [.int (i:Int)],.r [at_ p 3],.r [.int ((at_ p 3).rows.length:Int)],.r [.int (i:Int)],.r [.bool q],.r w])) ?_ ?_
     ·simp only[fB,if_true]
      exact .ite (fun _=> .some ⟨_,_,rfl⟩) fun _=> .some ⟨_,_,rfl⟩
     rintro r ⟨q,w,rfl⟩
     simp only[cC,aC,iC,xB,wC,rC,fB,if_true,wA]
     refine .ite (fun _=> .some (.inr ⟨_,rfl⟩)) fun _=> .ite (fun _=> .some (.inl rfl)) fun _=> .ite (fun _=> .some (.inr ⟨_,rfl⟩)) fun _=> ?_
     refine .ite (fun hpos=> ?_) fun _=> ?_
     ·have hp:(0:Int)<(i:Int):=of_decide_eq_true hpos
      have ew:IntKind.wrap .i64 ((i:Int) - 1)=(i:Int) - 1:=oK (by omega) (by unfold big at h0;omega)
      refine .pos (by rw[ew];omega) ?_
      exact .ite (fun _=> .some (.inr ⟨_,rfl⟩)) fun _=> .some (.inl rfl)
     ·exact .ite (fun _=> .some (.inr ⟨_,rfl⟩)) fun _=> .some (.inl rfl)
    rintro r (rfl |⟨n,rfl⟩)
    ·simp only[iC,xB,wC,rC]
     rw[uB (show i≤big by omega)]
     exact ih (i+1) (by omega)
    ·exact .some (.inr ⟨_,rfl⟩)
  exact key _ 0 (Nat.zero_add _)
 rintro r (rfl |⟨n,rfl⟩)
 ·exact .some ⟨_,rfl⟩
 ·exact .some ⟨_,rfl⟩
theorem a1w (v:aB) (h0:v.fs.length≤big):aRo ((cA T).pc aHC [v.row]):=by
 rw[aTZ];unfold aLN
 have h1:(at_ v.row 3).rows.length≤big:=by rw[gY,aB.fY,List.length_map];exact h0
 have kn:∀{f:List Row→Option (List Row)},(∀r,∃n:Int,f r=some [[.int n]])→aRo (((cA T).pc aAp [[at_ v.row 3]]).bind f):=fun hf=> .bind (a3o _ h1) fun r _=>by obtain ⟨n,e⟩:=hf r;rw[e];exact .some ⟨n,rfl⟩
 have kk:∀{f:List Row→Option (List Row)},(∀r,∃n:Int,f r=some [[.int n]])→aRo (((cA T).pc aCx [v.row]).bind f):=fun hf=> .bind (a5W _ h1) fun r _=>by obtain ⟨n,e⟩:=hf r;rw[e];exact .some ⟨n,rfl⟩
 repeat' (first |exact .some ⟨_,rfl⟩|exact kn fun r=>⟨_,rfl⟩|exact kk fun r=>⟨_,rfl⟩|refine .ite (fun _=> ?_) fun _=> ?_)
theorem a4D (v:aB) (hN:v.fs.length≤big) (hc:∀p∈v.fs,aRo ((cA T).pc fS [p.2.row,[.bool false]])):∀(j i:Nat),i+j=v.fs.length→
 cH (fun r=>r=(0,[])∨∃n:Int,r=(1,[.r [.int n]])) (aEF (cA T) v.fc (v.fs.length:Int) (i:Int))
 |0,i,h=>by
  rw[aKI];unfold aEG
  obtain rfl:i=v.fs.length:=by omega
  exact .ite (fun h=>absurd h aAg) fun _=> .some (.inl rfl)
 |j+1,i,h=>by
  rw[aKI];unfold aEG
  have hi:i<v.fs.length:=by omega
  refine .pos (dec_lt hi) (.pos (aDo (by simpa using hi)) ?_)
  rw[v.fY,Int.toNat_natCast,fC _ _ _ hi,aZR,uB (by omega)]
  refine .bind (hc _ (List.getElem_mem hi)) ?_
  rintro r ⟨n,rfl⟩
  exact .ite (fun _=> .some (.inr ⟨_,rfl⟩)) fun _=>a4D v hN hc j (i+1) (by omega)
theorem aYq (v:aB) (b:Bool) (hN:v.mB≤big):cH (fun r=>∃n:Int,r=[[.int n]]∧(n=0→hO v=false)) ((cA T).pc fS [v.row,[.bool b]]):=by
 have aBw:∀p∈v.fs,aRo ((cA T).pc fS [p.2.row,[.bool false]]):=fun p hp=>by
  have:=aB.lD hp
  have hb:=aB.aKe hp
  exact (aYq p.2 false (by omega)).mono fun r ⟨n,e,_⟩=>⟨n,e⟩
 have hlen:v.fs.length≤big:=by have:=v.aHr;omega
 rw[aW6];unfold aPB
 refine .bind (R:=fun r=>(r=(0,[.r [.dp v.row]])∧hO v=false)∨∃n:Int,n≠0∧r=(1,[.r [.int n]])) ?_ ?_
 ·refine .bind (R:=fun r=>∃q:Bool,r=(0,[.r [.dp v.row],.r [.bool q]])∧(q=false→hO v=false)) ?_ ?_
  ·have fin:cH (fun r=>∃q:Bool,r=(0,[.r [.dp v.row],.r [.bool q]])∧(q=false→hO v=false)) (((cA T).pc aCy [v.row]).bind fun y9=>some ((0:Nat),([.r [.dp v.row],.r [.bool (at_ (aA y9 0) 0).wJ]]:List PV))):=
    .jB (a1v v) (.some ⟨hO v,rfl,fun h=>h⟩)
   repeat' (first |exact fin |exact .some ⟨true,rfl,fun h=>by cases h⟩|refine .ite (fun _=> ?_) fun _=> ?_)
  rintro r ⟨q,rfl,hq⟩
  simp only[cC,aC,xB,fB,if_true,wA]
  refine .ite (fun _=> .some (.inr ⟨3,by decide,rfl⟩)) fun h=> ?_
  refine .bind (a3n v) ?_
  rintro r ⟨b',rfl⟩
  exact .ite (fun _=> .some (.inr ⟨11,by decide,rfl⟩)) fun _=> .some (.inl ⟨rfl,hq (by simpa using h)⟩)
 rintro r (⟨rfl,hu⟩|⟨n,hn,rfl⟩)
 ·simp only[xB,fB,if_true,wA]
  refine .bind (a1w v hlen) ?_
  rintro r ⟨n,rfl⟩
  refine .ite (fun _=> .some ⟨n,rfl,fun _=>hu⟩) fun _=> ?_
  simp only[gY,aB.fY,List.length_map]
  refine .bind (a4D v hlen aBw v.fs.length 0 (by omega)) ?_
  rintro r (rfl |⟨n,rfl⟩)
  ·exact .some ⟨_,rfl,fun _=>hu⟩
  ·exact .some ⟨_,rfl,fun _=>hu⟩
 ·exact .some ⟨n,rfl,fun h=>absurd h hn⟩
 termination_by SizeOf.sizeOf v
theorem a3p (v:aB) (hN:v.mB≤big):∃n:Int,(cA T).pc tJ [v.row]=some [[.int n]]∧(n=0→hO v=false):=by
 have:cH (fun r=>∃n:Int,r=[[.int n]]∧(n=0→hO v=false)) ((cA T).pc tJ [v.row]):=by
  rw[aVy];unfold aNI
  refine .bind (aYo v hN) ?_
  rintro r ⟨n,rfl⟩
  have fin:∀q:Bool,cH (fun r=>∃n:Int,r=[[.int n]]∧(n=0→hO v=false)) (if q=true then some [[C.int 2]]else ((cA T).pc fS [v.row,[.bool true]]).bind fun y4=>some [[C.int (at_ (aA y4 0) 0).tA]]):=by
   intro q
   refine .ite (fun _=> .some ⟨2,rfl,fun h=>by cases h⟩) fun _=> .bind (aYq v true hN) ?_
   rintro r ⟨n,rfl,h⟩
   exact .some ⟨n,rfl,h⟩
  refine .ite (fun _=> .some ⟨2,rfl,fun h=>by cases h⟩) fun _=> .bind (aYp v hN) ?_
  rintro r ⟨n,rfl⟩
  exact fin _
 obtain ⟨r,h,n,rfl,h2⟩:=this
 exact ⟨n,h,h2⟩
end Go.Ev.jJ
