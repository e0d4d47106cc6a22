/-
  A part of the proof: what the functions of the program compute.
-/
import Derived.Test.YtgiibefjiloafaaGreatDoorZEq
import Derived.Test.YtgiibefjiloafaaGreatDoorEvDa
set_option linter.all false
set_option maxRecDepth 100000
namespace Go.Ev.Zzt
theorem wrapS {n:Int} (h0:0≤n) (h1:n≤1000000000000):Go.IntKind.wrap .i64 n=n:=wrap_i64 ⟨by omega,by omega⟩
theorem wrapU8 {n:Int} (h0:0≤n) (h1:n<256):Go.IntKind.wrap .u8 n=n:=by
 rw[IntKind.wrap_u8];omega
theorem tdiv64 {i:Int} (h0:0≤i) (h1:i<256):0≤i.tdiv 64∧i.tdiv 64<4:=by
 rw[Int.tdiv_eq_ediv_of_nonneg h0];omega
theorem tmod64 {i:Int} (h0:0≤i):¬i.tmod 64<0:=by
 have:=Int.tmod_nonneg 64 h0;omega
theorem kbeq_int (k:IntKind):ksBeq [.int k] [.int k]=true:=by simp[ksBeq,K.beq]
theorem take1 {ks:List K} {off:Nat} {k:K} (h:ks[off]? =some k):(ks.drop off).take 1=[k]:=by
 have hl:off<ks.length:=(List.getElem?_eq_some_iff.1 h).1
 rw[List.drop_eq_getElem_cons hl]
 have:ks[off]=k:=by rw[List.getElem?_eq_getElem hl]at h;simpa using h
 simp[this]
theorem part1 {A:Type} {k:IntKind} {ks:List K} {off:Nat} {r:Row} {f:Row→Option A} (h:ks[off]? =some (.int k)):
 part (.one (.int k)) (.agg ks) off r f=f (nrm (.one (.int k)) (sub r off 1)):=by
 unfold part
 have e:(Nat.beq off 0&&L.beq (.one (.int k)) (.agg ks))=false:=by simp[L.beq]
 rw[e]
 simp only[L.ks,L.n,List.length_singleton,take1 h,kbeq_int,check]
theorem turn1 {A:Type} {k:IntKind} {ks:List K} {off:Nat} {r row:Row} {f:Row→Option A} (h:ks[off]? =some (.int k)):
 turn (.one (.int k)) (.agg ks) off r row f=f (put r off 1 row 0 ks.length):=by
 unfold turn
 have e:(Nat.beq off 0&&L.beq (.one (.int k)) (.agg ks))=false:=by simp[L.beq]
 rw[e]
 simp only[L.ks,L.n,List.length_singleton,take1 h,kbeq_int,check]
theorem four {i:Int} (h0:0≤i) (h1:i<4):i=0∨i=1∨i=2∨i=3:=by omega
theorem set_has (c:C) (hc:c.isDp=true) {i:Int} (h0:0≤i) (h1:i<256):∃b,(lim T).pc n_pattern_set_has [[c],[.int i]]=some [[.bool b]]:=by
 rw[pattern_set_has_pc]
 unfold pattern_set_has
 obtain ⟨a,b⟩:=tdiv64 h0 h1
 rw[wrapS a (by omega)]
 simp only[hc,a,b,and_self,if_true,if_neg (tmod64 h0)]
 exact ⟨_,rfl⟩
theorem class_has (c:C) (hc:c.isDp=true) {i:Int} (h0:0≤i) (h1:i<256):∃b,(lim T).pc n_pattern_class_has [[c],[.int i]]=some [[.bool b]]:=by
 rw[pattern_class_has_pc]
 unfold pattern_class_has
 obtain ⟨a,b⟩:=tdiv64 h0 h1
 rw[wrapU8 a (by omega)]
 simp only[hc,a,b,and_self,if_true,if_neg (tmod64 h0)]
 exact ⟨_,rfl⟩
theorem set_add0 {i:Int} (h0:0≤i) (h1:i<256) (r:Row):∃r',(lim T).ic pattern_set_add_i0_n [.r [.int i], .r r]=some [.r r']:=by
 rw[pattern_set_add_i0_ic]
 unfold pattern_set_add_i0
 obtain ⟨a,b⟩:=tdiv64 h0 h1
 rw[wrapS a (by omega)]
 simp only[a,b,and_self,if_true,if_neg (tmod64 h0)]
 rcases four a b with h |h |h |h<;>rw[h]<;>rw[part1 (by rfl),turn1 (by rfl)]<;>exact ⟨_,rfl⟩
theorem set_add12 {i:Int} (h0:0≤i) (h1:i<256) (r:Row):∃r',(lim T).ic pattern_set_add_i12_n [.r [.int i], .r r]=some [.r r']:=by
 rw[pattern_set_add_i12_ic]
 unfold pattern_set_add_i12
 obtain ⟨a,b⟩:=tdiv64 h0 h1
 rw[wrapS a (by omega)]
 simp only[a,b,and_self,if_true,if_neg (tmod64 h0)]
 rcases four a b with h |h |h |h<;>rw[h]<;>rw[part1 (by rfl),turn1 (by rfl)]<;>exact ⟨_,rfl⟩
theorem set_add13 {i:Int} (h0:0≤i) (h1:i<256) (r:Row):∃r',(lim T).ic pattern_set_add_i13_n [.r [.int i], .r r]=some [.r r']:=by
 rw[pattern_set_add_i13_ic]
 unfold pattern_set_add_i13
 obtain ⟨a,b⟩:=tdiv64 h0 h1
 rw[wrapS a (by omega)]
 simp only[a,b,and_self,if_true,if_neg (tmod64 h0)]
 rcases four a b with h |h |h |h<;>rw[h]<;>rw[part1 (by rfl),turn1 (by rfl)]<;>exact ⟨_,rfl⟩
theorem set_add18 {p:Int} {i:Int} (hp0:0≤p) (hp1:p≤1020) (h0:0≤i) (h1:i<256) (r:Row):∃r',(lim T).ic pattern_set_add_i18_n [.r [.int p], .r [.int i], .r r]=some [.r r']:=by
 rw[pattern_set_add_i18_ic]
 unfold pattern_set_add_i18
 obtain ⟨a,b⟩:=tdiv64 h0 h1
 rw[wrapS a (by omega)]
 simp only[a,b,and_self,if_true,if_neg (tmod64 h0)]
 have hk:(List.replicate 1024 (K.int .u64))[p.toNat+(i.tdiv 64).toNat*1]? =some (.int .u64):=by
  rw[List.getElem?_replicate,if_pos (by omega)]
 rw[part1 hk,turn1 hk]
 exact ⟨_,rfl⟩
theorem class_add {i:Int} (h0:0≤i) (h1:i<256) (r:Row):∃r',(lim T).ic pattern_class_add_i10_n [.r [.int i], .r r]=some [.r r']:=by
 rw[pattern_class_add_i10_ic]
 unfold pattern_class_add_i10
 obtain ⟨a,b⟩:=tdiv64 h0 h1
 rw[wrapU8 a (by omega)]
 simp only[a,b,and_self,if_true,if_neg (tmod64 h0)]
 rcases four a b with h |h |h |h<;>rw[h]<;>rw[part1 (by rfl),turn1 (by rfl)]<;>exact ⟨_,rfl⟩
theorem k4 {i:Int} (h0:0≤i) (h4:i<4):([.int .u64, .int .u64, .int .u64, .int .u64]:List K)[0+(i.toNat*1)]? =some (.int .u64):=by
 rcases four h0 h4 with rfl |rfl |rfl |rfl<;>rfl
theorem k91 {i:Int} (h0:0≤i) (h4:i<4):([.bool, .int .u64, .int .u64, .int .u64, .int .u64, .int .u64, .int .u64, .int .u64, .int .u64]:List K)[1+(i.toNat*1)]? =some (.int .u64):=by
 rcases four h0 h4 with rfl |rfl |rfl |rfl<;>rfl
theorem k95 {i:Int} (h0:0≤i) (h4:i<4):([.bool, .int .u64, .int .u64, .int .u64, .int .u64, .int .u64, .int .u64, .int .u64, .int .u64]:List K)[5+(i.toNat*1)]? =some (.int .u64):=by
 rcases four h0 h4 with rfl |rfl |rfl |rfl<;>rfl
theorem turn_l:∀(j:Nat) (i:Int) (r:Row),0≤i→i+j=4→∃r',pattern_class_turn_i7_l0 (lim T) i r=some (0,[.r r'])
 |0,i,r,h0,h=>by
  rw[pattern_class_turn_i7_l0_eq];unfold pattern_class_turn_i7_b0
  obtain rfl:i=4:=by omega
  exact ⟨_,rfl⟩
 |j+1,i,r,h0,h=>by
  rw[pattern_class_turn_i7_l0_eq];unfold pattern_class_turn_i7_b0
  have h4:i<4:=by omega
  simp only[h0,h4,decide_true,and_self,if_true]
  rw[part1 (k4 h0 h4),turn1 (k4 h0 h4),wrapS (by omega) (by omega)]
  exact turn_l j (i+1) _ (by omega) (by omega)
theorem class_turn (r:Row):∃r',(lim T).ic pattern_class_turn_i7_n [.r r]=some [.r r']:=by
 rw[pattern_class_turn_i7_ic];unfold pattern_class_turn_i7
 obtain ⟨r',h⟩:=turn_l 4 0 r (by omega) (by omega)
 rw[h];exact ⟨_,rfl⟩
theorem join16_l (c:Row):∀(j:Nat) (i:Int) (r:Row),0≤i→i+j=4→∃r',pattern_set_join_i16_l0 (lim T) (.dp c) i r=some (0,[.r r'])
 |0,i,r,h0,h=>by
  rw[pattern_set_join_i16_l0_eq];unfold pattern_set_join_i16_b0
  obtain rfl:i=4:=by omega
  exact ⟨_,rfl⟩
 |j+1,i,r,h0,h=>by
  rw[pattern_set_join_i16_l0_eq];unfold pattern_set_join_i16_b0
  have h4:i<4:=by omega
  simp only[h0,h4,decide_true,isDp_dp,and_self,if_true]
  rw[part1 (k91 h0 h4),turn1 (k91 h0 h4),wrapS (by omega) (by omega)]
  exact join16_l c j (i+1) _ (by omega) (by omega)
theorem set_join16 (c r:Row):∃r',(lim T).ic pattern_set_join_i16_n [.r c, .r r]=some [.r r']:=by
 rw[pattern_set_join_i16_ic];unfold pattern_set_join_i16
 obtain ⟨r',h⟩:=join16_l c 4 0 r (by omega) (by omega)
 rw[h];exact ⟨_,rfl⟩
theorem join17_l (c:Row):∀(j:Nat) (i:Int) (r:Row),0≤i→i+j=4→∃r',pattern_set_join_i17_l0 (lim T) (.dp c) i r=some (0,[.r r'])
 |0,i,r,h0,h=>by
  rw[pattern_set_join_i17_l0_eq];unfold pattern_set_join_i17_b0
  obtain rfl:i=4:=by omega
  exact ⟨_,rfl⟩
 |j+1,i,r,h0,h=>by
  rw[pattern_set_join_i17_l0_eq];unfold pattern_set_join_i17_b0
  have h4:i<4:=by omega
  simp only[h0,h4,decide_true,isDp_dp,and_self,if_true]
  rw[part1 (k95 h0 h4),turn1 (k95 h0 h4),wrapS (by omega) (by omega)]
  exact join17_l c j (i+1) _ (by omega) (by omega)
theorem set_join17 (c r:Row):∃r',(lim T).ic pattern_set_join_i17_n [.r c, .r r]=some [.r r']:=by
 rw[pattern_set_join_i17_ic];unfold pattern_set_join_i17
 obtain ⟨r',h⟩:=join17_l c 4 0 r (by omega) (by omega)
 rw[h];exact ⟨_,rfl⟩
theorem join19_l (c:Row):∀(j:Nat) (i:Int) (r:Row),0≤i→i+j=4→∃r',pattern_set_join_i19_l0 (lim T) (.dp c) i r=some (0,[.r r'])
 |0,i,r,h0,h=>by
  rw[pattern_set_join_i19_l0_eq];unfold pattern_set_join_i19_b0
  obtain rfl:i=4:=by omega
  exact ⟨_,rfl⟩
 |j+1,i,r,h0,h=>by
  rw[pattern_set_join_i19_l0_eq];unfold pattern_set_join_i19_b0
  have h4:i<4:=by omega
  simp only[h0,h4,decide_true,isDp_dp,and_self,if_true]
  rw[part1 (k4 h0 h4),turn1 (k4 h0 h4),wrapS (by omega) (by omega)]
  exact join19_l c j (i+1) _ (by omega) (by omega)
theorem set_join19 (c r:Row):∃r',(lim T).ic pattern_set_join_i19_n [.r c, .r r]=some [.r r']:=by
 rw[pattern_set_join_i19_ic];unfold pattern_set_join_i19
 obtain ⟨r',h⟩:=join19_l c 4 0 r (by omega) (by omega)
 rw[h];exact ⟨_,rfl⟩
abbrev st (s:List UInt8) (a:Int) (b:Bool) (q0 q1 q2 q3 q4 q5 q6 q7:Int) (f:Bool) (c o:C):List PV:=
 [.r [.str s], .r [.int a], .r [.bool b], .r [.int q0], .r [.int q1], .r [.int q2], .r [.int q3], .r [.int q4], .r [.int q5], .r [.int q6], .r [.int q7], .r [.bool f], .r [c], .r [o]]
section
variable (s:List UInt8) (b:Bool) (q0 q1 q2 q3 q4 q5 q6 q7:Int)
theorem join15_l (c:Row) (x:Int) (a:Int) (f:Bool) (cl:C) (hx:0≤x):∀(j:Nat) (i:Int) (o:C),0≤i→i+j=4→x.toNat<o.rows.length→∃o',o'.rows.length=o.rows.length∧pattern_set_join_i15_l0 (lim T) [.int x, .int 0] (.dp c) i o s a b q0 q1 q2 q3 q4 q5 q6 q7 f cl=some (0, .r [o']::(st s a b q0 q1 q2 q3 q4 q5 q6 q7 f cl o').take 13)
 |0,i,o,h0,h,hl=>by
  rw[pattern_set_join_i15_l0_eq];unfold pattern_set_join_i15_b0
  obtain rfl:i=4:=by omega
  exact ⟨o,rfl,rfl⟩
 |j+1,i,o,h0,h,hl=>by
  rw[pattern_set_join_i15_l0_eq];unfold pattern_set_join_i15_b0
  have h4:i<4:=by omega
  have e0:((at_ ([.int x, .int 0]:Row) 0).toI).toNat=x.toNat:=rfl
  have e1:((at_ ([.int x, .int 0]:Row) 1).toI).toNat=0:=rfl
  simp only[h0,h4,decide_true,isDp_dp,and_self,if_true,e0,e1,hl]
  rw[part1 (k4 h0 h4),turn1 (k4 h0 h4),wrapS (by omega) (by omega)]
  have ex:((x.toNat:Nat):Int)=x:=by omega
  obtain ⟨o',g1,g2⟩:=join15_l c x a f cl hx j (i+1) (.sl (o.rows.set x.toNat (put (rowsAt o.rows x.toNat) (0+i.toNat*1) 1 [.int (bitsOf .or .u64 ((at_ (nrm (.one (.int .u64)) (sub (rowsAt o.rows x.toNat) (0+i.toNat*1) 1)) 0).toI) ((at_ c (i.toNat*1)).toI))] 0 4))) (by omega) (by omega) (by simpa[C.rows]using hl)
  refine ⟨o',by rw[g1];simp[C.rows], ?_⟩
  rw[ex]
  exact g2
theorem set_join15 (c:Row) (x:Int) (a:Int) (f:Bool) (cl o:C) (hx:0≤x) (hl:x.toNat<o.rows.length):∃o',o'.rows.length=o.rows.length∧
 (lim T).ic pattern_set_join_i15_n [.r [.int x, .int 0], .r c, .r [o], .r [.str s], .r [.int a], .r [.bool b], .r [.int q0], .r [.int q1], .r [.int q2], .r [.int q3], .r [.int q4], .r [.int q5], .r [.int q6], .r [.int q7], .r [.bool f], .r [cl]]=some (.r [o']::(st s a b q0 q1 q2 q3 q4 q5 q6 q7 f cl o').take 13):=by
 obtain ⟨o',g1,g2⟩:=join15_l s b q0 q1 q2 q3 q4 q5 q6 q7 c x a f cl hx 4 0 o (by omega) (by omega) hl
 refine ⟨o',g1, ?_⟩
 rw[pattern_set_join_i15_ic];unfold pattern_set_join_i15
 have ex:((x.toNat:Nat):Int)=x:=by omega
 have e0:((at_ ([.int x, .int 0]:Row) 0).toI).toNat=x.toNat:=rfl
 have e1:((at_ ([.int x, .int 0]:Row) 1).toI).toNat=0:=rfl
 rw[e0,e1,ex]
 have e2:((0:Nat):Int)=0:=rfl
 rw[e2,g2]
 rfl
end
end Go.Ev.Zzt
namespace Go.Ev.Zzt
def Inv (c o:C):Prop:=c.rows.length=o.rows.length∧1≤c.rows.length∧c.rows.length≤256
def Tot {β:Type} (Q:β→Prop) (x:Option β):Prop:=∃r,x=some r∧Q r
theorem Tot.some {β:Type} {Q:β→Prop} {r:β} (h:Q r):Tot Q (some r):=⟨r,rfl,h⟩
theorem Tot.bind {α β:Type} {R:α→Prop} {Q:β→Prop} {x:Option α} {f:α→Option β} (h:Tot R x) (k:∀r,R r→Tot Q (f r)):Tot Q (x.bind f):=by
 obtain ⟨r,rfl,hr⟩:=h
 exact k r hr
theorem Tot.eqbind {α β:Type} {Q:β→Prop} {x:Option α} {y:α} {f:α→Option β} (h:x=Option.some y) (k:Tot Q (f y)):Tot Q (x.bind f):=by rw[h];exact k
theorem Tot.ite {β:Type} {c:Prop} [Decidable c] {Q:β→Prop} {x y:Option β} (h:c→Tot Q x) (k:¬c→Tot Q y):Tot Q (if c then x else y):=by
 split
 ·exact h ‹_›
 ·exact k ‹_›
theorem Tot.pos {β:Type} {c:Prop} [Decidable c] {Q:β→Prop} {x y:Option β} (h:c) (k:Tot Q x):Tot Q (if c then x else y):=by rw[if_pos h];exact k
theorem Tot.mono {β:Type} {R Q:β→Prop} {x:Option β} (h:Tot R x) (k:∀r,R r→Q r):Tot Q x:=by
 obtain ⟨r,h1,h2⟩:=h;exact ⟨r,h1,k r h2⟩
section
variable (s:List UInt8) (b:Bool) (q0 q1 q2 q3 q4 q5 q6 q7:Int)
theorem r_more (a:Int) (f:Bool) (c o:C):(lim T).ic pattern_reader_more_i3_n (st s a b q0 q1 q2 q3 q4 q5 q6 q7 f c o)=some (.r [.bool (!f&&decide (a<(s.length:Int)))]::st s a b q0 q1 q2 q3 q4 q5 q6 q7 f c o):=by
 rw[pattern_reader_more_i3_ic];unfold pattern_reader_more_i3
 cases f<;>simp
theorem r_peek (a:Int) (f:Bool) (c o:C) (h0:0≤a):∃x:Int,0≤x∧x<256∧(¬a<(s.length:Int)→x=0)∧
 (lim T).ic pattern_reader_peek_i4_n (st s a b q0 q1 q2 q3 q4 q5 q6 q7 f c o)=some (.r [.int x]::st s a b q0 q1 q2 q3 q4 q5 q6 q7 f c o):=by
 rw[pattern_reader_peek_i4_ic];unfold pattern_reader_peek_i4
 by_cases h:a<(s.length:Int)
 ·refine ⟨((s.getD a.toNat 0).toNat:Int),by omega,by have:=(s.getD a.toNat 0).toNat_lt;omega,fun h'=>absurd h h', ?_⟩
  have h2:¬a≥(s.length:Int):=by omega
  simp[h0,h,h2]
 ·refine ⟨0,by omega,by omega,fun _=>rfl, ?_⟩
  have h2:a≥(s.length:Int):=by omega
  simp[h2]
theorem r_position (k:Row) (a:Int) (f:Bool) (c o:C) (hI:Inv c o):∃row f' c' o',Inv c' o'∧
 (lim T).ic pattern_reader_position_i11_n (.r k::st s a b q0 q1 q2 q3 q4 q5 q6 q7 f c o)=some (.r row::st s a b q0 q1 q2 q3 q4 q5 q6 q7 f' c' o'):=by
 obtain ⟨i1,i2,i3⟩:=hI
 rw[pattern_reader_position_i11_ic];unfold pattern_reader_position_i11
 by_cases h:(c.rows.length:Int)>255
 ·refine ⟨[.bool false, .int 0, .int 0, .int 0, .int 0, .int 0, .int 0, .int 0, .int 0],true,c,o,⟨i1,i2,i3⟩, ?_⟩
  simp[h]
 ·have g1:(c.rows.length+([k]:List Row).length)*32≤140737488355328:=by simp;omega
  have g2:(o.rows.length+([[.int 0, .int 0, .int 0, .int 0]]:List Row).length)*32≤140737488355328:=by simp;omega
  obtain ⟨r1,e1⟩:=set_add12 (i:=(c.rows.length:Int)) (by omega) (by omega) [.bool false, .int 0, .int 0, .int 0, .int 0, .int 0, .int 0, .int 0, .int 0]
  obtain ⟨r2,e2⟩:=set_add13 (i:=(c.rows.length:Int)) (by omega) (by omega) r1
  refine ⟨r2,f,appC c [k],appC o [[.int 0, .int 0, .int 0, .int 0]],⟨by simp[i1],by simp,by simp;omega⟩, ?_⟩
  simp only[h,decide_false,Bool.false_eq_true,if_false,if_pos g1,if_pos g2,e1,Option.bind_some,gR_z,e2]
theorem single_end (a a1:Int) (c o:C) (x:Int) (q:Bool) (h0:0≤a) (h2:a<(s.length:Int)) (hs:s.length≤200) (x0:0≤x) (x1:x<256) (ha:a1=a+1):
 Tot (fun r=>∃(x a':Int) (f':Bool),0≤x∧x<256∧a<a'∧a'≤(s.length:Int)∧r= .r [.int x]::st s a' b q0 q1 q2 q3 q4 q5 q6 q7 f' c o)
  (if (x==92)=true then
        if (decide (a1≥(s.length:Int)))=true then some (.r [.int 0]::st s a1 b q0 q1 q2 q3 q4 q5 q6 q7 true c o)
        else if (0:Int)≤a1∧a1<(s.length:Int)then some (.r [.int ((s.getD a1.toNat 0).toNat:Int)]::st s (IntKind.wrap .i64 (a1+1)) b q0 q1 q2 q3 q4 q5 q6 q7 q c o)else none
      else some (.r [.int x]::st s a1 b q0 q1 q2 q3 q4 q5 q6 q7 q c o)):=by
 refine .ite (fun _=> .ite (fun e=> .some ⟨0,a1,true,by omega,by omega,by omega,by omega,rfl⟩) fun e=> ?_) fun _=> .some ⟨x,a1,q,x0,x1,by omega,by omega,rfl⟩
 have e':a1<(s.length:Int):=by simpa using e
 rw[wrapS (show 0≤a1+1 by omega) (by omega),if_pos ⟨by omega,e'⟩]
 exact .some ⟨_,a1+1,q,by omega,by have:=(s.getD a1.toNat 0).toNat_lt;omega,by omega,by omega,rfl⟩
theorem r_single (a:Int) (f:Bool) (c o:C) (h0:0≤a) (h1:a≤(s.length:Int)) (hs:s.length≤200):∃(x a':Int) (f':Bool),0≤x∧x<256∧a≤a'∧a'≤(s.length:Int)∧(a<(s.length:Int)→a<a')∧
 (lim T).ic pattern_reader_single_i9_n (st s a b q0 q1 q2 q3 q4 q5 q6 q7 f c o)=some (.r [.int x]::st s a' b q0 q1 q2 q3 q4 q5 q6 q7 f' c o):=by
 rw[pattern_reader_single_i9_ic];unfold pattern_reader_single_i9
 by_cases h:a<(s.length:Int)
 ·have h2:¬a≥(s.length:Int):=by omega
  rw[wrapS (show 0≤a+1 by omega) (by omega)]
  generalize hx:((s.getD a.toNat 0).toNat:Int)=x
  have hxb:0≤x∧x<256:=by rw[←hx];exact ⟨by omega,by have:=(s.getD a.toNat 0).toNat_lt;omega⟩
  have key:∀q:Bool,Tot (fun r=>r=(0, .r [.int x]:: .r [.bool q]::st s (a+1) b q0 q1 q2 q3 q4 q5 q6 q7 f c o)) (some ((0:Nat),(.r [.int x]:: .r [.bool q]::st s (a+1) b q0 q1 q2 q3 q4 q5 q6 q7 f c o:List PV))):=fun q=> .some rfl
  have main:Tot (fun r=>∃(x a':Int) (f':Bool),0≤x∧x<256∧a<a'∧a'≤(s.length:Int)∧r= .r [.int x]::st s a' b q0 q1 q2 q3 q4 q5 q6 q7 f' c o) (pattern_reader_single_i9 (lim T) s a b q0 q1 q2 q3 q4 q5 q6 q7 f c o):=by
   unfold pattern_reader_single_i9
   rw[wrapS (show 0≤a+1 by omega) (by omega),hx]
   simp only[h0,h,h2,decide_false,Bool.false_eq_true,if_false,and_self,if_true]
   refine .bind (R:=fun r=>∃q:Bool,r=(0, .r [.int x]:: .r [.bool q]::st s (a+1) b q0 q1 q2 q3 q4 q5 q6 q7 f c o)) ?_ ?_
   ·exact .ite (fun _=> .some ⟨_,rfl⟩) fun _=> .ite (fun _=> .some ⟨_,rfl⟩) fun _=> .some ⟨_,rfl⟩
   rintro x5 ⟨q,rfl⟩
   simp only[gR_s,gC_s,gI_s,gB_s,gS_s,gM_s,gR_z,gC_z,gI_z,gB_z,gS_z,gM_z,hd_r,at_zero,toB_bool,toS_str,toI_int]
   refine .bind (R:=fun r=>∃f':Bool,r=(0, .r [.int x]::st s (a+1) b q0 q1 q2 q3 q4 q5 q6 q7 f' c o)) ?_ ?_
   ·exact .ite (fun _=> .some ⟨_,rfl⟩) fun _=> .some ⟨_,rfl⟩
   rintro x6 ⟨f',rfl⟩
   simp only[gR_s,gC_s,gI_s,gB_s,gS_s,gM_s,gR_z,gC_z,gI_z,gB_z,gS_z,gM_z,hd_r,at_zero,toB_bool,toS_str,toI_int]
   exact single_end s b q0 q1 q2 q3 q4 q5 q6 q7 a (a+1) c o x f' h0 h hs hxb.1 hxb.2 rfl
  unfold pattern_reader_single_i9 at main
  rw[wrapS (show 0≤a+1 by omega) (by omega),hx]at main
  obtain ⟨r,e,x',a',f',k1,k2,k3,k4,rfl⟩:=main
  exact ⟨x',a',f',k1,k2,by omega,k4,fun _=>k3,e⟩
 ·have h2:a≥(s.length:Int):=by omega
  exact ⟨0,a,true,by omega,by omega,by omega,by omega,fun h'=>absurd h' h,by simp[h2]⟩
end
end Go.Ev.Zzt
namespace Go.Ev.Zzt
section
variable (s:List UInt8) (b:Bool) (q0 q1 q2 q3 q4 q5 q6 q7:Int)
theorem bytes_l1 (v0:Bool) (hi:Int) (a:Int) (f:Bool) (c o:C) (v17:Row) (h0:0≤hi) (h1:hi<256):∀(j:Nat) (i:Int) (k:Row),0≤i→i≤256→256≤i+j→
 Tot (fun r=>∃k',r=(0, .r [.bool v0]::(st s a b q0 q1 q2 q3 q4 q5 q6 q7 f c o++[.r v17, .r k']))) (pattern_reader_bytes_i8_l1 (lim T) v0 hi i s a b q0 q1 q2 q3 q4 q5 q6 q7 f c o v17 k)
 |0,i,k,g0,g1,g2=>by
  rw[pattern_reader_bytes_i8_l1_eq];unfold pattern_reader_bytes_i8_b1
  rw[wrapS h0 (by omega)]
  have:¬i≤hi:=by omega
  simp only[this,decide_false,Bool.false_eq_true,if_false]
  exact .some ⟨_,rfl⟩
 |j+1,i,k,g0,g1,g2=>by
  rw[pattern_reader_bytes_i8_l1_eq];unfold pattern_reader_bytes_i8_b1
  rw[wrapS h0 (by omega)]
  have key:∀q:Bool,(q=true→i≤hi)→Tot (fun r=>∃k',r=(0, .r [.bool v0]::(st s a b q0 q1 q2 q3 q4 q5 q6 q7 f c o++[.r v17, .r k'])))
   (if q=true then ((lim T).ic pattern_class_add_i10_n [.r [.int (IntKind.wrap .u8 i)], .r k]).bind fun y26=>
     pattern_reader_bytes_i8_l1 (lim T) v0 hi (IntKind.wrap .i64 (i+1)) s a b q0 q1 q2 q3 q4 q5 q6 q7 f c o v17 (gR 0 y26)
   else some (0, .r [.bool v0]::(st s a b q0 q1 q2 q3 q4 q5 q6 q7 f c o++[.r v17, .r k]))):=by
   intro q hq
   refine .ite (fun e=> ?_) (fun _=> .some ⟨_,rfl⟩)
   have:=hq e
   rw[wrapU8 g0 (by omega),wrapS (show 0≤i+1 by omega) (by omega)]
   obtain ⟨k',e'⟩:=class_add g0 (show i<256 by omega) k
   refine .eqbind e' ?_
   exact bytes_l1 v0 hi a f c o v17 h0 h1 j (i+1) _ (by omega) (by omega) (by omega)
  refine .ite (fun e=> ?_) (fun e=> ?_)
  ·exact key (!f) (fun _=>by simpa using e)
  ·exact key false (fun h=>by cases h)
theorem bytes_l0 (hs:s.length≤200) (t:Bool) (c o:C) (v15:Row):∀(j:Nat) (a:Int) (f:Bool) (k:Row),0≤a→a≤(s.length:Int)→(s.length:Int)<a+j→
 Tot (fun r=>∃a' f' k',a≤a'∧a'≤(s.length:Int)∧r=(0, .r [.bool t]::(st s a' b q0 q1 q2 q3 q4 q5 q6 q7 f' c o++[.r v15, .r k']))) (pattern_reader_bytes_i8_l0 (lim T) t s a b q0 q1 q2 q3 q4 q5 q6 q7 f c o v15 k)
 |0,a,f,k,g0,g1,g2=>by omega
 |j+1,a,f,k,g0,g1,g2=>by
  rw[pattern_reader_bytes_i8_l0_eq];unfold pattern_reader_bytes_i8_b0
  refine .bind (R:=fun x=>∃q:Bool,(q=true→a<(s.length:Int))∧x=(0, .r [.bool t]:: .r [.bool q]::(st s a b q0 q1 q2 q3 q4 q5 q6 q7 f c o++[.r v15, .r k]))) ?_ ?_
  ·refine .eqbind (r_more s b q0 q1 q2 q3 q4 q5 q6 q7 a f c o) ?_
   simp only[gR_s,gC_s,gI_s,gB_s,gS_s,gM_s,gR_z,gC_z,gI_z,gB_z,gS_z,gM_z,hd_r,at_zero,toB_bool,toS_str,toI_int]
   refine .ite (fun e=> ?_) (fun _=> .some ⟨false,fun h=>(by cases h),rfl⟩)
   obtain ⟨x,_,_,_,e2⟩:=r_peek s b q0 q1 q2 q3 q4 q5 q6 q7 a f c o g0
   refine .eqbind e2 ?_
   simp only[gR_s,gC_s,gI_s,gB_s,gS_s,gM_s,gR_z,gC_z,gI_z,gB_z,gS_z,gM_z,hd_r,at_zero,toB_bool,toS_str,toI_int]
   refine .some ⟨_,fun _=> ?_,rfl⟩
   simp at e;exact e.2
  ·rintro x11 ⟨q,hq,rfl⟩
   simp only[List.cons_append,List.nil_append,gR_s,gC_s,gI_s,gB_s,gS_s,gM_s,gR_z,gC_z,gI_z,gB_z,gS_z,gM_z,hd_r,at_zero,toB_bool,toS_str,toI_int]
   refine .ite (fun e=> ?_) (fun _=> .some ⟨a,f,k,Int.le_refl _,g1,rfl⟩)
   have hlt:=hq e
   obtain ⟨x,a1,f1,x0,x1,x2,x3,x4,e3⟩:=r_single s b q0 q1 q2 q3 q4 q5 q6 q7 a f c o g0 g1 hs
   refine .eqbind e3 ?_
   have ha1:=x4 hlt
   simp only[gR_s,gC_s,gI_s,gB_s,gS_s,gM_s,gR_z,gC_z,gI_z,gB_z,gS_z,gM_z,hd_r,at_zero,toB_bool,toS_str,toI_int]
   refine .bind (R:=fun r=>∃q:Bool,(q=true→a1<(s.length:Int))∧r=(0, .r [.bool t]:: .r [.int x]:: .r [.int x]:: .r [.bool q]::(st s a1 b q0 q1 q2 q3 q4 q5 q6 q7 f1 c o++[.r v15, .r k]))) ?_ ?_
   ·refine .eqbind (r_more s b q0 q1 q2 q3 q4 q5 q6 q7 a1 f1 c o) ?_
    simp only[gR_s,gC_s,gI_s,gB_s,gS_s,gM_s,gR_z,gC_z,gI_z,gB_z,gS_z,gM_z,hd_r,at_zero,toB_bool,toS_str,toI_int]
    refine .ite (fun e=> ?_) (fun _=> .some ⟨false,fun h=>(by cases h),rfl⟩)
    obtain ⟨x',_,_,_,e2⟩:=r_peek s b q0 q1 q2 q3 q4 q5 q6 q7 a1 f1 c o (by omega)
    refine .eqbind e2 ?_
    simp only[gR_s,gC_s,gI_s,gB_s,gS_s,gM_s,gR_z,gC_z,gI_z,gB_z,gS_z,gM_z,hd_r,at_zero,toB_bool,toS_str,toI_int]
    refine .some ⟨_,fun _=> ?_,rfl⟩
    simp at e;exact e.2
   rintro x18 ⟨qq,hq2,rfl⟩
   simp only[List.cons_append,List.nil_append,gR_s,gC_s,gI_s,gB_s,gS_s,gM_s,gR_z,gC_z,gI_z,gB_z,gS_z,gM_z,hd_r,at_zero,toB_bool,toS_str,toI_int]
   refine .bind (R:=fun r=>∃(y a2:Int) (f2:Bool),0≤y∧y<256∧a1≤a2∧a2≤(s.length:Int)∧r=(0, .r [.bool t]:: .r [.int x]:: .r [.int y]::(st s a2 b q0 q1 q2 q3 q4 q5 q6 q7 f2 c o++[.r v15, .r k]))) ?_ ?_
   ·refine .ite (fun e=> ?_) (fun _=> .some ⟨x,a1,f1,x0,x1,Int.le_refl _,x3,rfl⟩)
    have hl2:=hq2 e
    rw[wrapS (show 0≤a1+1 by omega) (by omega)]
    obtain ⟨y,a2,f2,y0,y1,y2,y3,y4,e4⟩:=r_single s b q0 q1 q2 q3 q4 q5 q6 q7 (a1+1) f1 c o (by omega) (by omega) hs
    refine .eqbind e4 ?_
    simp only[gR_s,gC_s,gI_s,gB_s,gS_s,gM_s,gR_z,gC_z,gI_z,gB_z,gS_z,gM_z,hd_r,at_zero,toB_bool,toS_str,toI_int]
    exact .some ⟨y,a2,f2,y0,y1,by omega,y3,rfl⟩
   rintro x20 ⟨y,a2,f2,y0,y1,y2,y3,rfl⟩
   simp only[List.cons_append,List.nil_append,gR_s,gC_s,gI_s,gB_s,gS_s,gM_s,gR_z,gC_z,gI_z,gB_z,gS_z,gM_z,hd_r,at_zero,toB_bool,toS_str,toI_int]
   refine .bind (R:=fun r=>∃f3:Bool,r=(0, .r [.bool t]:: .r [.int x]:: .r [.int y]::(st s a2 b q0 q1 q2 q3 q4 q5 q6 q7 f3 c o++[.r v15, .r k]))) ?_ ?_
   ·exact .ite (fun e=> .some ⟨_,rfl⟩) (fun _=> .some ⟨_,rfl⟩)
   rintro x23 ⟨f3,rfl⟩
   simp only[List.cons_append,List.nil_append,gR_s,gC_s,gI_s,gB_s,gS_s,gM_s,gR_z,gC_z,gI_z,gB_z,gS_z,gM_z,hd_r,at_zero,toB_bool,toS_str,toI_int]
   rw[wrapS x0 (by omega)]
   refine .bind (bytes_l1 s b q0 q1 q2 q3 q4 q5 q6 q7 t y a2 f3 c o v15 y0 y1 256 x k x0 (by omega) (by omega)) ?_
   rintro x27 ⟨k',rfl⟩
   simp only[List.cons_append,List.nil_append,gR_s,gC_s,gI_s,gB_s,gS_s,gM_s,gR_z,gC_z,gI_z,gB_z,gS_z,gM_z,hd_r,at_zero,toB_bool,toS_str,toI_int]
   refine (bytes_l0 hs t c o v15 j a2 f3 k' (by omega) y3 (by omega)).mono ?_
   rintro r ⟨a',f',k',u1,u2,rfl⟩
   exact ⟨a',f',k',by omega,u2,rfl⟩
theorem r_bytes (hs:s.length≤200) (a:Int) (f:Bool) (c o:C) (g0:0≤a) (g1:a≤(s.length:Int)):
 Tot (fun r=>∃row a' f',a≤a'∧a'≤(s.length:Int)∧r= .r row::st s a' b q0 q1 q2 q3 q4 q5 q6 q7 f' c o) ((lim T).ic pattern_reader_bytes_i8_n (st s a b q0 q1 q2 q3 q4 q5 q6 q7 f c o)):=by
 rw[pattern_reader_bytes_i8_ic];unfold pattern_reader_bytes_i8
 refine .bind (R:=fun r=>∃q:Bool,(q=true→a<(s.length:Int))∧r=(0, .r [.bool q]::(st s a b q0 q1 q2 q3 q4 q5 q6 q7 f c o++[.r [.int 0, .int 0, .int 0, .int 0], .r [.int 0, .int 0, .int 0, .int 0]]))) ?_ ?_
 ·obtain ⟨x,_,_,_,e2⟩:=r_peek s b q0 q1 q2 q3 q4 q5 q6 q7 a f c o g0
  refine .eqbind e2 ?_
  simp only[gR_s,gC_s,gI_s,gB_s,gS_s,gM_s,gR_z,gC_z,gI_z,gB_z,gS_z,gM_z,hd_r,at_zero,toB_bool,toS_str,toI_int]
  exact .ite (fun e=> .some ⟨_,fun h=>of_decide_eq_true h,rfl⟩) (fun _=> .some ⟨false,fun h=>(by cases h),rfl⟩)
 rintro x4 ⟨t,ht,rfl⟩
 simp only[List.cons_append,List.nil_append,gR_s,gC_s,gI_s,gB_s,gS_s,gM_s,gR_z,gC_z,gI_z,gB_z,gS_z,gM_z,hd_r,at_zero,toB_bool,toS_str,toI_int]
 refine .bind (R:=fun r=>∃a1:Int,a≤a1∧a1≤(s.length:Int)∧r=(0, .r [.bool t]::(st s a1 b q0 q1 q2 q3 q4 q5 q6 q7 f c o++[.r [.int 0, .int 0, .int 0, .int 0], .r [.int 0, .int 0, .int 0, .int 0]]))) ?_ ?_
 ·refine .ite (fun e=> ?_) (fun _=> .some ⟨a,Int.le_refl _,g1,rfl⟩)
  have:=ht e
  rw[wrapS (show 0≤a+1 by omega) (by omega)]
  exact .some ⟨a+1,by omega,by omega,rfl⟩
 rintro x5 ⟨a1,u1,u2,rfl⟩
 simp only[List.cons_append,List.nil_append,gR_s,gC_s,gI_s,gB_s,gS_s,gM_s,gR_z,gC_z,gI_z,gB_z,gS_z,gM_z,hd_r,at_zero,toB_bool,toS_str,toI_int]
 refine .bind (bytes_l0 s b q0 q1 q2 q3 q4 q5 q6 q7 hs t c o _ 400 a1 f _ (by omega) u2 (by omega)) ?_
 rintro x28 ⟨a2,f2,k2,w1,w2,rfl⟩
 simp only[List.cons_append,List.nil_append,gR_s,gC_s,gI_s,gB_s,gS_s,gM_s,gR_z,gC_z,gI_z,gB_z,gS_z,gM_z,hd_r,at_zero,toB_bool,toS_str,toI_int]
 refine .bind (R:=fun r=>∃f3:Bool,(f3=false→a2<(s.length:Int))∧r=(0, .r [.bool t]::(st s a2 b q0 q1 q2 q3 q4 q5 q6 q7 f3 c o++[.r [.int 0, .int 0, .int 0, .int 0], .r k2]))) ?_ ?_
 ·exact .ite (fun e=> .some ⟨true,fun h=>(by cases h),rfl⟩) (fun _=> .some ⟨_,fun h=>by simpa using h,rfl⟩)
 rintro x31 ⟨f3,hf,rfl⟩
 simp only[List.cons_append,List.nil_append,gR_s,gC_s,gI_s,gB_s,gS_s,gM_s,gR_z,gC_z,gI_z,gB_z,gS_z,gM_z,hd_r,at_zero,toB_bool,toS_str,toI_int]
 refine .ite (fun e=> .some ⟨k2,a2,f3,by omega,w2,rfl⟩) (fun e=> ?_)
 have hlt:=hf (by simpa using e)
 rw[wrapS (show 0≤a2+1 by omega) (by omega)]
 refine .ite (fun e=> ?_) (fun _=> .some ⟨k2,a2+1,_,by omega,by omega,rfl⟩)
 obtain ⟨k3,e3⟩:=class_turn k2
 refine .eqbind e3 ?_
 simp only[gR_z,hd_r]
 exact .some ⟨k3,a2+1,_,by omega,by omega,rfl⟩
theorem link_l (r1 r2:Row) (a:Int) (f:Bool) (c:C) (m:Nat) (hm:m≤256):∀(j:Nat) (i:Int) (o:C),0≤i→i+j=m→o.rows.length=m→
 Tot (fun r=>∃o':C,o'.rows.length=m∧r=(0,st s a b q0 q1 q2 q3 q4 q5 q6 q7 f c o')) (pattern_reader_link_i14_l0 (lim T) (.dp r1) (.dp r2) (m:Int) i s a b q0 q1 q2 q3 q4 q5 q6 q7 f c o)
 |0,i,o,h0,h,ho=>by
  rw[pattern_reader_link_i14_l0_eq];unfold pattern_reader_link_i14_b0
  have:¬i<(m:Int):=by omega
  simp only[this,decide_false,Bool.false_eq_true,if_false]
  exact .some ⟨o,ho,rfl⟩
 |j+1,i,o,h0,h,ho=>by
  rw[pattern_reader_link_i14_l0_eq];unfold pattern_reader_link_i14_b0
  have hlt:i<(m:Int):=by omega
  obtain ⟨q,e1⟩:=set_has (.dp r1) rfl h0 (show i<256 by omega)
  rw[wrapS (show 0≤i+1 by omega) (by omega)]
  simp only[hlt,decide_true,if_true]
  refine .eqbind e1 ?_
  simp only[rowsAt_zero,at_zero,toB_bool]
  refine .ite (fun _=> ?_) (fun _=>link_l r1 r2 a f c m hm j (i+1) o (by omega) (by omega) ho)
  have hl:i<(o.rows.length:Int):=by omega
  simp only[h0,hl,and_self,if_true,isDp_dp,dpRow_dp]
  have ex:((i.toNat:Nat):Int)=i:=by omega
  have e2:((0:Nat):Int)=0:=rfl
  rw[ex,e2]
  obtain ⟨o',g1,g2⟩:=set_join15 s b q0 q1 q2 q3 q4 q5 q6 q7 r2 i a f c o h0 (by omega)
  refine .eqbind g2 ?_
  simp only[List.take_succ_cons,List.take_zero,gR_s,gC_s,gI_s,gB_s,gS_s,gM_s,gR_z,gC_z,gI_z,gB_z,gS_z,gM_z,hd_r,at_zero,toB_bool,toS_str,toI_int]
  exact link_l r1 r2 a f c m hm j (i+1) o' (by omega) (by omega) (by omega)
theorem r_link (r1 r2:Row) (a:Int) (f:Bool) (c o:C) (hI:Inv c o):
 Tot (fun r=>∃o':C,Inv c o'∧r=st s a b q0 q1 q2 q3 q4 q5 q6 q7 f c o') ((lim T).ic pattern_reader_link_i14_n (.r r1:: .r r2::st s a b q0 q1 q2 q3 q4 q5 q6 q7 f c o)):=by
 obtain ⟨i1,i2,i3⟩:=hI
 rw[pattern_reader_link_i14_ic];unfold pattern_reader_link_i14
 refine .bind (link_l s b q0 q1 q2 q3 q4 q5 q6 q7 r1 r2 a f c o.rows.length (by omega) o.rows.length 0 o (by omega) (by omega) rfl) ?_
 rintro x3 ⟨o',ho,rfl⟩
 simp only[List.cons_append,List.nil_append,gR_s,gC_s,gI_s,gB_s,gS_s,gM_s,gR_z,gC_z,gI_z,gB_z,gS_z,gM_z,hd_r,at_zero,toB_bool,toS_str,toI_int]
 exact .some ⟨o',⟨by omega,by omega,by omega⟩,rfl⟩
end
end Go.Ev.Zzt
namespace Go.Ev.Zzt
theorem indexByte (l:List UInt8) (x:Int):(lim T).pc n_strings_IndexByte [[.str l],[.int x]]=some [[.int (idxBy l x.toNat.toUInt8)]]:=by
 rw[strings_IndexByte_pc];unfold strings_IndexByte
 have:(lim T).pc n_internal_stringslite_IndexByte [[.str l],[.int x]]=some [[.int (idxBy l x.toNat.toUInt8)]]:=by
  rw[internal_stringslite_IndexByte_pc];unfold internal_stringslite_IndexByte;rfl
 rw[this];rfl
section
variable (s:List UInt8) (b:Bool) (q0 q1 q2 q3 q4 q5 q6 q7:Int)
abbrev Post (a:Int) (r:List PV):Prop:=∃row a' f' c' o',a≤a'∧a'≤(s.length:Int)∧Inv c' o'∧r= .r row::st s a' b q0 q1 q2 q3 q4 q5 q6 q7 f' c' o'
abbrev AltOk (n:Int):Prop:=∀a f c o,0≤a→a≤(s.length:Int)→(s.length:Int) - a≤n→Inv c o→Tot (Post s b q0 q1 q2 q3 q4 q5 q6 q7 a) ((lim T).ic pattern_reader_alternatives_i1_n (st s a b q0 q1 q2 q3 q4 q5 q6 q7 f c o))
theorem r_atom (hs:s.length≤200) (n:Int) (hA:AltOk s b q0 q1 q2 q3 q4 q5 q6 q7 n) (a:Int) (f:Bool) (c o:C) (g0:0≤a) (g1:a<(s.length:Int)) (gn:(s.length:Int) - a≤n+1) (hI:Inv c o):
 Tot (Post s b q0 q1 q2 q3 q4 q5 q6 q7 (a+1)) ((lim T).ic pattern_reader_atom_i6_n (st s a b q0 q1 q2 q3 q4 q5 q6 q7 f c o)):=by
 rw[pattern_reader_atom_i6_ic];unfold pattern_reader_atom_i6
 obtain ⟨x,x0,x1,_,e1⟩:=r_peek s b q0 q1 q2 q3 q4 q5 q6 q7 a f c o g0
 refine .eqbind e1 ?_
 simp only[gR_s,gC_s,gI_s,gB_s,gS_s,gM_s,gR_z,gC_z,gI_z,gB_z,gS_z,gM_z,hd_r,at_zero,toB_bool,toS_str,toI_int]
 simp only[wrapS (show 0≤a+1 by omega) (show a+1≤1000000000000 by omega)]
 refine .bind (R:=fun r=>(∃a' f' c' o' w k,a+1≤a'∧a'≤(s.length:Int)∧Inv c' o'∧r=(0,st s a' b q0 q1 q2 q3 q4 q5 q6 q7 f' c' o'++[.r w, .r k]))∨(∃a' f' c' o' row,a+1≤a'∧a'≤(s.length:Int)∧Inv c' o'∧r=(1,st s a' b q0 q1 q2 q3 q4 q5 q6 q7 f' c' o'++[.r row]))) ?_ ?_
 ·refine .ite (fun e=> ?_) fun e=> .ite (fun e=> ?_) fun e=> .ite (fun e=> ?_) fun e=> .ite (fun e=> ?_) fun e=> ?_
  ·refine .bind (hA (a+1) f c o (by omega) (by omega) (by omega) hI) ?_
   rintro y2 ⟨row,a2,f2,c2,o2,u1,u2,u3,rfl⟩
   simp only[gR_s,gC_s,gI_s,gB_s,gS_s,gM_s,gR_z,gC_z,gI_z,gB_z,gS_z,gM_z,hd_r,at_zero,toB_bool,toS_str,toI_int]
   refine .bind (R:=fun r=>∃f3:Bool,(f3=false→a2<(s.length:Int))∧∃w,r=(0,st s a2 b q0 q1 q2 q3 q4 q5 q6 q7 f3 c2 o2++[.r w, .r row])) ?_ ?_
   ·refine .ite (fun e=> .some ⟨true,fun h=>(by cases h),_,rfl⟩) fun e=> ?_
    obtain ⟨x',_,_,_,e2⟩:=r_peek s b q0 q1 q2 q3 q4 q5 q6 q7 a2 f2 c2 o2 (by omega)
    refine .eqbind e2 ?_
    simp only[gR_s,gC_s,gI_s,gB_s,gS_s,gM_s,gR_z,gC_z,gI_z,gB_z,gS_z,gM_z,hd_r,at_zero,toB_bool,toS_str,toI_int]
    refine .ite (fun e=> .some ⟨true,fun h=>(by cases h),_,rfl⟩) fun e=> .some ⟨_,fun h=> ?_,_,rfl⟩
    have:=of_decide_eq_false h;omega
   rintro x11 ⟨f3,hf,w,rfl⟩
   simp only[List.cons_append,List.nil_append,gR_s,gC_s,gI_s,gB_s,gS_s,gM_s,gR_z,gC_z,gI_z,gB_z,gS_z,gM_z,hd_r,at_zero,toB_bool,toS_str,toI_int]
   refine .ite (fun e=> ?_) fun e=> .some (.inr ⟨a2,f3,c2,o2,row,u1,u2,u3,rfl⟩)
   have:=hf (by simpa using e)
   rw[wrapS (show 0≤a2+1 by omega) (by omega)]
   exact .some (.inr ⟨a2+1,f3,c2,o2,row,by omega,by omega,u3,rfl⟩)
  ·obtain ⟨k,ek⟩:=class_turn [.int 0, .int 0, .int 0, .int 0]
   refine .eqbind ek ?_
   exact .some (.inl ⟨a+1,f,c,o,_,k,by omega,by omega,hI,rfl⟩)
  ·refine .bind (r_bytes s b q0 q1 q2 q3 q4 q5 q6 q7 hs (a+1) f c o (by omega) (by omega)) ?_
   rintro y13 ⟨row,a2,f2,u1,u2,rfl⟩
   simp only[gR_s,gC_s,gI_s,gB_s,gS_s,gM_s,gR_z,gC_z,gI_z,gB_z,gS_z,gM_z,hd_r,at_zero,toB_bool,toS_str,toI_int]
   exact .some (.inl ⟨a2,f2,c,o,_,row,u1,u2,hI,rfl⟩)
  ·refine .ite (fun e=> .some (.inr ⟨a+1,true,c,o,_,by omega,by omega,hI,rfl⟩)) fun e=> ?_
   have e':a+1<(s.length:Int):=by simpa using e
   rw[if_pos ⟨by omega,e'⟩]
   obtain ⟨k,ek⟩:=class_add (i:=((s.getD (a+1).toNat 0).toNat:Int)) (by omega) (by have:=(s.getD (a+1).toNat 0).toNat_lt;omega) [.int 0, .int 0, .int 0, .int 0]
   refine .eqbind ek ?_
   rw[wrapS (show 0≤a+1+1 by omega) (by omega)]
   exact .some (.inl ⟨a+1+1,f,c,o,_,k,by omega,by omega,hI,rfl⟩)
  ·refine .eqbind (indexByte _ x) ?_
   refine .ite (fun e=> .some (.inr ⟨a+1,true,c,o,_,by omega,by omega,hI,rfl⟩)) fun e=> ?_
   obtain ⟨k,ek⟩:=class_add x0 x1 [.int 0, .int 0, .int 0, .int 0]
   refine .eqbind ek ?_
   exact .some (.inl ⟨a+1,f,c,o,_,k,by omega,by omega,hI,rfl⟩)
 ·rintro x17 (⟨a2,f2,c2,o2,w,k,u1,u2,u3,rfl⟩|⟨a2,f2,c2,o2,row,u1,u2,u3,rfl⟩)
  ·simp only[List.cons_append,List.nil_append,gR_s,gC_s,gI_s,gB_s,gS_s,gM_s,gR_z,gC_z,gI_z,gB_z,gS_z,gM_z,hd_r,at_zero,toB_bool,toS_str,toI_int]
   obtain ⟨row,f3,c3,o3,h3,e3⟩:=r_position s b q0 q1 q2 q3 q4 q5 q6 q7 k a2 f2 c2 o2 u3
   refine .eqbind e3 ?_
   exact .some ⟨row,a2,f3,c3,o3,u1,u2,h3,rfl⟩
  ·simp only[List.cons_append,List.nil_append,gR_s,gC_s,gI_s,gB_s,gS_s,gM_s,gR_z,gC_z,gI_z,gB_z,gS_z,gM_z,hd_r,at_zero,toB_bool,toS_str,toI_int]
   exact .some ⟨row,a2,f2,c2,o2,u1,u2,u3,rfl⟩
theorem r_item (hs:s.length≤200) (n:Int) (hA:AltOk s b q0 q1 q2 q3 q4 q5 q6 q7 n) (a:Int) (f:Bool) (c o:C) (g0:0≤a) (g1:a<(s.length:Int)) (gn:(s.length:Int) - a≤n+1) (hI:Inv c o):
 Tot (Post s b q0 q1 q2 q3 q4 q5 q6 q7 (a+1)) ((lim T).ic pattern_reader_item_i5_n (st s a b q0 q1 q2 q3 q4 q5 q6 q7 f c o)):=by
 rw[pattern_reader_item_i5_ic];unfold pattern_reader_item_i5
 refine .bind (r_atom s b q0 q1 q2 q3 q4 q5 q6 q7 hs n hA a f c o g0 g1 gn hI) ?_
 rintro y1 ⟨row,a2,f2,c2,o2,u1,u2,u3,rfl⟩
 simp only[gR_s,gC_s,gI_s,gB_s,gS_s,gM_s,gR_z,gC_z,gI_z,gB_z,gS_z,gM_z,hd_r,at_zero,toB_bool,toS_str,toI_int]
 refine .eqbind (r_more s b q0 q1 q2 q3 q4 q5 q6 q7 a2 f2 c2 o2) ?_
 simp only[gR_s,gC_s,gI_s,gB_s,gS_s,gM_s,gR_z,gC_z,gI_z,gB_z,gS_z,gM_z,hd_r,at_zero,toB_bool,toS_str,toI_int]
 refine .ite (fun e=> .some ⟨row,a2,f2,c2,o2,u1,u2,u3,rfl⟩) fun e=> ?_
 have hlt:a2<(s.length:Int):=by simp at e;exact e.2
 obtain ⟨x,x0,x1,_,e1⟩:=r_peek s b q0 q1 q2 q3 q4 q5 q6 q7 a2 f2 c2 o2 (by omega)
 refine .eqbind e1 ?_
 simp only[gR_s,gC_s,gI_s,gB_s,gS_s,gM_s,gR_z,gC_z,gI_z,gB_z,gS_z,gM_z,hd_r,at_zero,toB_bool,toS_str,toI_int]
 refine .bind (R:=fun r=>∃(q:Bool) (w:Row),r=(0, .r [.int x]:: .r [.bool q]::(st s a2 b q0 q1 q2 q3 q4 q5 q6 q7 f2 c2 o2++[.r w, .r row]))) ?_ ?_
 ·exact .ite (fun _=> .ite (fun _=> .some ⟨_,_,rfl⟩) fun _=> .some ⟨_,_,rfl⟩) fun _=> .some ⟨_,_,rfl⟩
 rintro x8 ⟨q,w,rfl⟩
 simp only[List.cons_append,List.nil_append,gR_s,gC_s,gI_s,gB_s,gS_s,gM_s,gR_z,gC_z,gI_z,gB_z,gS_z,gM_z,hd_r,at_zero,toB_bool,toS_str,toI_int]
 refine .ite (fun e=> .some ⟨row,a2,f2,c2,o2,u1,u2,u3,rfl⟩) fun e=> ?_
 rw[wrapS (show 0≤a2+1 by omega) (by omega)]
 refine .ite (fun e=> ?_) fun e=> ?_
 ·refine .bind (r_link s b q0 q1 q2 q3 q4 q5 q6 q7 _ _ (a2+1) f2 c2 o2 u3) ?_
  rintro y9 ⟨o3,h3,rfl⟩
  simp only[List.cons_append,List.nil_append,gR_s,gC_s,gI_s,gB_s,gS_s,gM_s,gR_z,gC_z,gI_z,gB_z,gS_z,gM_z,hd_r,at_zero,toB_bool,toS_str,toI_int]
  exact .ite (fun e=> .some ⟨_,a2+1,f2,c2,o3,by omega,by omega,h3,rfl⟩) fun e=> .some ⟨_,a2+1,f2,c2,o3,by omega,by omega,h3,rfl⟩
 ·exact .ite (fun e=> .some ⟨_,a2+1,f2,c2,o2,by omega,by omega,u3,rfl⟩) fun e=> .some ⟨_,a2+1,f2,c2,o2,by omega,by omega,u3,rfl⟩
theorem seq_l (hs:s.length≤200) (n:Int) (hA:AltOk s b q0 q1 q2 q3 q4 q5 q6 q7 n):∀(j:Nat) (a:Int) (f:Bool) (c o:C) (w r0:Row),0≤a→a≤(s.length:Int)→(s.length:Int)<a+j→(s.length:Int) - a≤n+1→Inv c o→
 Tot (fun r=>∃a' f' c' o' w' r',a≤a'∧a'≤(s.length:Int)∧Inv c' o'∧r=(0,st s a' b q0 q1 q2 q3 q4 q5 q6 q7 f' c' o'++[.r w', .r r'])) (pattern_reader_sequence_i2_l0 (lim T) s a b q0 q1 q2 q3 q4 q5 q6 q7 f c o w r0)
 |0,a,f,c,o,w,r0,g0,g1,g2,gn,hI=>by omega
 |j+1,a,f,c,o,w,r0,g0,g1,g2,gn,hI=>by
  rw[pattern_reader_sequence_i2_l0_eq];unfold pattern_reader_sequence_i2_b0
  refine .bind (R:=fun r=>∃q:Bool,(q=true→a<(s.length:Int))∧r=(0, .r [.bool q]::(st s a b q0 q1 q2 q3 q4 q5 q6 q7 f c o++[.r w, .r r0]))) ?_ ?_
  ·refine .eqbind (r_more s b q0 q1 q2 q3 q4 q5 q6 q7 a f c o) ?_
   simp only[gR_s,gC_s,gI_s,gB_s,gS_s,gM_s,gR_z,gC_z,gI_z,gB_z,gS_z,gM_z,hd_r,at_zero,toB_bool,toS_str,toI_int]
   refine .ite (fun e=> ?_) (fun _=> .some ⟨false,fun h=>(by cases h),rfl⟩)
   have hlt:a<(s.length:Int):=by simp at e;exact e.2
   obtain ⟨x,_,_,_,e2⟩:=r_peek s b q0 q1 q2 q3 q4 q5 q6 q7 a f c o g0
   refine .eqbind e2 ?_
   simp only[gR_s,gC_s,gI_s,gB_s,gS_s,gM_s,gR_z,gC_z,gI_z,gB_z,gS_z,gM_z,hd_r,at_zero,toB_bool,toS_str,toI_int]
   refine .ite (fun e=> ?_) (fun _=> .some ⟨false,fun h=>(by cases h),rfl⟩)
   refine .eqbind e2 ?_
   simp only[gR_s,gC_s,gI_s,gB_s,gS_s,gM_s,gR_z,gC_z,gI_z,gB_z,gS_z,gM_z,hd_r,at_zero,toB_bool,toS_str,toI_int]
   exact .some ⟨_,fun _=>hlt,rfl⟩
  rintro x14 ⟨q,hq,rfl⟩
  simp only[List.cons_append,List.nil_append,gR_s,gC_s,gI_s,gB_s,gS_s,gM_s,gR_z,gC_z,gI_z,gB_z,gS_z,gM_z,hd_r,at_zero,toB_bool,toS_str,toI_int]
  refine .ite (fun e=> ?_) (fun _=> .some ⟨a,f,c,o,w,r0,Int.le_refl _,g1,hI,rfl⟩)
  have hlt:=hq e
  refine .bind (r_item s b q0 q1 q2 q3 q4 q5 q6 q7 hs n hA a f c o g0 hlt gn hI) ?_
  rintro y15 ⟨x,a2,f2,c2,o2,u1,u2,u3,rfl⟩
  simp only[List.cons_append,List.nil_append,gR_s,gC_s,gI_s,gB_s,gS_s,gM_s,gR_z,gC_z,gI_z,gB_z,gS_z,gM_z,hd_r,at_zero,toB_bool,toS_str,toI_int]
  refine .bind (r_link s b q0 q1 q2 q3 q4 q5 q6 q7 _ _ a2 f2 c2 o2 u3) ?_
  rintro y16 ⟨o3,h3,rfl⟩
  simp only[List.cons_append,List.nil_append,gR_s,gC_s,gI_s,gB_s,gS_s,gM_s,gR_z,gC_z,gI_z,gB_z,gS_z,gM_z,hd_r,at_zero,toB_bool,toS_str,toI_int]
  refine .bind (R:=fun r=>∃r1:Row,r=(0,st s a2 b q0 q1 q2 q3 q4 q5 q6 q7 f2 c2 o3++[.r w, .r r1, .r x])) ?_ ?_
  ·refine .ite (fun e=> ?_) fun e=> .some ⟨_,rfl⟩
   obtain ⟨r1,e1⟩:=set_join16 [at_ x 1,at_ x 2,at_ x 3,at_ x 4] r0
   exact .eqbind e1 (.some ⟨r1,rfl⟩)
  rintro x18 ⟨r1,rfl⟩
  simp only[List.cons_append,List.nil_append,gR_s,gC_s,gI_s,gB_s,gS_s,gM_s,gR_z,gC_z,gI_z,gB_z,gS_z,gM_z,hd_r,at_zero,toB_bool,toS_str,toI_int]
  refine .bind (R:=fun r=>∃r2:Row,r=(0,st s a2 b q0 q1 q2 q3 q4 q5 q6 q7 f2 c2 o3++[.r w, .r r2, .r x])) ?_ ?_
  ·exact .ite (fun e=> .some ⟨_,rfl⟩) fun e=> .some ⟨_,rfl⟩
  rintro x19 ⟨r2,rfl⟩
  simp only[List.cons_append,List.nil_append,gR_s,gC_s,gI_s,gB_s,gS_s,gM_s,gR_z,gC_z,gI_z,gB_z,gS_z,gM_z,hd_r,at_zero,toB_bool,toS_str,toI_int]
  obtain ⟨r3,e3⟩:=set_join17 [at_ x 5,at_ x 6,at_ x 7,at_ x 8] r2
  refine .eqbind e3 ?_
  simp only[gR_z,hd_r]
  refine .ite (fun e=> ?_) fun e=> ?_
  ·refine (seq_l hs n hA j a2 f2 c2 o3 w _ (by omega) u2 (by omega) (by omega) h3).mono ?_
   rintro r ⟨a',f',c',o',w',r',v1,v2,v3,rfl⟩
   exact ⟨a',f',c',o',w',r',by omega,v2,v3,rfl⟩
  ·refine (seq_l hs n hA j a2 f2 c2 o3 w _ (by omega) u2 (by omega) (by omega) h3).mono ?_
   rintro r ⟨a',f',c',o',w',r',v1,v2,v3,rfl⟩
   exact ⟨a',f',c',o',w',r',by omega,v2,v3,rfl⟩
theorem r_seq (hs:s.length≤200) (n:Int) (hA:AltOk s b q0 q1 q2 q3 q4 q5 q6 q7 n) (a:Int) (f:Bool) (c o:C) (g0:0≤a) (g1:a≤(s.length:Int)) (gn:(s.length:Int) - a≤n+1) (hI:Inv c o):
 Tot (Post s b q0 q1 q2 q3 q4 q5 q6 q7 a) ((lim T).ic pattern_reader_sequence_i2_n (st s a b q0 q1 q2 q3 q4 q5 q6 q7 f c o)):=by
 rw[pattern_reader_sequence_i2_ic];unfold pattern_reader_sequence_i2
 refine .bind (seq_l s b q0 q1 q2 q3 q4 q5 q6 q7 hs n hA 400 a f c o _ _ g0 g1 (by omega) gn hI) ?_
 rintro x ⟨a',f',c',o',w',r',v1,v2,v3,rfl⟩
 simp only[List.cons_append,List.nil_append,gR_s,gC_s,gI_s,gB_s,gS_s,gM_s,gR_z,gC_z,gI_z,gB_z,gS_z,gM_z,hd_r,at_zero,toB_bool,toS_str,toI_int]
 exact .some ⟨r',a',f',c',o',v1,v2,v3,rfl⟩
theorem alt_l (hs:s.length≤200) (n:Int) (hA:AltOk s b q0 q1 q2 q3 q4 q5 q6 q7 n):∀(j:Nat) (a:Int) (f:Bool) (c o:C) (w r0:Row),0≤a→a≤(s.length:Int)→(s.length:Int)<a+j→(s.length:Int) - a≤n+1→Inv c o→
 Tot (fun r=>∃a' f' c' o' w' r',a≤a'∧a'≤(s.length:Int)∧Inv c' o'∧r=(0,st s a' b q0 q1 q2 q3 q4 q5 q6 q7 f' c' o'++[.r w', .r r'])) (pattern_reader_alternatives_i1_l0 (lim T) s a b q0 q1 q2 q3 q4 q5 q6 q7 f c o w r0)
 |0,a,f,c,o,w,r0,g0,g1,g2,gn,hI=>by omega
 |j+1,a,f,c,o,w,r0,g0,g1,g2,gn,hI=>by
  rw[pattern_reader_alternatives_i1_l0_eq];unfold pattern_reader_alternatives_i1_b0
  refine .bind (R:=fun r=>∃q:Bool,(q=true→a<(s.length:Int))∧r=(0, .r [.bool q]::(st s a b q0 q1 q2 q3 q4 q5 q6 q7 f c o++[.r w, .r r0]))) ?_ ?_
  ·refine .eqbind (r_more s b q0 q1 q2 q3 q4 q5 q6 q7 a f c o) ?_
   simp only[gR_s,gC_s,gI_s,gB_s,gS_s,gM_s,gR_z,gC_z,gI_z,gB_z,gS_z,gM_z,hd_r,at_zero,toB_bool,toS_str,toI_int]
   refine .ite (fun e=> ?_) (fun _=> .some ⟨false,fun h=>(by cases h),rfl⟩)
   have hlt:a<(s.length:Int):=by simp at e;exact e.2
   obtain ⟨x,_,_,_,e2⟩:=r_peek s b q0 q1 q2 q3 q4 q5 q6 q7 a f c o g0
   refine .eqbind e2 ?_
   simp only[gR_s,gC_s,gI_s,gB_s,gS_s,gM_s,gR_z,gC_z,gI_z,gB_z,gS_z,gM_z,hd_r,at_zero,toB_bool,toS_str,toI_int]
   exact .some ⟨_,fun _=>hlt,rfl⟩
  rintro x7 ⟨q,hq,rfl⟩
  simp only[List.cons_append,List.nil_append,gR_s,gC_s,gI_s,gB_s,gS_s,gM_s,gR_z,gC_z,gI_z,gB_z,gS_z,gM_z,hd_r,at_zero,toB_bool,toS_str,toI_int]
  refine .ite (fun e=> ?_) (fun _=> .some ⟨a,f,c,o,w,r0,Int.le_refl _,g1,hI,rfl⟩)
  have hlt:=hq e
  rw[wrapS (show 0≤a+1 by omega) (by omega)]
  refine .bind (r_seq s b q0 q1 q2 q3 q4 q5 q6 q7 hs n hA (a+1) f c o (by omega) (by omega) (by omega) hI) ?_
  rintro y8 ⟨x,a2,f2,c2,o2,u1,u2,u3,rfl⟩
  simp only[List.cons_append,List.nil_append,gR_s,gC_s,gI_s,gB_s,gS_s,gM_s,gR_z,gC_z,gI_z,gB_z,gS_z,gM_z,hd_r,at_zero,toB_bool,toS_str,toI_int]
  have fin:∀row:Row,Tot (fun r=>∃a' f' c' o' w' r',a≤a'∧a'≤(s.length:Int)∧Inv c' o'∧r=(0,st s a' b q0 q1 q2 q3 q4 q5 q6 q7 f' c' o'++[.r w', .r r'])) (((lim T).ic pattern_set_join_i16_n [.r [at_ x 1,at_ x 2,at_ x 3,at_ x 4], .r row]).bind fun y11=>
        ((lim T).ic pattern_set_join_i17_n [.r [at_ x 5,at_ x 6,at_ x 7,at_ x 8], .r (gR 0 y11)]).bind fun y12=>
          pattern_reader_alternatives_i1_l0 (lim T) s a2 b q0 q1 q2 q3 q4 q5 q6 q7 f2 c2 o2 w (gR 0 y12)):=by
   intro row
   obtain ⟨r1,e1⟩:=set_join16 [at_ x 1,at_ x 2,at_ x 3,at_ x 4] row
   refine .eqbind e1 ?_
   obtain ⟨r2,e2⟩:=set_join17 [at_ x 5,at_ x 6,at_ x 7,at_ x 8] r1
   refine .eqbind e2 ?_
   refine (alt_l hs n hA j a2 f2 c2 o2 w _ (by omega) u2 (by omega) (by omega) u3).mono ?_
   rintro r ⟨a',f',c',o',w',r',v1,v2,v3,rfl⟩
   exact ⟨a',f',c',o',w',r',by omega,v2,v3,rfl⟩
  exact .ite (fun _=>fin _) fun _=>fin _
theorem r_alt (hs:s.length≤200):∀n:Nat,AltOk s b q0 q1 q2 q3 q4 q5 q6 q7 n:=by
 have step:∀n:Int,AltOk s b q0 q1 q2 q3 q4 q5 q6 q7 n→AltOk s b q0 q1 q2 q3 q4 q5 q6 q7 (n+1):=by
  intro n hA a f c o g0 g1 gn hI
  rw[pattern_reader_alternatives_i1_ic];unfold pattern_reader_alternatives_i1
  refine .bind (r_seq s b q0 q1 q2 q3 q4 q5 q6 q7 hs n hA a f c o g0 g1 gn hI) ?_
  rintro y1 ⟨x,a2,f2,c2,o2,u1,u2,u3,rfl⟩
  simp only[List.cons_append,List.nil_append,gR_s,gC_s,gI_s,gB_s,gS_s,gM_s,gR_z,gC_z,gI_z,gB_z,gS_z,gM_z,hd_r,at_zero,toB_bool,toS_str,toI_int]
  refine .bind (alt_l s b q0 q1 q2 q3 q4 q5 q6 q7 hs n hA 400 a2 f2 c2 o2 _ _ (by omega) u2 (by omega) (by omega) u3) ?_
  rintro x13 ⟨a',f',c',o',w',r',v1,v2,v3,rfl⟩
  simp only[List.cons_append,List.nil_append,gR_s,gC_s,gI_s,gB_s,gS_s,gM_s,gR_z,gC_z,gI_z,gB_z,gS_z,gM_z,hd_r,at_zero,toB_bool,toS_str,toI_int]
  exact .some ⟨r',a',f',c',o',by omega,v2,v3,rfl⟩
 intro n
 induction n with
 |zero=>exact step (-1) (fun a f c o g0 g1 gn hI=>by omega)
 |succ n ih=>exact step n ih
end
end Go.Ev.Zzt
namespace Go.Ev.Zzt
@[simp] theorem es_m (x:List (Row×Row)):(PV.m x).es=x:=rfl
@[simp] theorem headD_c (p q:PV) (x:List PV):(p::x).headD q=p:=rfl
def PlanOk (row:Row):Prop:=Inv (at_ row 0) (at_ row 1)
theorem parse_tot (s:List UInt8):Tot (fun r=>∃(row:Row) (e:Int),r=[row,[.int e]]∧(e=0→PlanOk row)) ((lim T).pc n_pattern_parse [[.str s]]):=by
 rw[pattern_parse_pc];unfold pattern_parse
 refine .ite (fun e=> .some ⟨_,2,rfl,fun h=>by cases h⟩) fun e=> ?_
 have hs:s.length≤200:=by have:=of_decide_eq_false (by simpa using e:decide ((s.length:Int)>200)=false);omega
 refine .bind (r_alt s false 0 0 0 0 0 0 0 0 hs 400 0 false (.sl [[.int 0, .int 0, .int 0, .int 0]]) (.sl [[.int 0, .int 0, .int 0, .int 0]]) (by omega) (by omega) (by omega) ⟨rfl,by simp[C.rows],by simp[C.rows]⟩) ?_
 rintro y1 ⟨row,a,f,c,o,u1,u2,u3,rfl⟩
 simp only[List.cons_append,List.nil_append,gR_s,gC_s,gI_s,gB_s,gS_s,gM_s,gR_z,gC_z,gI_z,gB_z,gS_z,gM_z,hd_r,at_zero,toB_bool,toS_str,toI_int]
 refine .bind (R:=fun r=>∃(q:Bool) (w:Row),r=(0, .r [.bool q]:: .r w::[.r [.str s], .r [.int a], .r [.bool false], .r [.int 0], .r [.int 0], .r [.int 0], .r [.int 0], .r [.int 0], .r [.int 0], .r [.int 0], .r [.int 0], .r [.bool f], .r row, .r [c], .r [o]])) ?_ ?_
 ·exact .ite (fun e=> .some ⟨_,_,rfl⟩) fun e=> .some ⟨_,_,rfl⟩
 rintro x4 ⟨q,w,rfl⟩
 simp only[List.cons_append,List.nil_append,gR_s,gC_s,gI_s,gB_s,gS_s,gM_s,gR_z,gC_z,gI_z,gB_z,gS_z,gM_z,hd_r,at_zero,toB_bool,toS_str,toI_int]
 refine .ite (fun e=> .some ⟨_,14,rfl,fun h=>by cases h⟩) fun e=> ?_
 obtain ⟨i1,i2,i3⟩:=u3
 have hl:0<o.rows.length:=by omega
 refine .pos ⟨by omega,by omega⟩ (.pos hl ?_)
 exact .some ⟨_,0,rfl,fun _=>⟨by show c.rows.length=(o.rows.set 0 _).length;rw[List.length_set];exact i1,i2,i3⟩⟩
theorem at_l1 (p:Row) (b:Int) (hb0:0≤b) (hb1:b<256) (v2:Int) (hm:(at_ p 0).rows.length≤256):∀(j:Nat) (i:Int) (out:Row),0≤i→i+j=(at_ p 0).rows.length→
 Tot (fun r=>∃out',r=(0,[.r [.dp p], .r [.int v2], .r out'])) (pattern_plan_at_l1 (lim T) (.dp p) b v2 ((at_ p 0).rows.length:Int) i out)
 |0,i,out,h0,h=>by
  rw[pattern_plan_at_l1_eq];unfold pattern_plan_at_b1
  have:¬i<((at_ p 0).rows.length:Int):=by omega
  simp only[this,decide_false,Bool.false_eq_true,if_false]
  exact .some ⟨_,rfl⟩
 |j+1,i,out,h0,h=>by
  rw[pattern_plan_at_l1_eq];unfold pattern_plan_at_b1
  have hlt:i<((at_ p 0).rows.length:Int):=by omega
  simp only[hlt,decide_true,if_true,isDp_dp,dpRow_dp,h0,and_self]
  rw[wrapU8 hb0 hb1]
  obtain ⟨q,e⟩:=class_has (.dp (rowsAt ((at_ p 0).rows) i.toNat)) rfl hb0 hb1
  refine .eqbind e ?_
  simp only[rowsAt_zero,at_zero,toB_bool,wrapS (show 0≤i+1 by omega) (show i+1≤1000000000000 by omega)]
  refine .ite (fun _=> ?_) fun _=>at_l1 p b hb0 hb1 v2 hm j (i+1) out (by omega) (by omega)
  simp only[hb0,hb1,and_self,if_true]
  obtain ⟨out',e'⟩:=set_add18 (p:=((0+(b.toNat*4):Nat):Int)) (i:=i) (by omega) (by omega) h0 (by omega) out
  refine .eqbind e' ?_
  exact at_l1 p b hb0 hb1 v2 hm j (i+1) _ (by omega) (by omega)
theorem at_l0 (p:Row) (hm:(at_ p 0).rows.length≤256):∀(j:Nat) (i:Int) (out:Row),0≤i→i+j=256→
 Tot (fun r=>∃out',r=(0,[.r out'])) (pattern_plan_at_l0 (lim T) (.dp p) i out)
 |0,i,out,h0,h=>by
  rw[pattern_plan_at_l0_eq];unfold pattern_plan_at_b0
  have:¬i<256:=by omega
  simp only[this,decide_false,Bool.false_eq_true,if_false]
  exact .some ⟨_,rfl⟩
 |j+1,i,out,h0,h=>by
  rw[pattern_plan_at_l0_eq];unfold pattern_plan_at_b0
  have hlt:i<256:=by omega
  simp only[hlt,decide_true,if_true,isDp_dp,dpRow_dp]
  refine .bind (at_l1 p i h0 hlt i hm _ 0 out (by omega) (by rw[Int.zero_add])) ?_
  rintro x3 ⟨out',rfl⟩
  simp only[List.cons_append,List.nil_append,gR_s,gC_s,gI_s,gB_s,gS_s,gM_s,gR_z,gC_z,gI_z,gB_z,gS_z,gM_z,hd_r,at_zero,toB_bool,toS_str,toI_int,wrapS (show 0≤i+1 by omega) (show i+1≤1000000000000 by omega)]
  exact at_l0 p hm j (i+1) _ (by omega) (by omega)
theorem at_tot (p:Row) (hm:(at_ p 0).rows.length≤256):Tot (fun r=>∃out,r=[[.dp out]]) ((lim T).pc n_pattern_plan_at [[.dp p]]):=by
 rw[pattern_plan_at_pc];unfold pattern_plan_at
 refine .bind (at_l0 p hm 256 0 _ (by omega) (by omega)) ?_
 rintro x ⟨out,rfl⟩
 exact .some ⟨out,rfl⟩
theorem behind_l (p t:Row) (v4:Row) (hm:(at_ p 1).rows.length≤256):∀(j:Nat) (i:Int) (out:Row),0≤i→i+j=(at_ p 1).rows.length→
 Tot (fun r=>∃out',r=(0,[.r v4, .r out'])) (pattern_plan_behind_l0 (lim T) (.dp p) (.dp t) ((at_ p 1).rows.length:Int) i v4 out)
 |0,i,out,h0,h=>by
  rw[pattern_plan_behind_l0_eq];unfold pattern_plan_behind_b0
  have:¬i<((at_ p 1).rows.length:Int):=by omega
  simp only[this,decide_false,Bool.false_eq_true,if_false]
  exact .some ⟨_,rfl⟩
 |j+1,i,out,h0,h=>by
  rw[pattern_plan_behind_l0_eq];unfold pattern_plan_behind_b0
  have hlt:i<((at_ p 1).rows.length:Int):=by omega
  simp only[hlt,decide_true,if_true]
  obtain ⟨q,e⟩:=set_has (.dp t) rfl h0 (show i<256 by omega)
  refine .eqbind e ?_
  simp only[rowsAt_zero,at_zero,toB_bool,wrapS (show 0≤i+1 by omega) (show i+1≤1000000000000 by omega)]
  refine .ite (fun _=> ?_) fun _=>behind_l p t v4 hm j (i+1) out (by omega) (by omega)
  simp only[isDp_dp,dpRow_dp,hlt,h0,and_self,if_true]
  obtain ⟨out',e'⟩:=set_join19 (rowsAt ((at_ p 1).rows) i.toNat) out
  refine .eqbind e' ?_
  exact behind_l p t v4 hm j (i+1) _ (by omega) (by omega)
theorem behind_tot (p t:Row) (hm:(at_ p 1).rows.length≤256):Tot (fun r=>∃out,r=[out]) ((lim T).pc n_pattern_plan_behind [[.dp p],t]):=by
 rw[pattern_plan_behind_pc];unfold pattern_plan_behind
 simp only[isDp_dp,dpRow_dp,if_true]
 refine .bind (behind_l p t _ hm _ 0 _ (by omega) (by rw[Int.zero_add])) ?_
 rintro x ⟨out,rfl⟩
 exact .some ⟨out,rfl⟩
theorem ends_l (p t:Row):∀(j:Nat) (i:Int),0≤i→i+j=4→
 Tot (fun r=>r=(0,[])∨r=(1,[.r [.bool true]])) (pattern_plan_ends_l0 (lim T) (.dp p) (.dp t) i)
 |0,i,h0,h=>by
  rw[pattern_plan_ends_l0_eq];unfold pattern_plan_ends_b0
  have:¬i<4:=by omega
  simp only[this,decide_false,Bool.false_eq_true,if_false]
  exact .some (.inl rfl)
 |j+1,i,h0,h=>by
  rw[pattern_plan_ends_l0_eq];unfold pattern_plan_ends_b0
  have hlt:i<4:=by omega
  simp only[hlt,decide_true,if_true,h0,isDp_dp,dpRow_dp,and_self,wrapS (show 0≤i+1 by omega) (show i+1≤1000000000000 by omega)]
  exact .ite (fun _=> .some (.inr rfl)) fun _=>ends_l p t j (i+1) (by omega) (by omega)
theorem ends_tot (p t:Row):Tot (fun r=>∃b,r=[[.bool b]]) ((lim T).pc n_pattern_plan_ends [[.dp p],t]):=by
 rw[pattern_plan_ends_pc];unfold pattern_plan_ends
 refine .bind (R:=fun r=>∃q:Bool,r=(0,[.r [.dp p], .r [.dp t], .r [.bool q]])) ?_ ?_
 ·obtain ⟨q,e⟩:=set_has (.dp t) rfl (i:=0) (by omega) (by omega)
  refine .eqbind e ?_
  simp only[isDp_dp,dpRow_dp,if_true]
  exact .ite (fun _=> .some ⟨_,rfl⟩) fun _=> .some ⟨_,rfl⟩
 rintro x4 ⟨q,rfl⟩
 simp only[List.cons_append,List.nil_append,gR_s,gC_s,gI_s,gB_s,gS_s,gM_s,gR_z,gC_z,gI_z,gB_z,gS_z,gM_z,hd_r,at_zero,toB_bool,toS_str,toI_int]
 refine .ite (fun _=> .some ⟨_,rfl⟩) fun _=> .bind (ends_l p t 4 0 (by omega) (by omega)) ?_
 rintro x (rfl |rfl)
 ·exact .some ⟨_,rfl⟩
 ·exact .some ⟨_,rfl⟩
theorem build_l2 (v0:C) (m:Row) (v2 v3 v4:Int) (v6:Row) (v7:List (Row×Row)) (v8:C) (v9 v10:Row) (v12 v13:C) (h30:0≤v3) (h31:v3<256):∀(j:Nat) (i:Int) (t:Row),0≤i→i+j=4→
 Tot (fun r=>∃t',r=(0,[.r [v0], .r [.dp m], .r [.int v2], .r [.int v3], .r [.int v4], .r v6, .m v7, .r [v8], .r v9, .r v10, .r t', .r [v12], .r [v13]])) (pattern_build_l2 (lim T) v0 (.dp m) v2 v3 v4 i v6 v7 v8 v9 v10 t v12 v13)
 |0,i,t,h0,h=>by
  rw[pattern_build_l2_eq];unfold pattern_build_b2
  have:¬i<4:=by omega
  simp only[this,decide_false,Bool.false_eq_true,if_false]
  exact .some ⟨_,rfl⟩
 |j+1,i,t,h0,h=>by
  rw[pattern_build_l2_eq];unfold pattern_build_b2
  have hlt:i<4:=by omega
  simp only[hlt,decide_true,if_true,h0,isDp_dp,dpRow_dp,and_self,h30,h31,wrapS (show 0≤i+1 by omega) (show i+1≤1000000000000 by omega)]
  rw[part1 (k4 h0 hlt),turn1 (k4 h0 hlt)]
  exact build_l2 v0 m v2 v3 v4 v6 v7 v8 v9 v10 v12 v13 h30 h31 j (i+1) _ (by omega) (by omega)
theorem k256 {i:Int} (h0:0≤i) (h1:i<256):(List.replicate 256 (K.int .i16))[0+i.toNat*1]? =some (.int .i16):=by
 rw[List.getElem?_replicate,if_pos (by omega)]
def RowB (n:Nat) (r:Row):Prop:=∀b:Nat,b<256→0≤(at_ r b).toI∧(at_ r b).toI<(n:Int)
def MapB (n:Nat) (m:List (Row×Row)):Prop:=∀e∈m,0≤(at_ e.2 0).toI∧(at_ e.2 0).toI<(n:Int)
theorem RowB.mono {n n':Nat} {r:Row} (h:RowB n r) (k:n≤n'):RowB n' r:=fun b hb=>by have:=h b hb;omega
theorem MapB.mono {n n':Nat} {m:List (Row×Row)} (h:MapB n m) (k:n≤n'):MapB n' m:=fun e he=>by have:=h e he;omega
theorem find_mem {kl:L} {k v:Row}:∀{m:List (Row×Row)},findE kl k m=some v→∃e∈m,e.2=v
 |[],h=>by simp[findE]at h
 |(a,b)::m,h=>by
  rw[findE]at h
  split at h
  ·exact ⟨(a,b),by simp,by simpa using h⟩
  ·obtain ⟨e,e1,e2⟩:=find_mem h
   exact ⟨e,by simp[e1],e2⟩
theorem set_mem {kl:L} {k v:Row}:∀{m:List (Row×Row)} {e:Row×Row},e∈setE kl k v m→e∈m∨e.2=v
 |[],e,h=>by simp[setE]at h;exact .inr (by rw[h])
 |(a,b)::m,e,h=>by
  rw[setE]at h
  split at h
  ·rcases List.mem_cons.1 h with q |q
   ·exact .inr (by rw[q])
   ·exact .inl (by simp[q])
  ·rcases List.mem_cons.1 h with q |q
   ·exact .inl (by simp[q])
   ·rcases set_mem q with w |w
    ·exact .inl (by simp[w])
    ·exact .inr w
theorem put_at (r:Row) (x:C) (off:Nat):∀(n i b:Nat),b<n→at_ (put r off 1 [x] i n) b=if i+b=off then x else at_ r (i+b)
 |n+1,i,0,_=>by
  rw[put,at_zero]
  by_cases h:i=off
  ·subst h
   have e1:Nat.ble i i=true:=Nat.ble_eq_true_of_le (Nat.le_refl _)
   have e2:Nat.blt i (i+1)=true:=Nat.ble_eq_true_of_le (Nat.le_refl _)
   simp[e1,e2]
  ·have:(Nat.ble off i&&Nat.blt i (off+1))=false:=by
    cases e:(Nat.ble off i&&Nat.blt i (off+1))with
    |false=>rfl
    |true=>
     simp only[Bool.and_eq_true]at e
     have e1:=Nat.le_of_ble_eq_true e.1
     have e2:=Nat.le_of_ble_eq_true e.2
     omega
   rw[this];simp[h]
 |n+1,i,b+1,hb=>by
  rw[put,at_succ,put_at r x off n (i+1) b (by omega)]
  rw[show i+1+b=i+(b+1) by omega]
theorem RowB.put {n:Nat} {r:Row} {x:Int} (h:RowB n r) (off:Nat) (h0:0≤x) (h1:x<n):RowB n (Ev.put r off 1 [.int x] 0 256):=fun b hb=>by
 rw[put_at r _ off 256 0 b hb,Nat.zero_add]
 split
 ·exact ⟨h0,h1⟩
 ·exact h b hb
theorem wrapI16 {n:Int} (h0:0≤n) (h1:n≤400):Go.IntKind.wrap .i16 n=n:=by
 simp[IntKind.wrap,IntKind.signed,IntKind.bits];omega
theorem build_l1 (v0:C) (m:Row) (v2:Int) (v4:Row) (v8:Row) (v9 v10:C):∀(j:Nat) (i:Int) (v5:List (Row×Row)) (v6:C) (v7:Row),0≤i→i+j=256→v6.rows.length≤400→MapB v6.rows.length v5→RowB v6.rows.length v7→
 Tot (fun r=>(∃v5' v6' v7',v6.rows.length≤v6'.rows.length∧v6'.rows.length≤400∧MapB v6'.rows.length v5'∧RowB v6'.rows.length v7'∧r=(0,[.r [v0], .r [.dp m], .r [.int v2], .r v4, .m v5', .r [v6'], .r v7', .r [v9], .r [v10]]))∨r=(1,[.r [.int 2], .r [.nils, .nils]])) (pattern_build_l1 (lim T) v0 (.dp m) v2 i v4 v5 v6 v7 v8 v9 v10)
 |0,i,v5,v6,v7,h0,h,hl,hm,hr=>by
  rw[pattern_build_l1_eq];unfold pattern_build_b1
  have:¬i<256:=by omega
  simp only[this,decide_false,Bool.false_eq_true,if_false]
  exact .some (.inl ⟨_,_,_,Nat.le_refl _,hl,hm,hr,rfl⟩)
 |j+1,i,v5,v6,v7,h0,h,hl,hm,hr=>by
  rw[pattern_build_l1_eq];unfold pattern_build_b1
  have hlt:i<256:=by omega
  simp only[hlt,decide_true,if_true]
  refine .bind (build_l2 v0 m v2 i i v4 v5 v6 v7 v8 v9 v10 h0 hlt 4 0 v8 (by omega) (by omega)) ?_
  rintro x7 ⟨t,rfl⟩
  simp only[List.cons_append,List.nil_append,gR_s,gC_s,gI_s,gB_s,gS_s,gM_s,gR_z,gC_z,gI_z,gB_z,gS_z,gM_z,hd_r,at_zero,toB_bool,toS_str,toI_int,headD_c,es_m,wrapS (show 0≤i+1 by omega) (show i+1≤1000000000000 by omega),wrapI16 (show (0:Int)≤(v6.rows.length:Int) by omega) (show (v6.rows.length:Int)≤400 by omega)]
  refine .ite (fun _=> ?_) fun hs=> ?_
  ·refine .pos (by simp;omega) (.ite (fun _=> .some (.inr rfl)) fun e=> ?_)
   have hlen:(appC v6 [t]).rows.length=v6.rows.length+1:=by simp
   have hl2:(appC v6 [t]).rows.length≤400:=by
    have:=of_decide_eq_false (by simpa using e:decide (((appC v6 [t]).rows.length:Int)>400)=false);omega
   refine .pos ⟨h0,hlt⟩ ?_
   rw[turn1 (k256 h0 hlt)]
   refine (build_l1 v0 m v2 v4 v8 v9 v10 j (i+1) _ (appC v6 [t]) _ (by omega) (by omega) hl2 ?_ ?_).mono ?_
   ·intro e he
    rcases set_mem he with q |q
    ·have:=hm e q;rw[hlen];omega
    ·rw[q,hlen];simp only[at_zero,toI_int];omega
   ·exact (hr.mono (by omega)).put _ (by omega) (by rw[hlen];omega)
   ·rintro r (⟨a,b,c,g1,g2,g3,g4,rfl⟩|rfl)
    ·exact .inl ⟨a,b,c,by omega,g2,g3,g4,rfl⟩
    ·exact .inr rfl
  ·refine .pos ⟨h0,hlt⟩ ?_
   rw[turn1 (k256 h0 hlt)]
   refine build_l1 v0 m v2 v4 v8 v9 v10 j (i+1) _ _ _ (by omega) (by omega) hl hm ?_
   cases hf:findE lA3 t v5 with
   |none=>rw[hf]at hs;simp at hs
   |some v=>
    obtain ⟨e,e1,e2⟩:=find_mem hf
    have:=hm e e1
    rw[e2]at this
    exact hr.put _ this.1 this.2
def NextB (n:Nat) (c:C):Prop:=∀k:Nat,k<c.rows.length→RowB n (rowsAt c.rows k)
theorem NextB.app {n n':Nat} {c:C} {r:Row} (h:NextB n c) (k:n≤n') (hr:RowB n' r):NextB n' (appC c [r]):=fun q hq=>by
 rw[appC_rows]at hq⊢
 unfold rowsAt
 rw[List.getD_eq_getElem?_getD]
 by_cases c1:q<c.rows.length
 ·rw[List.getElem?_append_left c1]
  have:=h q c1
  unfold rowsAt at this
  rw[List.getD_eq_getElem?_getD]at this
  exact this.mono k
 ·rw[List.getElem?_append_right (by omega)]
  have:q - c.rows.length=0:=by simp at hq;omega
  rw[this];exact hr
def MachOk (row:Row):Prop:=1≤(at_ row 0).rows.length∧(at_ row 1).rows.length=(at_ row 0).rows.length∧NextB (at_ row 0).rows.length (at_ row 0)
theorem rowB0 {n:Nat} (h:1≤n):RowB n (List.replicate 256 (C.int 0)):=fun b hb=>by
 have:at_ (List.replicate 256 (C.int 0)) b= .int 0:=by rw[at_,List.getD_eq_getElem?_getD,List.getElem?_replicate,if_pos hb];rfl
 rw[this];simp only[toI_int];omega
theorem build_l0 (p m:Row) (hp:PlanOk p) (v3:Row):∀(j:Nat) (i:Int) (v4:List (Row×Row)) (v5 v6 v7:C),0≤i→401≤i+j→i≤v5.rows.length→v5.rows.length≤400→(v6.rows.length:Int)=i→(v7.rows.length:Int)=i→1≤v5.rows.length→MapB v5.rows.length v4→NextB v5.rows.length v6→
 Tot (fun r=>(∃a b c,r=(0,[.r a, .r [b], .r [c]])∧MachOk [b,c])∨r=(1,[.r [.int 2], .r [.nils, .nils]])) (pattern_build_l0 (lim T) (.dp p) (.dp m) i v3 v4 v5 v6 v7)
 |0,i,v4,v5,v6,v7,h0,h,hl,hl2,h6,h7,_,_,_=>by omega
 |j+1,i,v4,v5,v6,v7,h0,h,hl,hl2,h6,h7,h1,hm,hn=>by
  rw[pattern_build_l0_eq];unfold pattern_build_b0
  refine .ite (fun e=> ?_) fun e=> ?_
  rotate_left
  ·refine .some (.inl ⟨_,_,_,rfl, ?_⟩)
   have:¬i<(v5.rows.length:Int):=by simpa using e
   have e5:v5.rows.length=v6.rows.length:=by omega
   refine ⟨?_, ?_, ?_⟩
   ·show 1≤v6.rows.length;omega
   ·show v7.rows.length=v6.rows.length;omega
   ·show NextB v6.rows.length v6;rw[←e5];exact hn
  have hlt:=of_decide_eq_true e
  refine .pos ⟨h0,hlt⟩ ?_
  refine .bind (behind_tot p (rowsAt v5.rows i.toNat) (by have:=hp.1;have:=hp.2.2;omega)) ?_
  rintro y4 ⟨all,rfl⟩
  simp only[rowsAt_zero]
  refine .bind (build_l1 (.dp p) m i v3 all v6 v7 256 0 v4 v5 _ (by omega) (by omega) hl2 hm (rowB0 h1)) ?_
  rintro x10 (⟨v4',v5',v7',g1,g2,g3,g4,rfl⟩|rfl)
  ·simp only[List.cons_append,List.nil_append,gR_s,gC_s,gI_s,gB_s,gS_s,gM_s,gR_z,gC_z,gI_z,gB_z,gS_z,gM_z,hd_r,at_zero,toB_bool,toS_str,toI_int,headD_c,es_m,wrapS (show 0≤i+1 by omega) (show i+1≤1000000000000 by omega)]
   refine .pos (by simp;omega) (.pos ⟨h0,by omega⟩ ?_)
   refine .bind (ends_tot p _) ?_
   rintro y12 ⟨b,rfl⟩
   refine .pos (by simp;omega) ?_
   exact build_l0 p m hp v3 j (i+1) _ _ _ _ (by omega) (by omega) (by omega) g2 (by simp;omega) (by simp;omega) (by omega) g3 (hn.app g1 g4)
  ·exact .some (.inr rfl)
theorem build_tot (s:List UInt8):Tot (fun r=>∃(row:Row) (e:Int),r=[row,[.int e]]∧(e=0→MachOk row)) ((lim T).pc n_pattern_build [[.str s]]):=by
 rw[pattern_build_pc];unfold pattern_build
 refine .bind (parse_tot s) ?_
 rintro y1 ⟨p,e,rfl,hp⟩
 have e1:rowsAt [p,[.int e]] 1=[.int e]:=rfl
 simp only[rowsAt_zero,e1,at_zero,toI_int]
 refine .ite (fun h=> .some ⟨_,e,rfl,fun h'=>by simp[h']at h⟩) fun h=> ?_
 have hp':=hp (by simpa using h)
 obtain ⟨z,ez⟩:=set_add0 (i:=0) (by omega) (by omega) [.int 0, .int 0, .int 0, .int 0]
 refine .eqbind ez ?_
 refine .bind (at_tot p hp'.2.2) ?_
 rintro y3 ⟨m,rfl⟩
 simp only[rowsAt_zero,at_zero,gR_z]
 refine .bind (build_l0 p m hp' _ 401 0 _ _ _ _ (by omega) (by omega) (by simp[C.rows]) (by simp[C.rows]) rfl rfl (by simp[C.rows]) ?_ (fun k hk=>by simp[C.rows]at hk)) ?_
 ·intro e he
  rcases set_mem he with q |q
  ·simp at q
  ·rw[q];simp[C.rows]
 rintro x (⟨a,b,c,rfl,hM⟩|rfl)
 ·exact .some ⟨_,_,rfl,fun _=>hM⟩
 ·exact .some ⟨_,_,rfl,fun h=>by simp at h⟩
theorem patCheck_tot (s:List UInt8):∃e:Int,(lim T).pc n_pattern_Check [[.str s]]=some [[.int e]]:=by
 have:Tot (fun r=>∃e:Int,r=[[.int e]]) ((lim T).pc n_pattern_Check [[.str s]]):=by
  rw[pattern_Check_pc];unfold pattern_Check
  refine .bind (build_tot s) ?_
  rintro y ⟨row,e,rfl,_⟩
  exact .some ⟨_,rfl⟩
 obtain ⟨r,h,e,rfl⟩:=this
 exact ⟨e,h⟩
theorem match_l (s:List UInt8) (hs:s.length≤4294967296) (row:Row) (hM:MachOk row):∀(j i:Nat) (k:Int),i+j=s.length→0≤k→k<((at_ row 0).rows.length:Int)→
 Tot (fun r=>∃k':Int,r=(0,[.r [.int k'], .r row])∧0≤k'∧k'<((at_ row 0).rows.length:Int)) (pattern_Match_l0 (lim T) k (.sl (s.map byteRow)) (s.length:Int) (i:Int) row)
 |0,i,k,h,k0,k1=>by
  rw[pattern_Match_l0_eq];unfold pattern_Match_b0
  have:¬(i:Int)<(s.length:Int):=by omega
  simp only[this,decide_false,Bool.false_eq_true,if_false]
  exact .some ⟨k,rfl,k0,k1⟩
 |j+1,i,k,h,k0,k1=>by
  rw[pattern_Match_l0_eq];unfold pattern_Match_b0
  have hi:i<s.length:=by omega
  have hlt:(i:Int)<(s.length:Int):=by omega
  have hr:rowsAt (s.map byteRow) i=byteRow s[i]:=rowsAt_map _ _ _ hi
  have hb:(at_ (byteRow s[i]) 0).toI=((s[i].toNat:Nat):Int):=rfl
  have hb2:s[i].toNat<256:=s[i].toNat_lt
  have hw:Go.IntKind.wrap .i64 ((i:Int)+1)=((i+1:Nat):Int):=by rw[wrapS (show (0:Int)≤(i:Int)+1 by omega) (show (i:Int)+1≤1000000000000 by omega)];omega
  simp only[hlt,decide_true,if_true,rows_sl,List.length_map,Int.natCast_nonneg,and_self,Int.toNat_natCast,hr,hb,hw]
  refine .pos ⟨k0,k1⟩ (.pos ⟨trivial,by omega,rfl⟩ ?_)
  have hx:=hM.2.2 k.toNat (by omega) (s[i].toNat*1) (by omega)
  exact match_l s hs row hM j (i+1) _ (by omega) hx.1 hx.2
theorem match_tot (p s:List UInt8) (hs:s.length≤4294967296):Tot (fun r=>∃(b:Bool) (e:Int),r=[[.bool b],[.int e]]) ((lim T).pc n_pattern_Match [[.str p],[.str s]]):=by
 rw[pattern_Match_pc];unfold pattern_Match
 refine .bind (build_tot p) ?_
 rintro y1 ⟨row,e,rfl,hM⟩
 have e1:rowsAt [row,[.int e]] 1=[.int e]:=rfl
 simp only[rowsAt_zero,e1,at_zero,toI_int]
 refine .ite (fun _=> .some ⟨_,_,rfl⟩) fun h=> ?_
 have hM':=hM (by simpa using h)
 rw[List.length_map]
 refine .bind (match_l s hs row hM' s.length 0 0 (by omega) (by omega) (by have:=hM'.1;omega)) ?_
 rintro x ⟨k,rfl,k0,k1⟩
 simp only[gI_z,gR_s,gR_z]
 exact .pos ⟨k0,by have:=hM'.2.1;omega⟩ (.some ⟨_,_,rfl⟩)
theorem matches_tot (p s:List UInt8) (hs:s.length≤4294967296):Tot (fun r=>∃b:Bool,r=[[.bool b]]) ((lim T).pc n_types_matches [[.str p],[.str s]]):=by
 rw[types_matches_pc];unfold types_matches
 refine .bind (match_tot p s hs) ?_
 rintro y ⟨b,e,rfl⟩
 exact .some ⟨_,rfl⟩
end Go.Ev.Zzt
namespace Go.Ev.Zzt
abbrev big:Nat:=4294967296
theorem inI_of {i:Nat} (h:i≤big):inI64 ((i:Int)+1):=by unfold big at h;exact ⟨by omega,by omega⟩
theorem wrap_nat {i:Nat} (h:i≤big):IntKind.wrap .i64 ((i:Int)+1)=((i+1:Nat):Int):=by rw[wrap_i64 (inI_of h)];omega
theorem name_l (s:List UInt8) (hN:s.length≤big):∀(j i:Nat),i+j=s.length→
 Tot (fun r=>r=(0,[])∨r=(1,[.r [.bool false]])) (value_Name_l0 (lim T) (.sl (s.map byteRow)) (s.length:Int) (i:Int))
 |0,i,h=>by
  rw[value_Name_l0_eq];unfold value_Name_b0
  have:¬(i:Int)<(s.length:Int):=by omega
  simp only[this,decide_false,Bool.false_eq_true,if_false]
  exact .some (.inl rfl)
 |j+1,i,h=>by
  rw[value_Name_l0_eq];unfold value_Name_b0
  have hlt:(i:Int)<(s.length:Int):=by omega
  simp only[hlt,decide_true,if_true]
  refine .bind (R:=fun r=>r=(0,[.r [.sl (s.map byteRow)], .r [.int (s.length:Int)], .r [.int (i:Int)]])∨r=(1,[.r [.bool false]])) ?_ ?_
  ·refine .pos ⟨by omega,by simpa[C.rows]using hlt⟩ ?_
   repeat' (first |exact .some (.inl rfl)|exact .some (.inr rfl)|refine .ite (fun _=> ?_) fun _=> ?_)
  ·rintro r (rfl |rfl)
   ·simp only[gC_z,gC_s,gI_z,gI_s]
    rw[wrap_nat (by omega)]
    exact name_l s hN j (i+1) (by omega)
   ·exact .some (.inr rfl)
theorem name_tot (s:List UInt8):∃b:Bool,(lim T).pc n_value_Name [[.str s]]=some [[.bool b]]:=by
 have:Tot (fun r=>∃b:Bool,r=[[.bool b]]) ((lim T).pc n_value_Name [[.str s]]):=by
  rw[value_Name_pc];unfold value_Name
  refine .bind (R:=fun r=>∃q:Bool,(q=false→s.length≤16)∧r=(0,[.r [.str s], .r [.bool q]])) ?_ ?_
  ·refine .ite (fun _=> ?_) fun hne=> ?_
   ·simp only[if_true];exact .some ⟨true,fun h=>(by cases h),rfl⟩
   have hpos:0<s.length:=by
    rcases s with _ |⟨a,s⟩
    ·simp at hne
    ·simp
   refine .ite (fun _=> ?_) fun h=> ?_
   ·simp only[if_true];exact .some ⟨true,fun h=>(by cases h),rfl⟩
   have h16:s.length≤16:=by have:=of_decide_eq_false (by simpa using h:decide ((s.length:Int)>16)=false);omega
   refine .pos ⟨by omega,by omega⟩ ?_
   refine .ite (fun _=> .some ⟨true,fun h=>(by cases h),rfl⟩) fun _=> .pos ⟨by omega,by omega⟩ (.some ⟨_,fun _=>h16,rfl⟩)
  rintro r ⟨q,hq,rfl⟩
  simp only[gB_s,gB_z,gS_z,List.length_map]
  refine .ite (fun _=> .some ⟨_,rfl⟩) fun h=> ?_
  refine .bind (name_l s (by have:=hq (by simpa using h);unfold big;omega) s.length 0 (by omega)) ?_
  rintro r (rfl |rfl)
  ·exact .some ⟨_,rfl⟩
  ·exact .some ⟨_,rfl⟩
 obtain ⟨r,h,b,rfl⟩:=this
 exact ⟨b,h⟩
noncomputable def nm (s:List UInt8):Bool:=(name_tot s).choose
theorem name_spec (s:List UInt8):(lim T).pc n_value_Name [[.str s]]=some [[.bool (nm s)]]:=(name_tot s).choose_spec
theorem fld_val (p:Bytes×Val):([at_ (fldRow p) 1,at_ (fldRow p) 2,at_ (fldRow p) 3,at_ (fldRow p) 4]:Row)=p.2.row:=rfl
theorem dec_lt {i n:Nat} (h:i<n):decide ((i:Int)<(n:Int))=true:=decide_eq_true (by omega)
theorem dec_ge {n:Nat}:¬decide ((n:Int)<(n:Int))=true:=by simp
theorem ix_ok {i:Nat} {rows:List Row} (h:i<rows.length):(0:Int)≤(i:Int)∧(i:Int)<(rows.length:Int):=⟨by omega,by omega⟩
abbrev IntT (x:Option (List Row)):Prop:=Tot (fun r=>∃n:Int,r=[[.int n]]) x
theorem vsize_l (v:Val) (hN:v.fs.length≤big) (hc:∀p∈v.fs,IntT ((lim T).pc n_value_Size [p.2.row])):∀(j i:Nat) (a:Int),i+j=v.fs.length→
 Tot (fun r=>∃n:Int,r=(0,[.r [.int n]])) (value_Size_l0 (lim T) a v.fc (v.fs.length:Int) (i:Int))
 |0,i,a,h=>by
  rw[value_Size_l0_eq];unfold value_Size_b0
  obtain rfl:i=v.fs.length:=by omega
  exact .ite (fun h=>absurd h dec_ge) fun _=> .some ⟨_,rfl⟩
 |j+1,i,a,h=>by
  rw[value_Size_l0_eq];unfold value_Size_b0
  have hi:i<v.fs.length:=by omega
  refine .pos (dec_lt hi) (.pos (ix_ok (by simpa using hi)) ?_)
  rw[v.fc_rows,Int.toNat_natCast,rowsAt_map _ _ _ hi,fld_val,wrap_nat (by omega)]
  refine .bind (hc _ (List.getElem_mem hi)) ?_
  rintro r ⟨n,rfl⟩
  exact vsize_l v hN hc j (i+1) _ (by omega)
theorem vsize_tot (v:Val) (hN:v.bulk≤big):IntT ((lim T).pc n_value_Size [v.row]):=by
 have hrec:∀p∈v.fs,IntT ((lim T).pc n_value_Size [p.2.row]):=fun p hp=>by
  have:=Val.size_lt hp
  have hb:=Val.bulk_mem hp
  exact vsize_tot p.2 (by omega)
 rw[value_Size_pc];unfold value_Size
 simp only[at_val3,Val.fc_rows,List.length_map]
 refine .bind (vsize_l v (by have:=v.bulk_len;omega) hrec v.fs.length 0 1 (by omega)) ?_
 rintro r ⟨n,rfl⟩
 exact .some ⟨_,rfl⟩
 termination_by SizeOf.sizeOf v
theorem vdeep_l (v:Val) (hN:v.fs.length≤big) (hc:∀p∈v.fs,IntT ((lim T).pc n_value_Deep [p.2.row])):∀(j i:Nat) (a:Int),i+j=v.fs.length→
 Tot (fun r=>∃n:Int,r=(0,[.r [.int n]])) (value_Deep_l0 (lim T) a v.fc (v.fs.length:Int) (i:Int))
 |0,i,a,h=>by
  rw[value_Deep_l0_eq];unfold value_Deep_b0
  obtain rfl:i=v.fs.length:=by omega
  exact .ite (fun h=>absurd h dec_ge) fun _=> .some ⟨_,rfl⟩
 |j+1,i,a,h=>by
  rw[value_Deep_l0_eq];unfold value_Deep_b0
  have hi:i<v.fs.length:=by omega
  refine .pos (dec_lt hi) (.pos (ix_ok (by simpa using hi)) ?_)
  rw[v.fc_rows,Int.toNat_natCast,rowsAt_map _ _ _ hi,fld_val,wrap_nat (by omega)]
  refine .bind (hc _ (List.getElem_mem hi)) ?_
  rintro r ⟨n,rfl⟩
  exact vdeep_l v hN hc j (i+1) _ (by omega)
theorem vdeep_tot (v:Val) (hN:v.bulk≤big):IntT ((lim T).pc n_value_Deep [v.row]):=by
 have hrec:∀p∈v.fs,IntT ((lim T).pc n_value_Deep [p.2.row]):=fun p hp=>by
  have:=Val.size_lt hp
  have hb:=Val.bulk_mem hp
  exact vdeep_tot p.2 (by omega)
 rw[value_Deep_pc];unfold value_Deep
 simp only[at_val3,Val.fc_rows,List.length_map]
 refine .bind (vdeep_l v (by have:=v.bulk_len;omega) hrec v.fs.length 0 0 (by omega)) ?_
 rintro r ⟨n,rfl⟩
 exact .some ⟨_,rfl⟩
 termination_by SizeOf.sizeOf v
def numK (k:Int):Bool:=(decide (k≥1)&&decide (k≤4))||k==11
def scaK (k:Int):Bool:=(decide (k≥0)&&decide (k≤5))||k==11
def unusedB (v:Val):Bool:=(!numK v.k&&v.n !=0)||(v.k !=5&& !(v.s==[]))||(scaK v.k&&decide ((v.fs.length:Int)>0))
theorem scalar_spec (k:Int):(lim T).pc n_value_Scalar [[.int k]]=some [[.bool (scaK k)]]:=by
 rw[value_Scalar_pc];unfold value_Scalar scaK
 by_cases h:k≥0
 ·by_cases h2:k≤5
  ·simp[h,h2]
  ·simp[h,h2]
 ·simp[h]
theorem Tot.eq {β:Type} {x:Option β} {y:β} (h:Tot (fun r=>r=y) x):x=Option.some y:=by
 obtain ⟨r,e,rfl⟩:=h;exact e
theorem unused_spec (v:Val):(lim T).pc n_value_unused [v.row]=some [[.bool (unusedB v)]]:=by
 refine Tot.eq ?_
 rw[value_unused_pc];unfold value_unused
 refine .bind (R:=fun r=>r=(0,[.r [.dp v.row], .r [.bool (numK v.k)]])) ?_ ?_
 ·simp only[at_val0,toI_int]
  unfold numK
  by_cases h:v.k≥1
  ·by_cases h2:v.k≤4
   ·simp only[h,h2,decide_true,if_true];exact .some rfl
   ·simp only[h,h2,decide_true,decide_false,if_true,Bool.false_eq_true,if_false];exact .some rfl
  ·simp only[h,decide_false,if_true,Bool.false_eq_true,if_false];exact .some rfl
 rintro r rfl
 simp only[gB_s,gB_z,gC_z,dpRow_dp,isDp_dp,if_true,at_val0,at_val1,at_val2,at_val3,toI_int,toS_str,Val.fc_rows,List.length_map]
 unfold unusedB
 have fin:∀a f:Bool,Tot (fun r:List Row=>r=[[C.bool (a ||(scaK v.k&&f))]]) (if a=true then some [[C.bool true]]else ((lim T).pc n_value_Scalar [[C.int v.k]]).bind fun y12=>if (at_ (rowsAt y12 0) 0).toB=true then some [[C.bool f]]else some [[C.bool false]]):=by
  intro a f
  cases a
  ·refine .eqbind (scalar_spec v.k) ?_
   simp only[rowsAt_zero,at_zero,toB_bool]
   cases scaK v.k
   ·exact .some rfl
   ·exact .some rfl
  ·exact .some rfl
 generalize numK v.k=a
 generalize (v.n !=0)=b
 generalize (v.k !=5)=c
 generalize (v.s==[])=d
 generalize decide ((v.fs.length:Int)>0)=f at fin⊢
 cases a<;>cases b<;>cases c<;>cases d<;>first |exact .some rfl |exact fin false f
theorem number_tot (v:Val):Tot (fun r=>∃b:Bool,r=[[.bool b]]) ((lim T).pc n_value_number [v.row]):=by
 rw[value_number_pc];unfold value_number
 repeat' (first |exact .some ⟨_,rfl⟩|refine .ite (fun _=> ?_) fun _=> ?_)
theorem containsFld_tot (c0:C) (c:Row) (h0:c0.rows.length≤big):Tot (fun r=>∃b:Bool,r=[[.bool b]]) ((lim T).pc n_slices_ContainsFunc_api_Field [[c0],[.fn n_value_names_1 [.dp c]]]):=by
 rw[slices_ContainsFunc_api_Field_pc];unfold slices_ContainsFunc_api_Field
 have:IntT ((lim T).pc n_slices_IndexFunc_api_Field [[c0],[.fn n_value_names_1 [.dp c]]]):=by
  rw[slices_IndexFunc_api_Field_pc];unfold slices_IndexFunc_api_Field
  refine .bind (R:=fun r=>r=(0,[])∨∃n:Int,r=(1,[.r [.int n]])) ?_ ?_
  ·have key:∀(j i:Nat),i+j=c0.rows.length→
    Tot (fun r=>r=(0,[])∨∃n:Int,r=(1,[.r [.int n]])) (slices_IndexFunc_api_Field_l0 (lim T) c0 (.fn n_value_names_1 [.dp c]) (c0.rows.length:Int) (i:Int)):=by
    intro j
    induction j with
    |zero=>
     intro i h
     rw[slices_IndexFunc_api_Field_l0_eq];unfold slices_IndexFunc_api_Field_b0
     obtain rfl:i=c0.rows.length:=by omega
     exact .ite (fun h=>absurd h dec_ge) fun _=> .some (.inl rfl)
    |succ j ih=>
     intro i h
     rw[slices_IndexFunc_api_Field_l0_eq];unfold slices_IndexFunc_api_Field_b0
     have hi:i<c0.rows.length:=by omega
     refine .pos (dec_lt hi) (.pos (ix_ok hi) ?_)
     have e:callC (lim T) (.fn n_value_names_1 [.dp c]) [rowsAt c0.rows (i:Int).toNat]=some [[.bool (((at_ (rowsAt c0.rows (i:Int).toNat) 0).toS)==((at_ c 0).toS))]]:=by
      show (lim T).pc n_value_names_1 [rowsAt c0.rows (i:Int).toNat,[.dp c]]=_
      rw[value_names_1_pc];unfold value_names_1
      simp only[isDp_dp,if_true,dpRow_dp]
     refine .eqbind e ?_
     rw[wrap_nat (show i≤big by omega)]
     exact .ite (fun _=> .some (.inr ⟨_,rfl⟩)) fun _=>ih (i+1) (by omega)
   exact key _ 0 (Nat.zero_add _)
  rintro r (rfl |⟨n,rfl⟩)
  ·exact .some ⟨_,rfl⟩
  ·exact .some ⟨_,rfl⟩
 refine .bind this ?_
 rintro r ⟨n,rfl⟩
 exact .some ⟨_,rfl⟩
theorem slcC_len (c:C) (i:Nat) (h:i≤c.rows.length):(slcC c 0 (i:Int)).rows.length=i:=by
 have h0:(C.rows c).length=c.rows.length:=rfl
 unfold slcC
 split
 ·simp[C.rows]at h⊢;omega
 ·simp[C.rows]at h⊢
  split<;>simp_all
theorem vnames_tot (c:C) (h0:c.rows.length≤big):IntT ((lim T).pc n_value_names [[c]]):=by
 rw[value_names_pc];unfold value_names
 refine .bind (R:=fun r=>r=(0,[])∨∃n:Int,r=(1,[.r [.int n]])) ?_ ?_
 ·have key:∀(j i:Nat),i+j=c.rows.length→Tot (fun r=>r=(0,[])∨∃n:Int,r=(1,[.r [.int n]])) (value_names_l0 (lim T) c c (c.rows.length:Int) (i:Int)):=by
   intro j
   induction j with
   |zero=>
    intro i h
    rw[value_names_l0_eq];unfold value_names_b0
    obtain rfl:i=c.rows.length:=by omega
    exact .ite (fun h=>absurd h dec_ge) fun _=> .some (.inl rfl)
   |succ j ih=>
    intro i h
    rw[value_names_l0_eq];unfold value_names_b0
    have hi:i<c.rows.length:=by omega
    refine .pos (dec_lt hi) (.pos (ix_ok hi) ?_)
    refine .eqbind (name_spec _) ?_
    refine .ite (fun _=> .some (.inr ⟨_,rfl⟩)) fun _=> ?_
    refine .pos ⟨by omega,by omega,by omega⟩ ?_
    refine .bind (containsFld_tot _ _ (by rw[slcC_len c i (by omega)];omega)) ?_
    rintro r ⟨b,rfl⟩
    rw[wrap_nat (show i≤big by omega)]
    exact .ite (fun _=> .some (.inr ⟨_,rfl⟩)) fun _=>ih (i+1) (by omega)
  exact key _ 0 (Nat.zero_add _)
 rintro r (rfl |⟨n,rfl⟩)
 ·exact .some ⟨_,rfl⟩
 ·exact .some ⟨_,rfl⟩
theorem vkeys_tot (p:Row) (h0:(at_ p 3).rows.length≤big):IntT ((lim T).pc n_value_keys [p]):=by
 rw[value_keys_pc];unfold value_keys
 refine .bind (R:=fun r=>r=(0,[])∨∃n:Int,r=(1,[.r [.int n]])) ?_ ?_
 ·have key:∀(j i:Nat),i+j=(at_ p 3).rows.length→Tot (fun r=>r=(0,[])∨∃n:Int,r=(1,[.r [.int n]])) (value_keys_l0 (lim T) (.dp p) (at_ p 3) ((at_ p 3).rows.length:Int) (i:Int)):=by
   intro j
   induction j with
   |zero=>
    intro i h
    rw[value_keys_l0_eq];unfold value_keys_b0
    obtain rfl:i=(at_ p 3).rows.length:=by omega
    exact .ite (fun h=>absurd h dec_ge) fun _=> .some (.inl rfl)
   |succ j ih=>
    intro i h
    rw[value_keys_l0_eq];unfold value_keys_b0
    have hi:i<(at_ p 3).rows.length:=by omega
    refine .pos (dec_lt hi) ?_
    refine .bind (R:=fun r=>r=(0,[.r [.dp p], .r [at_ p 3], .r [.int ((at_ p 3).rows.length:Int)], .r [.int (i:Int)]])∨∃n:Int,r=(1,[.r [.int n]])) ?_ ?_
    ·refine .pos (ix_ok hi) ?_
     refine .bind (R:=fun r=>∃(q:Bool) (w:Row),r=(0,[.r [.dp p], .r [.int (i:Int)], .r [at_ p 3], .r [.int ((at_ p 3).rows.length:Int)], .r [.int (i:Int)], .r [.bool q], .r w])) ?_ ?_
     ·simp only[isDp_dp,if_true]
      exact .ite (fun _=> .some ⟨_,_,rfl⟩) fun _=> .some ⟨_,_,rfl⟩
     rintro r ⟨q,w,rfl⟩
     simp only[gB_s,gB_z,gC_s,gC_z,gI_s,gI_z,isDp_dp,if_true,dpRow_dp]
     refine .ite (fun _=> .some (.inr ⟨_,rfl⟩)) fun _=> .ite (fun _=> .some (.inl rfl)) fun _=> .ite (fun _=> .some (.inr ⟨_,rfl⟩)) fun _=> ?_
     refine .ite (fun hpos=> ?_) fun _=> ?_
     ·have hp:(0:Int)<(i:Int):=of_decide_eq_true hpos
      have ew:IntKind.wrap .i64 ((i:Int) - 1)=(i:Int) - 1:=wrapS (by omega) (by unfold big at h0;omega)
      refine .pos (by rw[ew];omega) ?_
      exact .ite (fun _=> .some (.inr ⟨_,rfl⟩)) fun _=> .some (.inl rfl)
     ·exact .ite (fun _=> .some (.inr ⟨_,rfl⟩)) fun _=> .some (.inl rfl)
    rintro r (rfl |⟨n,rfl⟩)
    ·simp only[gC_s,gC_z,gI_s,gI_z]
     rw[wrap_nat (show i≤big by omega)]
     exact ih (i+1) (by omega)
    ·exact .some (.inr ⟨_,rfl⟩)
  exact key _ 0 (Nat.zero_add _)
 rintro r (rfl |⟨n,rfl⟩)
 ·exact .some ⟨_,rfl⟩
 ·exact .some ⟨_,rfl⟩
inductive VOk:Val→Prop where
 |mk {v:Val}:0≤v.k→v.k<12→v.k≠10→unusedB v=false→(v.k=7→v.fs.length=1)→(∀p∈v.fs,VOk p.2)→VOk v
theorem vfields_tot (v:Val) (h0:v.fs.length≤big):Tot (fun r=>∃n:Int,r=[[.int n]]∧(n=0→v.k=7→v.fs.length=1)) ((lim T).pc n_value_fields [v.row]):=by
 rw[value_fields_pc];unfold value_fields
 have h1:(at_ v.row 3).rows.length≤big:=by rw[at_val3,Val.fc_rows,List.length_map];exact h0
 have ek:(at_ v.row 0).toI=v.k:=rfl
 have el:(at_ v.row 3).rows.length=v.fs.length:=by rw[at_val3,Val.fc_rows,List.length_map]
 rw[ek,el]
 have kn:∀{f:List Row→Option (List Row)} {Q:Int→Prop},(∀r,∃n:Int,f r=some [[.int n]]∧Q n)→Tot (fun r=>∃n:Int,r=[[.int n]]∧Q n) (((lim T).pc n_value_names [[at_ v.row 3]]).bind f):=fun hf=> .bind (vnames_tot _ h1) fun r _=>by obtain ⟨n,e,q⟩:=hf r;rw[e];exact .some ⟨n,rfl,q⟩
 have kk:∀{f:List Row→Option (List Row)} {Q:Int→Prop},(∀r,∃n:Int,f r=some [[.int n]]∧Q n)→Tot (fun r=>∃n:Int,r=[[.int n]]∧Q n) (((lim T).pc n_value_keys [v.row]).bind f):=fun hf=> .bind (vkeys_tot _ h1) fun r _=>by obtain ⟨n,e,q⟩:=hf r;rw[e];exact .some ⟨n,rfl,q⟩
 refine .ite (fun h=> ?_) fun _=> .ite (fun h=> ?_) fun _=> .ite (fun h=> ?_) fun h7=> ?_
 ·have:v.k≠7:=by simp at h;omega
  exact .ite (fun _=> .some ⟨_,rfl,fun _ q=>absurd q this⟩) fun _=> .some ⟨_,rfl,fun _ q=>absurd q this⟩
 ·have:v.k≠7:=by simp at h;omega
  exact .ite (fun _=> .some ⟨_,rfl,fun _ q=>absurd q this⟩) fun _=>kn fun r=>⟨_,rfl,fun _ q=>absurd q this⟩
 ·exact .ite (fun _=> .some ⟨3,rfl,fun q=>by cases q⟩) fun c=>kn fun r=>⟨_,rfl,fun _ _=>by simp at c;omega⟩
 ·have:v.k≠7:=by simpa using h7
  refine .ite (fun _=> .ite (fun _=> .ite (fun _=> .some ⟨_,rfl,fun _ q=>absurd q this⟩) fun _=>kk fun r=>⟨_,rfl,fun _ q=>absurd q this⟩) fun _=> .some ⟨_,rfl,fun _ q=>absurd q this⟩) fun _=> ?_
  exact .ite (fun _=> .ite (fun _=> .some ⟨_,rfl,fun _ q=>absurd q this⟩) fun _=>kk fun r=>⟨_,rfl,fun _ q=>absurd q this⟩) fun _=> .some ⟨_,rfl,fun _ q=>absurd q this⟩
theorem vnode_l (v:Val) (hN:v.fs.length≤big) (hc:∀p∈v.fs,Tot (fun r=>∃n:Int,r=[[.int n]]∧(n=0→VOk p.2)) ((lim T).pc n_value_node [p.2.row,[.bool false]])):∀(j i:Nat),i+j=v.fs.length→
 Tot (fun r=>(r=(0,[])∧∀p∈v.fs.drop i,VOk p.2)∨∃n:Int,n≠0∧r=(1,[.r [.int n]])) (value_node_l0 (lim T) v.fc (v.fs.length:Int) (i:Int))
 |0,i,h=>by
  rw[value_node_l0_eq];unfold value_node_b0
  obtain rfl:i=v.fs.length:=by omega
  exact .ite (fun h=>absurd h dec_ge) fun _=> .some (.inl ⟨rfl,fun p hp=>by simp at hp⟩)
 |j+1,i,h=>by
  rw[value_node_l0_eq];unfold value_node_b0
  have hi:i<v.fs.length:=by omega
  refine .pos (dec_lt hi) (.pos (ix_ok (by simpa using hi)) ?_)
  rw[v.fc_rows,Int.toNat_natCast,rowsAt_map _ _ _ hi,fld_val,wrap_nat (by omega)]
  refine .bind (hc _ (List.getElem_mem hi)) ?_
  rintro r ⟨n,rfl,hn⟩
  refine .ite (fun c=> .some (.inr ⟨n,by simpa using c,rfl⟩)) fun c=>(vnode_l v hN hc j (i+1) (by omega)).mono ?_
  rintro r (⟨rfl,hr⟩|hr)
  ·refine .inl ⟨rfl,fun p hp=> ?_⟩
   rw[List.drop_eq_getElem_cons hi]at hp
   rcases List.mem_cons.1 hp with rfl |hp
   ·exact hn (by simpa using c)
   ·exact hr p hp
  ·exact .inr hr
theorem vnode_tot (v:Val) (b:Bool) (hN:v.bulk≤big):Tot (fun r=>∃n:Int,r=[[.int n]]∧(n=0→VOk v)) ((lim T).pc n_value_node [v.row,[.bool b]]):=by
 have hrec:∀p∈v.fs,Tot (fun r=>∃n:Int,r=[[.int n]]∧(n=0→VOk p.2)) ((lim T).pc n_value_node [p.2.row,[.bool false]]):=fun p hp=>by
  have:=Val.size_lt hp
  have hb:=Val.bulk_mem hp
  exact vnode_tot p.2 false (by omega)
 have hlen:v.fs.length≤big:=by have:=v.bulk_len;omega
 rw[value_node_pc];unfold value_node
 refine .bind (R:=fun r=>(r=(0,[.r [.dp v.row]])∧0≤v.k∧v.k<12∧v.k≠10∧unusedB v=false)∨∃n:Int,n≠0∧r=(1,[.r [.int n]])) ?_ ?_
 ·refine .bind (R:=fun r=>∃q:Bool,r=(0,[.r [.dp v.row], .r [.bool q]])∧(q=false→0≤v.k∧v.k<12∧v.k≠10∧unusedB v=false)) ?_ ?_
  ·have ek:(at_ v.row 0).toI=v.k:=rfl
   rw[ek]
   have fin:(0≤v.k∧v.k<12∧v.k≠10)→Tot (fun r=>∃q:Bool,r=(0,[.r [.dp v.row], .r [.bool q]])∧(q=false→0≤v.k∧v.k<12∧v.k≠10∧unusedB v=false)) (((lim T).pc n_value_unused [v.row]).bind fun y9=>some ((0:Nat),([.r [.dp v.row], .r [.bool (at_ (rowsAt y9 0) 0).toB]]:List PV))):=fun hk=>
    .eqbind (unused_spec v) (.some ⟨unusedB v,rfl,fun h=>⟨hk.1,hk.2.1,hk.2.2,h⟩⟩)
   have k0:¬decide (v.k<0)=true→0≤v.k:=fun h=>by simpa using h
   have k1:¬decide (v.k≥12)=true→v.k<12:=fun h=>by simpa using h
   have k2:¬(v.k==10)=true→v.k≠10:=fun h=>by simpa using h
   repeat' (first |exact .some ⟨true,rfl,fun h=>by cases h⟩|exact fin ⟨k0 ‹_›,k1 ‹_›,k2 ‹_›⟩|refine .ite (fun _=> ?_) fun _=> ?_)
  rintro r ⟨q,rfl,hq⟩
  simp only[gB_s,gB_z,gC_z,isDp_dp,if_true,dpRow_dp]
  refine .ite (fun _=> .some (.inr ⟨3,by decide,rfl⟩)) fun h=> ?_
  refine .bind (number_tot v) ?_
  rintro r ⟨b',rfl⟩
  exact .ite (fun _=> .some (.inr ⟨11,by decide,rfl⟩)) fun _=> .some (.inl ⟨rfl,hq (by simpa using h)⟩)
 rintro r (⟨rfl,hu1,hu2,hu3,hu4⟩|⟨n,hn,rfl⟩)
 ·simp only[gC_z,isDp_dp,if_true,dpRow_dp]
  refine .bind (vfields_tot v hlen) ?_
  rintro r ⟨n,rfl,hf⟩
  refine .ite (fun c=> .some ⟨n,rfl,fun h=>by subst h;simp at c⟩) fun c=> ?_
  simp only[at_val3,Val.fc_rows,List.length_map]
  refine .bind (vnode_l v hlen hrec v.fs.length 0 (by omega)) ?_
  rintro r (⟨rfl,hr⟩|⟨n,hn,rfl⟩)
  ·exact .some ⟨_,rfl,fun _=> .mk hu1 hu2 hu3 hu4 (hf (by simpa using c)) hr⟩
  ·exact .some ⟨_,rfl,fun h=>absurd h hn⟩
 ·exact .some ⟨n,rfl,fun h=>absurd h hn⟩
 termination_by SizeOf.sizeOf v
theorem vcheck_tot (v:Val) (hN:v.bulk≤big):∃n:Int,(lim T).pc n_value_Check [v.row]=some [[.int n]]∧(n=0→VOk v):=by
 have:Tot (fun r=>∃n:Int,r=[[.int n]]∧(n=0→VOk v)) ((lim T).pc n_value_Check [v.row]):=by
  rw[value_Check_pc];unfold value_Check
  refine .bind (vsize_tot v hN) ?_
  rintro r ⟨n,rfl⟩
  have fin:∀q:Bool,Tot (fun r=>∃n:Int,r=[[.int n]]∧(n=0→VOk v)) (if q=true then some [[C.int 2]]else ((lim T).pc n_value_node [v.row,[.bool true]]).bind fun y4=>some [[C.int (at_ (rowsAt y4 0) 0).toI]]):=by
   intro q
   refine .ite (fun _=> .some ⟨2,rfl,fun h=>by cases h⟩) fun _=> .bind (vnode_tot v true hN) ?_
   rintro r ⟨n,rfl,h⟩
   exact .some ⟨n,rfl,h⟩
  refine .ite (fun _=> .some ⟨2,rfl,fun h=>by cases h⟩) fun _=> .bind (vdeep_tot v hN) ?_
  rintro r ⟨n,rfl⟩
  exact fin _
 obtain ⟨r,h,n,rfl,h2⟩:=this
 exact ⟨n,h,h2⟩
end Go.Ev.Zzt
